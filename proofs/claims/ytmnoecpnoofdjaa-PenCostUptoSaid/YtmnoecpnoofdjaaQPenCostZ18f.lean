/- Of this text what the row needs. -/
import Derived.Test.YtmnoecpnoofdjaaQPenCostZ18e
namespace Go.Proofs.Ytmnoecpnoofdjaa.G
open Go.RowKit
set_option linter.unusedVariables false
set_option linter.unusedSimpArgs false
set_option maxRecDepth 20000
def sumN (f : Nat → Nat) : Nat → Nat
  | 0 => 0
  | n + 1 => sumN f n + f n
theorem sumN_le {f : Nat → Nat} {B : Nat} : ∀ {n : Nat}, (∀ i, i < n → f i ≤ B) → sumN f n ≤ n * B
  | 0, _ => by simp [sumN]
  | n + 1, h => by
    have h1 := sumN_le (n := n) fun i hi => h i (by omega)
    have h2 := h n (by omega)
    rw [sumN, Nat.succ_mul]
    omega
theorem sumN_congr {f g : Nat → Nat} : ∀ {n : Nat}, (∀ i, i < n → f i = g i) → sumN f n = sumN g n
  | 0, _ => rfl
  | n + 1, h => by rw [sumN, sumN, sumN_congr (n := n) fun i hi => h i (by omega), h n (by omega)]
theorem sumN_zero : ∀ n : Nat, sumN (fun _ => 0) n = 0
  | 0 => rfl
  | n + 1 => by rw [sumN, sumN_zero n]
theorem sumN_split (f : Nat → Nat) (a : Nat) : ∀ b : Nat, sumN f (a + b) = sumN f a + sumN (fun k => f (a + k)) b
  | 0 => rfl
  | b + 1 => by rw [← Nat.add_assoc, sumN, sumN_split f a b, sumN]; omega
theorem sumN_one (c w : Nat → Nat) (k0 : Nat) : ∀ n : Nat, sumN (fun k => ((if k0 = k then 1 else 0) + c k) * w k) n = (if k0 < n then w k0 else 0) + sumN (fun k => c k * w k) n
  | 0 => by simp [sumN]
  | n + 1 => by
    rw [sumN, sumN_one c w k0 n, sumN]
    by_cases h : k0 = n
    · subst h
      rw [if_neg (by omega), if_pos rfl, if_pos (by omega), Nat.add_mul]; omega
    · rw [if_neg h, Nat.zero_add]
      by_cases h2 : k0 < n
      · rw [if_pos h2, if_pos (by omega)]; omega
      · rw [if_neg h2, if_neg (by omega)]; omega
def wgt (T : TB) (first : Bool) (s : Nat) : Nat := (lkp (prs T.1 T.2) s).1 + if first = true then s else s % 16
theorem bits_step {G w : Nat → Nat} {s : Nat} (h : G s = 0) : sumN (fun k => G k * w k) (s + 1) = sumN (fun k => G k * w k) s := by rw [sumN, h, Nat.zero_mul, Nat.add_zero]
section
variable {H : Hp}
set_option maxHeartbeats 1000000 in
theorem bits18_ok {c : Cn} {s : Sl} {vs : List Nat} {a : Ints 256} {first : Bool} {G : Nat → Nat} {Q : Int × Bool → Hp → Prop} (hc : cOk c) (hs : SlV H s 1 cB vs) (hv : ∀ v ∈ vs, v < 256) (hl : vs.length ≤ 140737488355328) (hz : Chk4 c vs = 0)
    (ha : ∀ k : Nat, k < 256 → ixI a (k : Int) = (G k : Int)) (hG : ∀ k : Nat, k < 256 → G k ≤ 67108864) (hin : ∀ k : Nat, k < 256 → G k ≠ 0 → k ∈ vs)
    (h : ∀ H', Keep H H' → Q (((sumN (fun k => G k * wgt (c, vs) first k) 256 : Nat) : Int), true) H') : mosaiclaw18_bits.s c s a first H Q := by
  unfold mosaiclaw18_bits.s
  intro b1 H2 c2 g1 g1' b3 H4 c4 g3 g3'
  have k4 : Keep H H4 := (c2.keep (by simp)).trans (c4.keep (by simp))
  have y4 := c4.size
  refine New_ok4 hc (hs.keep k4) hv hl (fun hne => absurd hz hne) fun _ t tv H6 T6 k6 ft => ⟨Pv.keep k6 (by simp; omega), ?_⟩
  have y6 := k6.size
  have hm := may4 hz
  refine Join.intro (fun (b : Bool) H' => b = false ∧ H6 = H') ?_ fun J hJ => ite_f rfl (hJ _ _ ⟨rfl, rfl⟩)
  rintro _ _ ⟨rfl, rfl⟩
  refine ite_f rfl ?_
  have hw : ∀ k, k < 256 → wgt (c, vs) first k ≤ 300 := fun k hk => by
    obtain ⟨f1, _, _⟩ := lkp_fit hm k
    unfold wgt
    split <;> dsimp only <;> omega
  have hterm : ∀ k, k < 256 → G k * wgt (c, vs) first k ≤ 20132659200 := fun k hk => by
    have := Nat.mul_le_mul (hG k hk) (hw k hk)
    omega
  refine Fix.intro (fun (x : Int × Int) H' => ∃ i : Nat, x = (((sumN (fun k => G k * wgt (c, vs) first k) i : Nat) : Int), (i : Int)) ∧ i ≤ 256 ∧ H6 = H') (fun x _ => 256 - x.2.toNat) ⟨0, rfl, by omega, rfl⟩ ?_
  rintro _ _ ⟨i, rfl, hi, rfl⟩ rec hrec
  dsimp only
  have hsum := sumN_le (f := fun k => G k * wgt (c, vs) first k) (B := 20132659200) (n := i) fun k hk => hterm k (by omega)
  have hmul : i * 20132659200 ≤ 256 * 20132659200 := Nat.mul_le_mul_right _ hi
  by_cases hil : i < 256
  rotate_left
  · obtain rfl : i = 256 := by omega
    exact ite_f (decf (by omega)) (h H6 (k4.trans k6))
  refine ite_t (dect (by omega)) (Join.intro (fun (x : Int) H' => x = ((sumN (fun k => G k * wgt (c, vs) first k) (i + 1) : Nat) : Int) ∧ H6 = H') ?_ fun J hJ => ⟨by omega, by omega, ?_⟩)
  · rintro _ _ ⟨rfl, rfl⟩
    rw [show (i : Int) + 1 = ((i + 1 : Nat) : Int) from by omega, w64n (by omega)]
    exact hrec _ _ ⟨i + 1, rfl, by omega, rfl⟩ (by dsimp only; omega)
  rw [ha i hil]
  by_cases hg : G i = 0
  · exact ite_t (beqi (by omega)) (hJ _ _ ⟨by rw [bits_step hg], rfl⟩)
  refine ite_f (beqf (by omega)) ?_
  obtain ⟨f1, f2, f3⟩ := lkp_fit hm i
  have hne : (lkp (prs c vs) i).1 ≠ 0 := fun q => f3.1 q (hin i hil hg)
  have hti := hterm i hil
  have hwi := hw i hil
  rw [wu8n (by omega)]
  refine Code_ok T6 hm hil ⟨fun b hb => rfl, ?_⟩
  refine Join.intro (fun (x : Int) H' => x = (((if first = true then i else i % 16 : Nat)) : Int) ∧ H6 = H') ?_ fun J2 hJ2 => ?_
  · rintro _ _ ⟨rfl, rfl⟩
    refine ite_f (beqf (by dsimp only; omega)) ⟨by omega, by omega, Lt.of (hJ _ _ ⟨?_, rfl⟩)⟩
    have e1 : ((((lkp (prs c vs) i).2 : Int), ((lkp (prs c vs) i).1 : Int)) : Int × Int).2 + (((if first = true then i else i % 16 : Nat)) : Int) = ((wgt (c, vs) first i : Nat) : Int) := by
      unfold wgt
      dsimp only
      rw [Int.natCast_add]
    have e2 : (G i : Int) * ((wgt (c, vs) first i : Nat) : Int) = ((G i * wgt (c, vs) first i : Nat) : Int) := by rw [Int.natCast_mul]
    rw [e1, w64n (by omega), e2, w64n (by omega), w64 (by omega), sumN]
    omega
  · cases first with
    | true => exact ite_t rfl (hJ2 _ _ ⟨rfl, rfl⟩)
    | false =>
      refine ite_f rfl (hJ2 _ _ ⟨?_, rfl⟩)
      rw [if_neg (by simp)]
      exact Int.tmod_eq_emod_of_nonneg (by omega)
end
theorem bitsM_len {j : Jb} {TV : Nat → List Nat} {ps : List Pa} (hD : ∀ p ∈ ps, p.dc.toNat < 4 ∧ p.ac.toNat < 4) : ∀ l : List Mk3, (∀ m ∈ l, m.1 < ps.length ∧ syOk3 m.2.1 m.2.2) →
    (bitsM j TV ps l).length = sumN (fun k => cnt18 (selD ps) l k * wgt (tbl j TV (k / 256)) true (k % 256)) 1024 + sumN (fun k => cnt18 (selA ps) l k * wgt (tbl j TV (4 + k / 256)) false (k % 256)) 1024
  | [], _ => by
    have e : ∀ (sel : Mk3 → Option Nat) (w : Nat → Nat), sumN (fun k => cnt18 sel [] k * w k) 1024 = 0 := fun sel w => by
      rw [← sumN_zero 1024]
      refine sumN_congr fun i _ => ?_
      show 0 * _ = 0
      rw [Nat.zero_mul]
    rw [e, e]; rfl
  | m :: l, h => by
    obtain ⟨hp, hx⟩ := h m (by simp)
    obtain ⟨⟨hx1, _, _⟩, hx4, hx5⟩ := hx
    have ih := bitsM_len (j := j) (TV := TV) hD l fun m hm => h m (by simp [hm])
    obtain ⟨q, hq⟩ : ∃ q, ps[m.1]? = some q := ⟨_, List.getElem?_eq_getElem hp⟩
    obtain ⟨d1, d2⟩ := hD q (List.mem_of_getElem? hq)
    have hcons : ∀ (sel : Mk3 → Option Nat) (k : Nat), cnt18 sel (m :: l) k = (if sel m = some k then 1 else 0) + cnt18 sel l k := fun sel k => by
      unfold cnt18
      rw [List.countP_cons]
      by_cases hh : sel m = some k
      · rw [if_pos hh, if_pos (by simp [hh])]; omega
      · rw [if_neg hh, if_neg (by simpa using hh)]; omega
    have miss : ∀ (sel : Mk3 → Option Nat) (w : Nat → Nat), sel m = none → sumN (fun k => cnt18 sel (m :: l) k * w k) 1024 = sumN (fun k => cnt18 sel l k * w k) 1024 := fun sel w hs => sumN_congr fun i _ => by
      rw [hcons, hs, if_neg (by simp), Nat.zero_add]
    have hit : ∀ (sel : Mk3 → Option Nat) (w : Nat → Nat) (k0 : Nat), sel m = some k0 → k0 < 1024 → sumN (fun k => cnt18 sel (m :: l) k * w k) 1024 = w k0 + sumN (fun k => cnt18 sel l k * w k) 1024 := fun sel w k0 hs hk => by
      have := sumN_one (cnt18 sel l) w k0 1024
      rw [if_pos hk] at this
      rw [← this]
      refine sumN_congr fun i _ => ?_
      rw [hcons, hs]
      by_cases e : k0 = i
      · subst e; rw [if_pos rfl, if_pos rfl]
      · rw [if_neg (by simpa using e), if_neg e]
    have hjT := jT_at (j := j) (TV := TV) hq
    have hone : (bitsM j TV ps (m :: l)).length = (lkp (prs (tbM j TV ps m).1 (tbM j TV ps m).2) m.2.2.1).1 + m.2.2.2.1.toNat + (bitsM j TV ps l).length := by
      show ((oneS (tbM j TV ps m) m.2.2) ++ bitsM j TV ps l).length = _
      rw [List.length_append]
      unfold oneS
      rw [List.length_append, codB_len, bl_len]
    rw [hone, ih]
    by_cases hf : m.2.1 = true
    · have hs : selD ps m = some (256 * q.dc.toNat + m.2.2.1) := by unfold selD; rw [if_pos hf, hq]; rfl
      have hs' : selA ps m = none := by unfold selA; rw [if_pos hf]
      have hk : 256 * q.dc.toNat + m.2.2.1 < 1024 := by omega
      rw [hit (selD ps) _ _ hs hk, miss (selA ps) _ hs']
      have e1 : (256 * q.dc.toNat + m.2.2.1) / 256 = q.dc.toNat := by omega
      have e2 : (256 * q.dc.toNat + m.2.2.1) % 256 = m.2.2.1 := by omega
      rw [e1, e2]
      have e3 : tbM j TV ps m = tbl j TV q.dc.toNat := by unfold tbM; rw [if_pos hf, hjT]
      rw [e3]
      rw [if_pos hf] at hx4
      unfold wgt
      rw [if_pos rfl]
      omega
    · have hs : selA ps m = some (256 * q.ac.toNat + m.2.2.1) := by unfold selA; rw [if_neg hf, hq]; rfl
      have hs' : selD ps m = none := by unfold selD; rw [if_neg hf]
      have hk : 256 * q.ac.toNat + m.2.2.1 < 1024 := by omega
      rw [hit (selA ps) _ _ hs hk, miss (selD ps) _ hs']
      have e1 : (256 * q.ac.toNat + m.2.2.1) / 256 = q.ac.toNat := by omega
      have e2 : (256 * q.ac.toNat + m.2.2.1) % 256 = m.2.2.1 := by omega
      rw [e1, e2]
      have e3 : tbM j TV ps m = tbl j TV (4 + q.ac.toNat) := by unfold tbM; rw [if_neg hf, hjT]
      rw [e3]
      rw [if_neg hf] at hx4
      unfold wgt
      rw [if_neg (by simp)]
      omega
end Go.Proofs.Ytmnoecpnoofdjaa.G
