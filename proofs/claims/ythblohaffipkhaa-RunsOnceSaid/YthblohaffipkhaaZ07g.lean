/- Layer 7: RunsStep. -/
import Derived.Test.YthblohaffipkhaaZ07f
namespace Go.Proofs.Ythblohaffipkhaa.G
open Go.RowKit
set_option linter.unusedVariables false
set_option linter.unusedSimpArgs false
set_option maxRecDepth 20000

/-- A list of one's own, made of another. -/
theorem copy_ok {s : Sl} {xs : List Sy} {H : Hp} {K : Sl → Hp → Prop} (hv : SlV H s 3 cS xs) (hl : xs.length * 4 ≤ 140737488355328) (h : ∀ l H', Own H' 42 3 l (xs.flatMap cS) → Keep H H' → (∀ b ∈ fp l, H.size ≤ b) → K l H') :
    ∃ y6 : List Value, y6.length = s.n * 3 ∧ rdS H s.a y6 ∧ apS H ⟨none, 0, 0⟩ 42 3 4 z42.cells s.n y6 K := by
  have hc := hv.cells cS_len cS_ones
  have hn := hv.n
  exact ⟨xs.flatMap cS, hc.1, hc.2, apS_list (xs := []) (ys := xs) (Own.nil _ _ _) cS_len cS_ones rfl (by omega) (by omega) (by simp; omega) (by omega) fun l H8 o8 c8 f8 => h l H8 o8 (c8.keep (by simp [fp])) fun b hb => by have := f8 b hb; simp [fp] at this; omega⟩
theorem wF_err {n y : Nat} (h : (wF n y).2 ≠ 0) : (wF n y).1 = 0 := by
  unfold wF at h ⊢
  split
  · rfl
  rename_i h1
  rw [if_neg h1] at h
  split
  · rename_i h2
    rw [if_pos h2] at h
    split
    · rfl
    · rename_i h3
      rw [if_neg h3] at h
      exact absurd rfl h
  rename_i h2
  rw [if_neg h2] at h
  split
  · rfl
  rename_i h3
  rw [if_neg h3] at h
  split
  · split <;> rfl
  rename_i h4
  rw [if_neg h4] at h
  split
  · rfl
  rename_i h5
  rw [if_neg h5] at h
  split
  · rfl
  · rename_i h6
    rw [if_neg h6] at h
    exact absurd rfl h
theorem tF_w {pred : Int} {B : List Int} {n y b : Nat} {z : Int} : ((wF n y).2 ≠ 0 → (tF pred B n y z b).1 = (wF n y).2) ∧ ((wF n y).2 = 0 → (tF pred B n y z b).1 = 0 → z = (wF n y).1) := by
  unfold tF
  constructor
  · intro h; rw [if_pos h]
  · intro h h2
    rw [if_neg (by omega)] at h2
    by_cases h3 : z ≠ (wF n y).1 ∨ 2 ^ (wF n y).1 ≤ b
    · rw [if_pos h3] at h2; cases h2
    · omega
theorem RunsStep_row (s : Sl) (p : Int) (W : World) (hs : SlH W.heap none 4 3 (X42 none W.heap) s) (hp : -32768 ≤ p ∧ p ≤ 32767) :
    mosaiclaw07_RunsStep.s s p W.heap (fun r H' => r = true ∧ Keep W.heap H') := by
  obtain ⟨xs, v0, hx, z0⟩ := syms_view hs
  have n0 := v0.n
  have c0 := v0.c
  have hb : xs.length * 4 ≤ 140737488355328 := by
    rcases z0 with z | z
    · omega
    · have : s.c * 4 ≤ 140737488351232 := z
      omega
  unfold mosaiclaw07_RunsStep.s
  refine alive_ok fun H2 k2 => copy_ok (v0.keep k2) hb fun l H5 o5 k5 _ => Block_ok7 hp (o5.view cS_len (by omega)) hx (by omega) fun D e H10 hD he k10 => ?_
  have k10' := (k2.trans k5).trans k10
  intro b11 H13 c13 g11 g11'
  have k13 : Keep W.heap H13 := k10'.trans (c13.keep (by simp))
  have y13 := c13.size
  have y10 := k10'.size
  refine Begin_ok hp fun k H15 B15 k15 g15 => ⟨Pv.keep k15 (by simp; omega), ?_⟩
  have e15 := B15.bk.lt
  have y15 := k15.size
  refine Join.intro (fun b H' => b = false ∧ H15 = H') ?_ fun J hJ => ite_f rfl (hJ _ _ ⟨rfl, rfl⟩)
  rintro _ _ ⟨rfl, rfl⟩
  refine ite_f rfl (Fix.intro (fun (x : Int) H' => ∃ (i : Nat) (B : List Int) (n : Nat), x = (i : Int) ∧ i ≤ xs.length ∧ Bld7 H' k p B n ∧ bF p B n (xs.drop i) = blkF p xs ∧ Keep H13 H') (fun x _ => xs.length - x.toNat) ⟨0, _, _, rfl, by omega, B15, rfl, k15⟩ ?_)
  rintro _ H23 ⟨i, B, n, rfl, hi, B23, hF, k23⟩ rec hrec
  have y23 := k23.size
  have e23 := B23.bk.lt
  have nl := B23.le
  by_cases hil : i < xs.length
  · obtain ⟨x, hxi⟩ : ∃ x, xs[i]? = some x := ⟨_, List.getElem?_eq_getElem hil⟩
    obtain ⟨o1, o2, o3⟩ := hx x (List.mem_of_getElem? hxi)
    rw [drop_cons hxi, bF] at hF
    refine ite_t (dect (by omega)) (Block_ok B23 fun b26 H27 hb26 k27 => ⟨Pv.keep k27 (by simp; omega), ?_⟩)
    intro b29 H31 c31 g29 g29'
    have y27 := k27.size
    have y31 := c31.size
    have k31 : Keep H23 H31 := k27.trans (c31.keep (by simp))
    have B31 := B23.keep k31
    refine Done_ok B31 ⟨fun _ _ => rfl, by omega, by omega, ?_⟩
    have kW : Keep W.heap H31 := (k13.trans k23).trans k31
    obtain ⟨b, o, ha, hA⟩ := (v0.keep kW).get hxi
    refine ⟨_, ha, ?_⟩
    rw [Int.toNat_natCast]
    refine ldI_of hA (v := (x.1 : Int)) rfl (Wants_ok B31 o1 ⟨fun _ _ => rfl, by omega, by omega, _, _, _, hA, ?_⟩)
    refine Take_ok B31 o1 o3 fun H51 B51 c51 => ⟨Pv.ch c51 (by simp; omega), ?_⟩
    have kW51 : Keep W.heap H51 := (kW.ch (F := [])).trans c51 (by simp; omega) |>.keep (by simp)
    obtain ⟨b', o', ha', hA'⟩ := (v0.keep kW51).get hxi
    rw [ha] at ha'
    obtain ⟨rfl, rfl⟩ : b = b' ∧ o = o' := by injection ha' with h; injection h with h1 h2; exact ⟨h1, h2⟩
    obtain ⟨w1, w2⟩ := tF_w (pred := p) (B := B) (n := n) (y := x.1) (b := x.2.2) (z := x.2.1)
    have tok := tF_ok (pred := p) (B := B) (n := n) (y := x.1) (b := x.2.2) (z := x.2.1) nl B23.len
    -- nothing is wrong
    refine Join.intro (fun b H' => b = false ∧ H51 = H') ?_ fun J hJ => ?_
    rotate_left
    · by_cases hw : (wF n x.1).2 = 0
      · obtain ⟨q1, q2, _⟩ := wF_ok nl hw
        have last : (if ((wF n x.1).2 : Int) == 0 then J (decide (n = 64)) H51 else J false H51) := by
          refine ite_t (beqi (by omega)) ?_
          rw [decf (by omega)]
          exact hJ _ _ ⟨rfl, rfl⟩
        refine ite_f (bnei (by show ((wF n x.1).2 : Int) = 0; omega)) (ite_t (beqi (by show ((wF n x.1).2 : Int) = 0; omega)) ?_)
        by_cases hf : (tF p B n x.1 x.2.1 x.2.2).1 = 0
        · refine ite_t (beqi (by omega)) ⟨by omega, by omega, ldI_of hA' (v := x.2.1) rfl (ite_f (bnei ?_) last)⟩
          exact (w2 hw hf).symm
        · exact ite_f (beqf (by omega)) last
      · have last : (if ((wF n x.1).2 : Int) == 0 then J (decide (n = 64)) H51 else J false H51) := ite_f (beqf (by omega)) (hJ _ _ ⟨rfl, rfl⟩)
        refine ite_t (bnet (by show ((wF n x.1).2 : Int) ≠ 0; omega)) (ite_f (bnei (by rw [w1 hw])) (ite_f (bnei (by show ((wF n x.1).1 : Int) = 0; rw [wF_err hw]; rfl)) (ite_f (beqf (by show ((wF n x.1).2 : Int) ≠ 0; omega)) last)))
    rintro _ _ ⟨rfl, rfl⟩
    refine ite_f rfl ?_
    by_cases hf : (tF p B n x.1 x.2.1 x.2.2).1 = 0
    · rw [if_neg (by omega)] at hF
      refine ite_f (bnei (by omega)) ?_
      rw [show (i : Int) + 1 = ((i + 1 : Nat) : Int) from by omega, w64n (by omega)]
      exact hrec _ _ ⟨i + 1, _, _, rfl, by omega, B51, hF, ((k23.trans k31).ch (F := [])).trans c51 (by simp; omega) |>.keep (by simp)⟩ (by simp; omega)
    · rw [if_pos hf] at hF
      have hsame := tok.2.2 hf
      rw [hsame] at B51
      refine ite_t (bnet (by omega)) (Join.intro (fun b H' => b = true ∧ Keep W.heap H') (fun b H' ⟨q1, q2⟩ => ⟨q1, q2⟩) fun J hJ => ite_t (beqi (by rw [he, ← hF])) ?_)
      refine Block_ok B51 fun c61 H62 hb61 k62 => ⟨Pv.keep k62 (by have := c51.size; simp; omega), ite_t ?_ (Done_ok (B51.keep k62) ⟨fun _ _ => rfl, hJ _ _ ⟨beq_self_eq_true _, kW51.trans k62⟩⟩)⟩
      show (c61.1 == b26.1) = true
      rw [hb61, hb26, beq_self_eq_true]
  · rw [List.drop_eq_nil_of_le (by omega), bF] at hF
    have kW : Keep W.heap H23 := k13.trans k23
    refine ite_f (decf (by omega)) (Done_ok B23 ⟨fun _ _ => rfl, ?_⟩)
    by_cases h64 : n = 64
    · rw [if_pos h64] at hF
      refine ite_t (dect h64) (Join.intro (fun b H' => b = true ∧ Keep W.heap H') (fun b H' ⟨q1, q2⟩ => ⟨q1, q2⟩) fun J hJ => ite_t (beqi (by rw [he, ← hF]; rfl)) (Block_ok B23 fun c83 H84 hb83 k84 => ⟨Pv.keep k84 (by simp; omega), hJ _ _ ⟨?_, kW.trans k84⟩⟩))
      show (c83.1 == D.1) = true
      rw [hb83, hD, ← hF, beq_self_eq_true]
    · rw [if_neg h64] at hF
      refine ite_f (decf h64) (ite_t (beqi (by rw [he, ← hF]; rfl)) ⟨?_, kW⟩)
      show (D.1 == zB) = true
      rw [hD, ← hF, beq_self_eq_true]
end Go.Proofs.Ythblohaffipkhaa.G
