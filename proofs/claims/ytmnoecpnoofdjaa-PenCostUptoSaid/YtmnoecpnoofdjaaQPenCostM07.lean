/- Of this text what the row needs. -/
import Derived.Test.YtmnoecpnoofdjaaQPenCostZS
import Derived.Test.YtmnoecpnoofdjaaQPenCostGT
import Derived.Test.YtmnoecpnoofdjaaQPenCostZW
import Derived.Test.YtmnoecpnoofdjaaQPenCostKruns
import Derived.Test.YtmnoecpnoofdjaaQPenCostKmagnitude
namespace Go.Proofs.Ytmnoecpnoofdjaa.G
open Go.RowKit
set_option linter.unusedVariables false
set_option linter.unusedSimpArgs false
set_option maxRecDepth 20000
def vF (b w : Nat) : Int := if w = 0 ∨ 2 ^ (w - 1) ≤ b then (b : Int) else (b : Int) - ((2 ^ w : Nat) : Int) + 1
def f1 (k : Nat) : Value := .func (.func 67) #[.pointer (some (⟨k, 0, none⟩ : Addr))] #[]
def f2 (k : Nat) : Value := .func (.func 76) #[.pointer (some (⟨k, 0, none⟩ : Addr))] #[]
section
variable {H : Hp} {k : Nat} {pred : Int} {B : List Int} {n : Nat}
end
section
variable {H : Hp} {k : Nat} {pred : Int} {B : List Int} {n : Nat}
end
abbrev Sy := Nat × Int × Nat
def cS (x : Sy) : List Value := c66 (x.1 : Int) x.2.1 (x.2.2 : Int)
theorem cS_len (x : Sy) : (cS x).length = 3 := rfl
theorem cS_ones (x : Sy) : ∀ u ∈ cS x, u.oneCell' = true := one66 _ _ _
def smOk (x : Sy) : Prop := x.1 < 256 ∧ (-128 ≤ x.2.1 ∧ x.2.1 ≤ 127) ∧ x.2.2 < 65536
theorem drop_cons {α : Type} {l : List α} {i : Nat} {x : α} (h : l[i]? = some x) : l.drop i = x :: l.drop (i + 1) := by
  obtain ⟨h1, h2⟩ := List.getElem?_eq_some_iff.1 h
  rw [List.drop_eq_getElem_cons h1, h2]
section
variable {H : Hp} {a : Sl} {pred : Int} {xs : List Sy}
end
def bln (n : Nat) : Nat := if n = 0 then 0 else n.log2 + 1
theorem bln_le (n k : Nat) : bln n ≤ k ↔ n < 2 ^ k := by
  unfold bln
  split
  · rename_i h; subst h; simp [Nat.pow_pos]
  · rename_i h; rw [← Nat.log2_lt h]; omega
theorem bln_eq {n k : Nat} (h1 : 2 ^ k ≤ n) (h2 : n < 2 ^ (k + 1)) : bln n = k + 1 := by
  have a := (bln_le n (k + 1)).2 h2
  have b : ¬ bln n ≤ k := fun h => by have := (bln_le n k).1 h; omega
  omega
theorem bln_pos {n : Nat} (h : 0 < n) : 0 < bln n := by
  rcases Nat.eq_zero_or_pos (bln n) with h0 | h0
  · have := (bln_le n 0).1 (by omega); simp at this; omega
  · exact h0
theorem lt_bln (n : Nat) : n < 2 ^ bln n := (bln_le n _).1 (Nat.le_refl _)
theorem bln_ge {n : Nat} (h : 0 < n) : 2 ^ (bln n - 1) ≤ n := by
  have hp := bln_pos h
  rcases Nat.lt_or_ge n (2 ^ (bln n - 1)) with h1 | h1
  · have := (bln_le n (bln n - 1)).2 h1; omega
  · exact h1
theorem bln_shift {n k : Nat} (h : 2 ^ k ≤ n) : bln n = k + bln (n / 2 ^ k) := by
  have hk : 0 < 2 ^ k := Nat.pow_pos (by omega)
  have hq : 0 < n / 2 ^ k := Nat.div_pos h hk
  have h1 := lt_bln (n / 2 ^ k)
  have h2 := bln_ge hq
  have hb := bln_pos hq
  obtain ⟨m, hm⟩ : ∃ m, bln (n / 2 ^ k) = m + 1 := ⟨bln (n / 2 ^ k) - 1, by omega⟩
  rw [hm] at h1 h2 ⊢
  refine bln_eq (k := k + m) ?_ ?_
  · rw [Nat.pow_add, Nat.mul_comm]
    exact (Nat.le_div_iff_mul_le hk).1 (by simpa using h2)
  · rw [Nat.add_assoc, Nat.pow_add, Nat.mul_comm]
    exact (Nat.div_lt_iff_lt_mul hk).1 h1
theorem tab_size : strb4f36e89.size = 256 := by decide +kernel
theorem tab_ok : ∀ m : Fin 256, bt strb4f36e89 (m.val : Int) = (bln m.val : Int) := by decide +kernel
theorem shr_nat (k : IntKind) (m j : Nat) (hj : j ≤ k.bits) : shrI k (m : Int) (j : Int) = ((m / 2 ^ j : Nat) : Int) := by
  unfold shrI
  rw [show min (j : Int).toNat k.bits = j from by simp; omega]
  simp
theorem Len64_ok {m : Nat} {H : Hp} {Q : Int → Hp → Prop} (hm : m < 18446744073709551616) (h : Q (bln m : Int) H) : bits_Len64.s m H Q := by
  unfold bits_Len64.s
  have step : ∀ (k : Nat) (c x : Nat), c ≤ 56 → 2 ^ k ≤ x → c + bln x = bln m → c + k + bln (x / 2 ^ k) = bln m := by
    intro k c x _ hx he
    have := bln_shift hx
    omega
  refine Join.intro (fun s H' => ∃ c x : Nat, s = ((x : Int), (c : Int)) ∧ x < 2 ^ 32 ∧ c ≤ 32 ∧ c + bln x = bln m ∧ H = H') ?_ ?_
  · rintro _ _ ⟨c, x, rfl, hx, hc, he, rfl⟩
    refine Join.intro (fun s H' => ∃ c x : Nat, s = ((x : Int), (c : Int)) ∧ x < 2 ^ 16 ∧ c ≤ 48 ∧ c + bln x = bln m ∧ H = H') ?_ ?_
    · rintro _ _ ⟨c, x, rfl, hx, hc, he, rfl⟩
      refine Join.intro (fun s H' => ∃ c x : Nat, s = ((x : Int), (c : Int)) ∧ x < 2 ^ 8 ∧ c ≤ 56 ∧ c + bln x = bln m ∧ H = H') ?_ ?_
      · rintro _ _ ⟨c, x, rfl, hx, hc, he, rfl⟩
        have hx' : x < 256 := hx
        have hw : IntKind.wrap .u8 (x : Int) = x := wu8 (by omega)
        have hb : bln x ≤ 8 := (bln_le x 8).2 hx
        have ht := tab_ok ⟨x, hx'⟩
        simp only at ht
        refine ⟨by rw [hw]; omega, by rw [hw, tab_size]; omega, ?_⟩
        simp only [hw, ht]
        rw [w64 (x := (bln x : Int)) (by omega), w64 (by omega)]
        refine Lt.of ?_
        rw [show (c : Int) + (bln x : Int) = (bln m : Int) from by omega]
        exact h
      · intro J hJ
        dsimp only
        by_cases hge : 2 ^ 8 ≤ x
        · refine ite_t (by simp; omega) (hJ _ _ ⟨c + 8, x / 2 ^ 8, ?_, ?_, by omega, step 8 c x (by omega) hge he, rfl⟩)
          · rw [show (8 : Int) = ((8 : Nat) : Int) from rfl, shr_nat _ _ _ (by simp [IntKind.bits]), w64 (by omega)]; simp
          · omega
        · exact ite_f (by simp; omega) (hJ _ _ ⟨c, x, rfl, by omega, by omega, he, rfl⟩)
    · intro J hJ
      dsimp only
      by_cases hge : 2 ^ 16 ≤ x
      · refine ite_t (by simp; omega) (hJ _ _ ⟨c + 16, x / 2 ^ 16, ?_, ?_, by omega, step 16 c x (by omega) hge he, rfl⟩)
        · rw [show (16 : Int) = ((16 : Nat) : Int) from rfl, shr_nat _ _ _ (by simp [IntKind.bits]), w64 (by omega)]; simp
        · omega
      · exact ite_f (by simp; omega) (hJ _ _ ⟨c, x, rfl, by omega, by omega, he, rfl⟩)
  · intro J hJ
    by_cases hge : 2 ^ 32 ≤ m
    · refine ite_t (by simp; omega) (hJ _ _ ⟨32, m / 2 ^ 32, ?_, ?_, by omega, ?_, rfl⟩)
      · rw [show (32 : Int) = ((32 : Nat) : Int) from rfl, shr_nat _ _ _ (by simp [IntKind.bits])]
      · omega
      · have := step 32 0 m (by omega) hge (by omega); omega
    · exact ite_f (by simp; omega) (hJ _ _ ⟨0, m, rfl, by omega, by omega, by omega, rfl⟩)
theorem away_ok {v : Int} {H : Hp} {Q : Int → Hp → Prop} (hv : -9223372036854775808 ≤ v ∧ v ≤ 9223372036854775807) (h : Q (v.natAbs : Int) H) : magnitude_away.s v H Q := by
  unfold magnitude_away.s
  by_cases h0 : v < 0
  · refine ite_t (by simpa using h0) (Lt.of ?_)
    have e1 : IntKind.wrap .u64 v = v + 18446744073709551616 := by rw [IntKind.wrap_u64]; omega
    have e2 : IntKind.wrap .u64 (0 - (v + 18446744073709551616)) = (v.natAbs : Int) := by rw [IntKind.wrap_u64]; omega
    rw [e1, e2]
    exact h
  · refine ite_f (by simpa using h0) ?_
    rw [wu64 (by omega), show v = (v.natAbs : Int) from by omega]
    exact h
theorem Size_ok {v : Int} {H : Hp} {Q : Int → Hp → Prop} (hv : -9223372036854775808 ≤ v ∧ v ≤ 9223372036854775807) (h : Q (bln v.natAbs : Int) H) : magnitude_Size.s v H Q := by
  unfold magnitude_Size.s
  refine away_ok hv (Len64_ok (by omega) ?_)
  have : bln v.natAbs ≤ 64 := (bln_le _ 64).2 (by omega)
  rw [w8 (by omega)]
  exact h
theorem shl_one {n : Nat} (hn : n ≤ 62) : shlI .i64 1 (n : Int) = ((2 ^ n : Nat) : Int) := by
  unfold shlI
  rw [show min (n : Int).toNat IntKind.i64.bits = n from by simp [IntKind.bits]; omega, Int.one_mul]
  have h1 : (2 : Nat) ^ n ≤ 2 ^ 62 := Nat.pow_le_pow_right (by omega) hn
  have h62 : (2 : Nat) ^ 62 = 4611686018427387904 := rfl
  rw [h62] at h1
  have hc : (2 : Int) ^ n = ((2 ^ n : Nat) : Int) := by simp
  rw [hc]
  generalize 2 ^ n = m at h1 ⊢
  exact w64 (by omega)
def bitsF (v : Int) : Int := if v < 0 then v - 1 + ((2 ^ bln v.natAbs : Nat) : Int) else v
theorem bln_small {v : Int} : bln v.natAbs ≤ 16 ↔ (-65536 < v ∧ v < 65536) := by
  rw [bln_le]
  have : (2 : Nat) ^ 16 = 65536 := rfl
  omega
theorem pow_small {n : Nat} (hn : n ≤ 16) : 1 ≤ (2 : Nat) ^ n ∧ (2 : Nat) ^ n ≤ 65536 := ⟨Nat.pow_pos (by omega), (Nat.pow_le_pow_right (by omega) hn : 2 ^ n ≤ 2 ^ 16)⟩
theorem bitsF_range {v : Int} (h : bln v.natAbs ≤ 16) : 0 ≤ bitsF v ∧ bitsF v < ((2 ^ bln v.natAbs : Nat) : Int) := by
  have h1 := lt_bln v.natAbs
  have h2 := pow_small h
  unfold bitsF
  split <;> omega
theorem Bits_ok {v : Int} {H : Hp} {Q : (Int × Int × Bool) → Hp → Prop} (hv : -9223372036854775808 ≤ v ∧ v ≤ 9223372036854775807)
    (h : bln v.natAbs ≤ 16 → Q (bitsF v, (bln v.natAbs : Int), true) H) (h' : 16 < bln v.natAbs → Q (0, 0, false) H) : magnitude_Bits.s v H Q := by
  unfold magnitude_Bits.s
  refine Size_ok hv ?_
  by_cases hs : bln v.natAbs ≤ 16
  · refine ite_f (by simp; omega) ?_
    have hvs := bln_small.1 hs
    have hr := bitsF_range hs
    have hp := pow_small hs
    have hlt := lt_bln v.natAbs
    refine Join.intro (fun s H' => s = (if v < 0 then v - 1 else v) ∧ H = H') ?_ ?_
    · rintro _ _ ⟨rfl, rfl⟩
      refine ⟨by omega, ?_⟩
      rw [shl_one (by omega), w64 (x := ((2 ^ bln v.natAbs : Nat) : Int) - 1) (by omega), and_mask _ (by omega)]
      have e : (if v < 0 then v - 1 else v) % ((2 ^ bln v.natAbs : Nat) : Int) = bitsF v := by
        unfold bitsF at hr ⊢
        split
        · rename_i h0
          rw [if_pos h0] at hr
          rw [← Int.add_emod_right, Int.emod_eq_of_lt (by omega) (by omega)]
        · rename_i h0
          exact Int.emod_eq_of_lt (by omega) (by omega)
      rw [e, wu16 (by omega)]
      exact Lt.of (h hs)
    · intro J hJ
      by_cases h0 : v < 0
      · refine ite_t (by simpa using h0) ?_
        rw [w64 (by omega)]
        exact hJ _ _ ⟨by rw [if_pos h0], rfl⟩
      · exact ite_f (by simpa using h0) (hJ _ _ ⟨by rw [if_neg h0], rfl⟩)
  · exact ite_t (by simp; omega) (h' (by omega))
def valF (b : Int) (n : Nat) : Int := if n = 0 then 0 else if b < ((2 ^ (n - 1) : Nat) : Int) then b - (((2 ^ n : Nat) : Int) - 1) else b
theorem valF_bitsF {v : Int} (h : bln v.natAbs ≤ 16) : valF (bitsF v) (bln v.natAbs) = v := by
  rcases Nat.eq_zero_or_pos v.natAbs with h0 | h0
  · have : v = 0 := by omega
    subst this; decide
  · have hp := bln_pos h0
    have h1 := bln_ge h0
    have h2 := lt_bln v.natAbs
    have h3 := bitsF_range h
    obtain ⟨m, hm⟩ : ∃ m, bln v.natAbs = m + 1 := ⟨bln v.natAbs - 1, by omega⟩
    have e : (2 : Nat) ^ (m + 1) = 2 * 2 ^ m := by rw [Nat.pow_succ]; omega
    rw [hm] at h1 h2
    rw [Nat.add_sub_cancel] at h1
    rw [e] at h2
    have hB : bitsF v = if v < 0 then v - 1 + ((2 * 2 ^ m : Nat) : Int) else v := by unfold bitsF; rw [hm, e]
    rw [hB, hm]
    unfold valF
    rw [if_neg (by omega), Nat.add_sub_cancel, e]
    generalize 2 ^ m = p at h1 h2 ⊢
    by_cases hv : v < 0
    · rw [if_pos hv, if_pos (by omega)]; omega
    · rw [if_neg hv, if_neg (by omega)]
def smF (z : Nat) (v : Int) : Sy := (16 * z + bln v.natAbs, (bln v.natAbs : Int), (bitsF v).toNat)
def wk : Nat → List Int → List Sy
  | z, [] => if 0 < z then [(0, 0, 0)] else []
  | z, v :: r => if v = 0 then wk (z + 1) r else List.replicate (z / 16) (240, 0, 0) ++ smF (z % 16) v :: wk 0 r
theorem wk_16 {z : Nat} {v : Int} {r : List Int} (h : 16 ≤ z) (hv : v ≠ 0) : wk z (v :: r) = (240, 0, 0) :: wk (z - 16) (v :: r) := by
  rw [wk, if_neg hv, wk, if_neg hv, show z / 16 = (z - 16) / 16 + 1 from by omega, List.replicate_succ, show z % 16 = (z - 16) % 16 from by omega]
  rfl
theorem wk_small {z : Nat} {v : Int} {r : List Int} (h : z < 16) (hv : v ≠ 0) : wk z (v :: r) = smF z v :: wk 0 r := by
  rw [wk, if_neg hv, show z / 16 = 0 from by omega, show z % 16 = z from by omega]
  rfl
theorem wk_len : ∀ (r : List Int) (z : Nat), (wk z r).length ≤ z + r.length ∧ (0 < z + r.length → 1 ≤ (wk z r).length)
  | [], z => by unfold wk; split <;> simp <;> omega
  | v :: r, z => by
    unfold wk
    have h1 := wk_len r (z + 1)
    have h2 := wk_len r 0
    split
    · simp; omega
    · simp; omega
theorem smF_ok {z : Nat} {v : Int} (hz : z ≤ 15) (hv : -2047 ≤ v ∧ v ≤ 2047) : bln v.natAbs ≤ 11 ∧ smOk (smF z v) := by
  have h11 : bln v.natAbs ≤ 11 := (bln_le _ _).2 (by have : (2 : Nat) ^ 11 = 2048 := rfl; omega)
  have hr := bitsF_range (v := v) (by omega)
  have hp := pow_lt h11
  have p11 : (2 : Nat) ^ 11 = 2048 := rfl
  refine ⟨h11, ?_⟩
  unfold smOk smF
  simp only
  omega
def mayB (B : List Int) : Prop := (-1024 ≤ B.getD 0 0 ∧ B.getD 0 0 ≤ 1023) ∧ ∀ k, 1 ≤ k → k < 64 → -1023 ≤ B.getD k 0 ∧ B.getD k 0 ≤ 1023
def syF (B : List Int) (pred : Int) : List Sy := smF 0 (B.getD 0 0 - pred) :: wk 0 (B.drop 1)
theorem syF_len {B : List Int} {pred : Int} (hB : B.length = 64) : 2 ≤ (syF B pred).length ∧ (syF B pred).length ≤ 64 := by
  have := wk_len (B.drop 1) 0
  unfold syF
  simp [hB] at this ⊢
  omega
theorem getD_at {B : List Int} {k : Nat} (h : k < B.length) : B[k]? = some (B.getD k 0) := by
  rw [List.getD_eq_getElem?_getD, List.getElem?_eq_getElem h]; rfl
theorem ints_at {B : List Int} {k : Nat} (h : k < B.length) : (ints .i16 B)[k]? = some (.int .i16 (B.getD k 0)) := by
  unfold ints
  rw [List.getElem?_map, getD_at h]; rfl
section
variable {H : Hp}
theorem sym_ok {z : Nat} {v : Int} {Q : Int × Int × Int → Hp → Prop} (hz : z ≤ 15) (hv : -2047 ≤ v ∧ v ≤ 2047) (h : ∀ H', Keep H H' → Q (((smF z v).1 : Int), (smF z v).2.1, ((smF z v).2.2 : Int)) H') : runs_sym.s (z : Int) v H Q := by
  unfold runs_sym.s
  intro b1 H2 c2 g1 g1'
  have k2 : Keep H H2 := c2.keep (by simp)
  have h11 := (smF_ok hz hv).1
  have hr := bitsF_range (v := v) (by omega)
  refine Bits_ok (by omega) (fun _ => ⟨fun _ _ => rfl, fun H6 c6 => ?_⟩) (fun h => by omega)
  have k6 : Keep H H6 := (k2.ch (F := [])).trans c6 (by simp; omega) |>.keep (by simp)
  have e1 : shlI .u8 (IntKind.wrap .u8 (z : Int)) 4 = ((z * 2 ^ 4 : Nat) : Int) := by
    rw [wu8n (by omega)]
    exact shln (k := .u8) (x := z) (n := 4) (by decide) (wu8n (by omega))
  have hor : (z * 2 ^ 4 ||| bln v.natAbs) = 16 * z + bln v.natAbs := by
    have := Nat.two_pow_add_eq_or_of_lt (i := 4) (b := bln v.natAbs) (by omega) z
    rw [Nat.mul_comm z, ← this]
  have e2 := gor (k := .u8) (x := z * 2 ^ 4) (y := bln v.natAbs) (by show _ < 2 ^ 8; omega) (by show _ < 2 ^ 8; omega) (by rw [hor]; exact wu8n (by omega))
  have := h H6 k6
  unfold smF at this
  simp only at this
  rw [Int.toNat_of_nonneg hr.1] at this
  show Q (Go.bits .or .u8 (shlI .u8 (IntKind.wrap .u8 (z : Int)) 4) (IntKind.wrap .u8 (bln v.natAbs : Int)), (bln v.natAbs : Int), bitsF v) H6
  rw [e1, wu8n (x := bln v.natAbs) (by omega), e2, hor]
  exact this
theorem may_ok {B : List Int} {b1 : Nat} {Q : Bool → Hp → Prop} (hb : Bk H b1 57 (ints .i16 B)) (hB : B.length = 64) (h : ∀ r : Bool, (r = true ↔ mayB B) → Q r H) : runs_may.s (some ⟨b1, 0, none⟩) H Q := by
  unfold runs_may.s
  refine Fix.intro (fun (x : Int) H' => ∃ i : Nat, x = (i : Int) ∧ i ≤ 64 ∧ (0 < i → -1024 ≤ B.getD 0 0 ∧ B.getD 0 0 ≤ 1023) ∧ (∀ k, 1 ≤ k → k < i → -1023 ≤ B.getD k 0 ∧ B.getD k 0 ≤ 1023) ∧ H = H') (fun x _ => 64 - x.toNat) ⟨0, rfl, by omega, fun h => by omega, fun k _ h => by omega, rfl⟩ ?_
  rintro _ _ ⟨i, rfl, hi, p0, pk, rfl⟩ rec hrec
  by_cases hil : i < 64
  · refine ite_t (dect (by omega)) ⟨_, rfl, by omega, by omega, ?_⟩
    rw [Int.toNat_natCast, Nat.mul_one]
    refine ldI_a hb (ints_at (by omega)) ?_
    refine Join.intro (fun x H' => x = decide (i = 0 ∧ (B.getD i 0 < -1024 ∨ 1023 < B.getD i 0) ∨ 0 < i ∧ (B.getD i 0 < -1023 ∨ 1023 < B.getD i 0)) ∧ H = H') ?_ fun J hJ => ?_
    rotate_left
    · by_cases h0 : i = 0
      · refine ite_t (beqi (by omega)) ?_
        by_cases h1 : B.getD i 0 < -1024
        · exact ite_t (dect h1) (hJ _ _ ⟨(dect (.inl ⟨h0, .inl h1⟩)).symm, rfl⟩)
        refine ite_f (decf h1) ?_
        by_cases h2 : 1023 < B.getD i 0
        · exact ite_t (dect h2) (hJ _ _ ⟨(dect (.inl ⟨h0, .inr h2⟩)).symm, rfl⟩)
        exact ite_f (decf h2) (ite_f (decf (by omega)) (hJ _ _ ⟨(decf (by omega)).symm, rfl⟩))
      · refine ite_f (beqf (by omega)) (ite_t (dect (by omega)) ?_)
        by_cases h1 : B.getD i 0 < -1023
        · exact ite_t (dect h1) (hJ _ _ ⟨(dect (.inr ⟨by omega, .inl h1⟩)).symm, rfl⟩)
        refine ite_f (decf h1) (hJ _ _ ⟨?_, rfl⟩)
        by_cases h2 : 1023 < B.getD i 0
        · exact (dect h2).trans (dect (.inr ⟨by omega, .inr h2⟩)).symm
        · exact (decf h2).trans (decf (by omega)).symm
    rintro _ _ ⟨rfl, rfl⟩
    by_cases hbad : i = 0 ∧ (B.getD i 0 < -1024 ∨ 1023 < B.getD i 0) ∨ 0 < i ∧ (B.getD i 0 < -1023 ∨ 1023 < B.getD i 0)
    · refine ite_t (dect hbad) (h false ⟨fun e => (by cases e), fun e => ?_⟩)
      rcases hbad with ⟨h0, h1⟩ | ⟨h0, h1⟩
      · subst h0
        have := e.1
        omega
      · have := e.2 i h0 hil
        omega
    · refine ite_f (decf hbad) ?_
      rw [show (i : Int) + 1 = ((i + 1 : Nat) : Int) from by omega, w64n (by omega)]
      refine hrec _ _ ⟨i + 1, rfl, by omega, fun _ => ?_, fun k h1 h2 => ?_, rfl⟩ (by simp; omega)
      · by_cases h0 : i = 0
        · subst h0; omega
        · exact p0 (by omega)
      · by_cases hk : k < i
        · exact pk k h1 hk
        · obtain rfl : k = i := by omega
          omega
  · obtain rfl : i = 64 := by omega
    exact ite_f (decf (by omega)) (h true ⟨fun _ => ⟨p0 (by omega), pk⟩, fun _ => rfl⟩)
end
theorem vF_valF {b w : Nat} (h : b < 2 ^ w) : vF b w = valF (b : Int) w := by
  unfold vF valF
  by_cases h0 : w = 0
  · subst h0
    have : b = 0 := by simpa using h
    subst this
    simp
  · rw [if_neg h0]
    by_cases h1 : 2 ^ (w - 1) ≤ b
    · rw [if_pos (.inr h1), if_neg (by omega)]
    · rw [if_neg (by omega), if_pos (by omega)]; omega
theorem vF_back {v : Int} (h : bln v.natAbs ≤ 11) : vF (bitsF v).toNat (bln v.natAbs) = v ∧ (bitsF v).toNat < 2 ^ bln v.natAbs := by
  have hr := bitsF_range (v := v) (by omega)
  have hlt : (bitsF v).toNat < 2 ^ bln v.natAbs := by omega
  refine ⟨?_, hlt⟩
  rw [vF_valF hlt, Int.toNat_of_nonneg hr.1]
  exact valF_bitsF (by omega)
section
variable {B : List Int} {pred : Int}
theorem wk_mem : ∀ (r : List Int) (z : Nat), (∀ v ∈ r, -1023 ≤ v ∧ v ≤ 1023) → ∀ x ∈ wk z r, x.2.1 = ((x.1 % 16 : Nat) : Int) ∧ x.1 % 16 ≤ 10 ∧ x.2.2 < 2 ^ (x.1 % 16) ∧ smOk x
  | [], z, _, x, h => by
    unfold wk at h
    split at h
    · simp at h; subst h
      refine ⟨rfl, by omega, by decide, ?_⟩
      unfold smOk; simp
    · simp at h
  | v :: r, z, hv, x, h => by
    have hr : ∀ v ∈ r, -1023 ≤ v ∧ v ≤ 1023 := fun u hu => hv u (by simp [hu])
    unfold wk at h
    split at h
    · exact wk_mem r (z + 1) hr x h
    · rename_i hv0
      rcases List.mem_append.1 h with h | h
      · have := List.eq_of_mem_replicate h
        subst this
        refine ⟨rfl, by decide, by decide, ?_⟩
        unfold smOk; simp
      · rcases List.mem_cons.1 h with rfl | h
        · have hb := hv v (by simp)
          have h10 : bln v.natAbs ≤ 10 := (bln_le _ _).2 (by have : (2 : Nat) ^ 10 = 1024 := rfl; omega)
          obtain ⟨q1, q2⟩ := vF_back (v := v) (by omega)
          have e1 : (16 * (z % 16) + bln v.natAbs) % 16 = bln v.natAbs := by omega
          refine ⟨?_, ?_, ?_, (smF_ok (by omega) (by omega)).2⟩
          · show (bln v.natAbs : Int) = (((16 * (z % 16) + bln v.natAbs) % 16 : Nat) : Int)
            rw [e1]
          · show (16 * (z % 16) + bln v.natAbs) % 16 ≤ 10
            omega
          · show (bitsF v).toNat < 2 ^ ((16 * (z % 16) + bln v.natAbs) % 16)
            rw [e1]; exact q2
        · exact wk_mem r 0 hr x h
theorem may_mem (hB : B.length = 64) (hm : mayB B) : ∀ v ∈ B.drop 1, -1023 ≤ v ∧ v ≤ 1023 := fun v hv => by
  obtain ⟨i, hi⟩ := List.mem_iff_getElem?.1 hv
  rw [List.getElem?_drop] at hi
  have hlt := (List.getElem?_eq_some_iff.1 hi).1
  have := hm.2 (1 + i) (by omega) (by omega)
  rw [List.getD_eq_getElem?_getD, hi] at this
  exact this
theorem syF_ok (hB : B.length = 64) (hm : mayB B) (hp : -32768 ≤ pred ∧ pred ≤ 32767) (hd : bln (B.getD 0 0 - pred).natAbs ≤ 11) : ∀ x ∈ syF B pred, smOk x := by
  intro x hx
  rcases List.mem_cons.1 hx with rfl | hx
  · have h1 := (bln_le _ _).1 hd
    have p11 : (2 : Nat) ^ 11 = 2048 := rfl
    exact (smF_ok (by omega) (by omega)).2
  · exact (wk_mem _ _ (may_mem hB hm) x hx).2.2.2
end
end Go.Proofs.Ytmnoecpnoofdjaa.G
