/- Layer 7: numbers as sizes and bits (layer 6). -/
import Derived.Test.YthblohaffipkhaaZ07c
namespace Go.Proofs.Ythblohaffipkhaa.G
open Go.RowKit
set_option linter.unusedVariables false
set_option linter.unusedSimpArgs false

def bln (n : Nat) : Nat := if n = 0 then 0 else n.log2 + 1
theorem bln_le (n k : Nat) : bln n ≤ k ↔ n < 2 ^ k := by
  unfold bln
  split
  · rename_i h; subst h; simp [Nat.pow_pos]
  · rename_i h; rw [← Nat.log2_lt h]; omega
theorem bln_zero : bln 0 = 0 := rfl
theorem bln_eq {n k : Nat} (h1 : 2 ^ k ≤ n) (h2 : n < 2 ^ (k + 1)) : bln n = k + 1 := by
  have a := (bln_le n (k + 1)).2 h2
  have b : ¬ bln n ≤ k := fun h => by have := (bln_le n k).1 h; omega
  omega
theorem bln_pos {n : Nat} (h : 0 < n) : 0 < bln n := by
  rcases Nat.eq_zero_or_pos (bln n) with h0 | h0
  · have := (bln_le n 0).1 (by omega); simp at this; omega
  · exact h0
theorem lt_bln (n : Nat) : n < 2 ^ bln n := (bln_le n _).1 (Nat.le_refl _)
theorem bln_ge {n : Nat} (h : 0 < n) : 2 ^ (bln n - 1) ≤ n := by
  have hp := bln_pos h
  rcases Nat.lt_or_ge n (2 ^ (bln n - 1)) with h1 | h1
  · have := (bln_le n (bln n - 1)).2 h1; omega
  · exact h1
theorem bln_shift {n k : Nat} (h : 2 ^ k ≤ n) : bln n = k + bln (n / 2 ^ k) := by
  have hk : 0 < 2 ^ k := Nat.pow_pos (by omega)
  have hq : 0 < n / 2 ^ k := Nat.div_pos h hk
  have h1 := lt_bln (n / 2 ^ k)
  have h2 := bln_ge hq
  have hb := bln_pos hq
  obtain ⟨m, hm⟩ : ∃ m, bln (n / 2 ^ k) = m + 1 := ⟨bln (n / 2 ^ k) - 1, by omega⟩
  rw [hm] at h1 h2 ⊢
  refine bln_eq (k := k + m) ?_ ?_
  · rw [Nat.pow_add, Nat.mul_comm]
    exact (Nat.le_div_iff_mul_le hk).1 (by simpa using h2)
  · rw [Nat.add_assoc, Nat.pow_add, Nat.mul_comm]
    exact (Nat.div_lt_iff_lt_mul hk).1 h1
theorem bln_mono {a b : Nat} (h : a ≤ b) : bln a ≤ bln b := (bln_le a _).2 (Nat.lt_of_le_of_lt h (lt_bln b))

/-! ### math/bits.Len64 -/
theorem tab_size : strb4f36e89.size = 256 := by decide +kernel
theorem tab_ok : ∀ m : Fin 256, bt strb4f36e89 (m.val : Int) = (bln m.val : Int) := by decide +kernel
theorem shr_nat (k : IntKind) (m j : Nat) (hj : j ≤ k.bits) : shrI k (m : Int) (j : Int) = ((m / 2 ^ j : Nat) : Int) := by
  unfold shrI
  rw [show min (j : Int).toNat k.bits = j from by simp; omega]
  simp
theorem Len64_ok {m : Nat} {H : Hp} {Q : Int → Hp → Prop} (hm : m < 18446744073709551616) (h : Q (bln m : Int) H) : bits_Len64.s m H Q := by
  unfold bits_Len64.s
  have step : ∀ (k : Nat) (c x : Nat), c ≤ 56 → 2 ^ k ≤ x → c + bln x = bln m → c + k + bln (x / 2 ^ k) = bln m := by
    intro k c x _ hx he
    have := bln_shift hx
    omega
  refine Join.intro (fun s H' => ∃ c x : Nat, s = ((x : Int), (c : Int)) ∧ x < 2 ^ 32 ∧ c ≤ 32 ∧ c + bln x = bln m ∧ H = H') ?_ ?_
  · rintro _ _ ⟨c, x, rfl, hx, hc, he, rfl⟩
    refine Join.intro (fun s H' => ∃ c x : Nat, s = ((x : Int), (c : Int)) ∧ x < 2 ^ 16 ∧ c ≤ 48 ∧ c + bln x = bln m ∧ H = H') ?_ ?_
    · rintro _ _ ⟨c, x, rfl, hx, hc, he, rfl⟩
      refine Join.intro (fun s H' => ∃ c x : Nat, s = ((x : Int), (c : Int)) ∧ x < 2 ^ 8 ∧ c ≤ 56 ∧ c + bln x = bln m ∧ H = H') ?_ ?_
      · rintro _ _ ⟨c, x, rfl, hx, hc, he, rfl⟩
        have hx' : x < 256 := hx
        have hw : IntKind.wrap .u8 (x : Int) = x := wu8 (by omega)
        have hb : bln x ≤ 8 := (bln_le x 8).2 hx
        have ht := tab_ok ⟨x, hx'⟩
        simp only at ht
        refine ⟨by rw [hw]; omega, by rw [hw, tab_size]; omega, ?_⟩
        simp only [hw, ht]
        rw [w64 (x := (bln x : Int)) (by omega), w64 (by omega)]
        refine Lt.of ?_
        rw [show (c : Int) + (bln x : Int) = (bln m : Int) from by omega]
        exact h
      · intro J hJ
        dsimp only
        by_cases hge : 2 ^ 8 ≤ x
        · refine ite_t (by simp; omega) (hJ _ _ ⟨c + 8, x / 2 ^ 8, ?_, ?_, by omega, step 8 c x (by omega) hge he, rfl⟩)
          · rw [show (8 : Int) = ((8 : Nat) : Int) from rfl, shr_nat _ _ _ (by simp [IntKind.bits]), w64 (by omega)]; simp
          · omega
        · exact ite_f (by simp; omega) (hJ _ _ ⟨c, x, rfl, by omega, by omega, he, rfl⟩)
    · intro J hJ
      dsimp only
      by_cases hge : 2 ^ 16 ≤ x
      · refine ite_t (by simp; omega) (hJ _ _ ⟨c + 16, x / 2 ^ 16, ?_, ?_, by omega, step 16 c x (by omega) hge he, rfl⟩)
        · rw [show (16 : Int) = ((16 : Nat) : Int) from rfl, shr_nat _ _ _ (by simp [IntKind.bits]), w64 (by omega)]; simp
        · omega
      · exact ite_f (by simp; omega) (hJ _ _ ⟨c, x, rfl, by omega, by omega, he, rfl⟩)
  · intro J hJ
    by_cases hge : 2 ^ 32 ≤ m
    · refine ite_t (by simp; omega) (hJ _ _ ⟨32, m / 2 ^ 32, ?_, ?_, by omega, ?_, rfl⟩)
      · rw [show (32 : Int) = ((32 : Nat) : Int) from rfl, shr_nat _ _ _ (by simp [IntKind.bits])]
      · omega
      · have := step 32 0 m (by omega) hge (by omega); omega
    · exact ite_f (by simp; omega) (hJ _ _ ⟨0, m, rfl, by omega, by omega, by omega, rfl⟩)

/-! ### the program's functions -/
theorem away_ok {v : Int} {H : Hp} {Q : Int → Hp → Prop} (hv : -9223372036854775808 ≤ v ∧ v ≤ 9223372036854775807) (h : Q (v.natAbs : Int) H) : magnitude_away.s v H Q := by
  unfold magnitude_away.s
  by_cases h0 : v < 0
  · refine ite_t (by simpa using h0) (Lt.of ?_)
    have e1 : IntKind.wrap .u64 v = v + 18446744073709551616 := by rw [IntKind.wrap_u64]; omega
    have e2 : IntKind.wrap .u64 (0 - (v + 18446744073709551616)) = (v.natAbs : Int) := by rw [IntKind.wrap_u64]; omega
    rw [e1, e2]
    exact h
  · refine ite_f (by simpa using h0) ?_
    rw [wu64 (by omega), show v = (v.natAbs : Int) from by omega]
    exact h
theorem Size_ok {v : Int} {H : Hp} {Q : Int → Hp → Prop} (hv : -9223372036854775808 ≤ v ∧ v ≤ 9223372036854775807) (h : Q (bln v.natAbs : Int) H) : magnitude_Size.s v H Q := by
  unfold magnitude_Size.s
  refine away_ok hv (Len64_ok (by omega) ?_)
  have : bln v.natAbs ≤ 64 := (bln_le _ 64).2 (by omega)
  rw [w8 (by omega)]
  exact h
theorem shl_one {n : Nat} (hn : n ≤ 62) : shlI .i64 1 (n : Int) = ((2 ^ n : Nat) : Int) := by
  unfold shlI
  rw [show min (n : Int).toNat IntKind.i64.bits = n from by simp [IntKind.bits]; omega, Int.one_mul]
  have h1 : (2 : Nat) ^ n ≤ 2 ^ 62 := Nat.pow_le_pow_right (by omega) hn
  have h62 : (2 : Nat) ^ 62 = 4611686018427387904 := rfl
  rw [h62] at h1
  have hc : (2 : Int) ^ n = ((2 ^ n : Nat) : Int) := by simp
  rw [hc]
  generalize 2 ^ n = m at h1 ⊢
  exact w64 (by omega)
def bitsF (v : Int) : Int := if v < 0 then v - 1 + ((2 ^ bln v.natAbs : Nat) : Int) else v
theorem bln_small {v : Int} : bln v.natAbs ≤ 16 ↔ (-65536 < v ∧ v < 65536) := by
  rw [bln_le]
  have : (2 : Nat) ^ 16 = 65536 := rfl
  omega
theorem pow_small {n : Nat} (hn : n ≤ 16) : 1 ≤ (2 : Nat) ^ n ∧ (2 : Nat) ^ n ≤ 65536 := ⟨Nat.pow_pos (by omega), (Nat.pow_le_pow_right (by omega) hn : 2 ^ n ≤ 2 ^ 16)⟩
theorem bitsF_range {v : Int} (h : bln v.natAbs ≤ 16) : 0 ≤ bitsF v ∧ bitsF v < ((2 ^ bln v.natAbs : Nat) : Int) := by
  have h1 := lt_bln v.natAbs
  have h2 := pow_small h
  unfold bitsF
  split <;> omega
theorem Bits_ok {v : Int} {H : Hp} {Q : (Int × Int × Bool) → Hp → Prop} (hv : -9223372036854775808 ≤ v ∧ v ≤ 9223372036854775807)
    (h : bln v.natAbs ≤ 16 → Q (bitsF v, (bln v.natAbs : Int), true) H) (h' : 16 < bln v.natAbs → Q (0, 0, false) H) : magnitude_Bits.s v H Q := by
  unfold magnitude_Bits.s
  refine Size_ok hv ?_
  by_cases hs : bln v.natAbs ≤ 16
  · refine ite_f (by simp; omega) ?_
    have hvs := bln_small.1 hs
    have hr := bitsF_range hs
    have hp := pow_small hs
    have hlt := lt_bln v.natAbs
    refine Join.intro (fun s H' => s = (if v < 0 then v - 1 else v) ∧ H = H') ?_ ?_
    · rintro _ _ ⟨rfl, rfl⟩
      refine ⟨by omega, ?_⟩
      rw [shl_one (by omega), w64 (x := ((2 ^ bln v.natAbs : Nat) : Int) - 1) (by omega), and_mask _ (by omega)]
      have e : (if v < 0 then v - 1 else v) % ((2 ^ bln v.natAbs : Nat) : Int) = bitsF v := by
        unfold bitsF at hr ⊢
        split
        · rename_i h0
          rw [if_pos h0] at hr
          rw [← Int.add_emod_right, Int.emod_eq_of_lt (by omega) (by omega)]
        · rename_i h0
          exact Int.emod_eq_of_lt (by omega) (by omega)
      rw [e, wu16 (by omega)]
      exact Lt.of (h hs)
    · intro J hJ
      by_cases h0 : v < 0
      · refine ite_t (by simpa using h0) ?_
        rw [w64 (by omega)]
        exact hJ _ _ ⟨by rw [if_pos h0], rfl⟩
      · exact ite_f (by simpa using h0) (hJ _ _ ⟨by rw [if_neg h0], rfl⟩)
  · exact ite_t (by simp; omega) (h' (by omega))
/-- The number of some bits. -/
def valF (b : Int) (n : Nat) : Int := if n = 0 then 0 else if b < ((2 ^ (n - 1) : Nat) : Int) then b - (((2 ^ n : Nat) : Int) - 1) else b
theorem valF_bitsF {v : Int} (h : bln v.natAbs ≤ 16) : valF (bitsF v) (bln v.natAbs) = v := by
  rcases Nat.eq_zero_or_pos v.natAbs with h0 | h0
  · have : v = 0 := by omega
    subst this; decide
  · have hp := bln_pos h0
    have h1 := bln_ge h0
    have h2 := lt_bln v.natAbs
    have h3 := bitsF_range h
    obtain ⟨m, hm⟩ : ∃ m, bln v.natAbs = m + 1 := ⟨bln v.natAbs - 1, by omega⟩
    have e : (2 : Nat) ^ (m + 1) = 2 * 2 ^ m := by rw [Nat.pow_succ]; omega
    rw [hm] at h1 h2
    rw [Nat.add_sub_cancel] at h1
    rw [e] at h2
    have hB : bitsF v = if v < 0 then v - 1 + ((2 * 2 ^ m : Nat) : Int) else v := by unfold bitsF; rw [hm, e]
    rw [hB, hm]
    unfold valF
    rw [if_neg (by omega), Nat.add_sub_cancel, e]
    generalize 2 ^ m = p at h1 h2 ⊢
    by_cases hv : v < 0
    · rw [if_pos hv, if_pos (by omega)]; omega
    · rw [if_neg hv, if_neg (by omega)]
end Go.Proofs.Ythblohaffipkhaa.G
