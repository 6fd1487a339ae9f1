/- Layer 6: what its functions answer (program and reference), over the printed specifications. -/
import Derived.Test.YtacokffnonfacaaKmosaiclaw06
import Derived.Test.YtacokffnonfacaaGE
import Derived.OpenShut
namespace Go.Proofs.Ytacokffnonfacaa.G
open Go.RowKit
set_option linter.unusedVariables false

/-! ### how many bits a number has -/
def bl (n : Nat) : Nat := if n = 0 then 0 else n.log2 + 1
theorem bl_le (n k : Nat) : bl n ≤ k ↔ n < 2 ^ k := by
  unfold bl
  split
  · rename_i h; subst h; simp [Nat.pow_pos]
  · rename_i h; rw [← Nat.log2_lt h]; omega
theorem bl_zero : bl 0 = 0 := rfl
theorem bl_eq {n k : Nat} (h1 : 2 ^ k ≤ n) (h2 : n < 2 ^ (k + 1)) : bl n = k + 1 := by
  have a := (bl_le n (k + 1)).2 h2
  have b : ¬ bl n ≤ k := fun h => by have := (bl_le n k).1 h; omega
  omega
theorem bl_pos {n : Nat} (h : 0 < n) : 0 < bl n := by
  rcases Nat.eq_zero_or_pos (bl n) with h0 | h0
  · have := (bl_le n 0).1 (by omega); simp at this; omega
  · exact h0
theorem lt_bl (n : Nat) : n < 2 ^ bl n := (bl_le n _).1 (Nat.le_refl _)
theorem bl_ge {n : Nat} (h : 0 < n) : 2 ^ (bl n - 1) ≤ n := by
  have hp := bl_pos h
  rcases Nat.lt_or_ge n (2 ^ (bl n - 1)) with h1 | h1
  · have := (bl_le n (bl n - 1)).2 h1; omega
  · exact h1
theorem bl_shift {n k : Nat} (h : 2 ^ k ≤ n) : bl n = k + bl (n / 2 ^ k) := by
  have hk : 0 < 2 ^ k := Nat.pow_pos (by omega)
  have hq : 0 < n / 2 ^ k := Nat.div_pos h hk
  have h1 := lt_bl (n / 2 ^ k)
  have h2 := bl_ge hq
  have hb := bl_pos hq
  obtain ⟨m, hm⟩ : ∃ m, bl (n / 2 ^ k) = m + 1 := ⟨bl (n / 2 ^ k) - 1, by omega⟩
  rw [hm] at h1 h2 ⊢
  refine bl_eq (k := k + m) ?_ ?_
  · rw [Nat.pow_add, Nat.mul_comm]
    exact (Nat.le_div_iff_mul_le hk).1 (by simpa using h2)
  · rw [Nat.add_assoc, Nat.pow_add, Nat.mul_comm]
    exact (Nat.div_lt_iff_lt_mul hk).1 h1
theorem bl_mono {a b : Nat} (h : a ≤ b) : bl a ≤ bl b := (bl_le a _).2 (Nat.lt_of_le_of_lt h (lt_bl b))

/-! ### math/bits.Len64 -/
theorem tab_size : strb4f36e89.size = 256 := by decide +kernel
theorem tab_ok : ∀ m : Fin 256, bt strb4f36e89 (m.val : Int) = (bl m.val : Int) := by decide +kernel
theorem shr_nat (k : IntKind) (m j : Nat) (hj : j ≤ k.bits) : shrI k (m : Int) (j : Int) = ((m / 2 ^ j : Nat) : Int) := by
  unfold shrI
  rw [show min (j : Int).toNat k.bits = j from by simp; omega]
  simp
theorem Len64_ok {m : Nat} {H : Hp} {Q : Int → Hp → Prop} (hm : m < 18446744073709551616) (h : Q (bl m : Int) H) : bits_Len64.s m H Q := by
  unfold bits_Len64.s
  have step : ∀ (k : Nat) (c x : Nat), c ≤ 56 → 2 ^ k ≤ x → c + bl x = bl m → c + k + bl (x / 2 ^ k) = bl m := by
    intro k c x _ hx he
    have := bl_shift hx
    omega
  refine Join.intro (fun s H' => ∃ c x : Nat, s = ((x : Int), (c : Int)) ∧ x < 2 ^ 32 ∧ c ≤ 32 ∧ c + bl x = bl m ∧ H = H') ?_ ?_
  · rintro _ _ ⟨c, x, rfl, hx, hc, he, rfl⟩
    refine Join.intro (fun s H' => ∃ c x : Nat, s = ((x : Int), (c : Int)) ∧ x < 2 ^ 16 ∧ c ≤ 48 ∧ c + bl x = bl m ∧ H = H') ?_ ?_
    · rintro _ _ ⟨c, x, rfl, hx, hc, he, rfl⟩
      refine Join.intro (fun s H' => ∃ c x : Nat, s = ((x : Int), (c : Int)) ∧ x < 2 ^ 8 ∧ c ≤ 56 ∧ c + bl x = bl m ∧ H = H') ?_ ?_
      · rintro _ _ ⟨c, x, rfl, hx, hc, he, rfl⟩
        have hx' : x < 256 := hx
        have hw : IntKind.wrap .u8 (x : Int) = x := wu8 (by omega)
        have hb : bl x ≤ 8 := (bl_le x 8).2 hx
        have ht := tab_ok ⟨x, hx'⟩
        simp only at ht
        refine ⟨by rw [hw]; omega, by rw [hw, tab_size]; omega, ?_⟩
        simp only [hw, ht]
        rw [w64 (x := (bl x : Int)) (by omega), w64 (by omega)]
        refine Lt.of ?_
        rw [show (c : Int) + (bl x : Int) = (bl m : Int) from by omega]
        exact h
      · intro J hJ
        dsimp only
        by_cases hge : 2 ^ 8 ≤ x
        · refine ite_t (by simp; omega) (hJ _ _ ⟨c + 8, x / 2 ^ 8, ?_, ?_, by omega, step 8 c x (by omega) hge he, rfl⟩)
          · rw [show (8 : Int) = ((8 : Nat) : Int) from rfl, shr_nat _ _ _ (by simp [IntKind.bits]), w64 (by omega)]; simp
          · omega
        · exact ite_f (by simp; omega) (hJ _ _ ⟨c, x, rfl, by omega, by omega, he, rfl⟩)
    · intro J hJ
      dsimp only
      by_cases hge : 2 ^ 16 ≤ x
      · refine ite_t (by simp; omega) (hJ _ _ ⟨c + 16, x / 2 ^ 16, ?_, ?_, by omega, step 16 c x (by omega) hge he, rfl⟩)
        · rw [show (16 : Int) = ((16 : Nat) : Int) from rfl, shr_nat _ _ _ (by simp [IntKind.bits]), w64 (by omega)]; simp
        · omega
      · exact ite_f (by simp; omega) (hJ _ _ ⟨c, x, rfl, by omega, by omega, he, rfl⟩)
  · intro J hJ
    by_cases hge : 2 ^ 32 ≤ m
    · refine ite_t (by simp; omega) (hJ _ _ ⟨32, m / 2 ^ 32, ?_, ?_, by omega, ?_, rfl⟩)
      · rw [show (32 : Int) = ((32 : Nat) : Int) from rfl, shr_nat _ _ _ (by simp [IntKind.bits])]
      · omega
      · have := step 32 0 m (by omega) hge (by omega); omega
    · exact ite_f (by simp; omega) (hJ _ _ ⟨0, m, rfl, by omega, by omega, by omega, rfl⟩)

/-! ### the program's functions -/
theorem away_ok {v : Int} {H : Hp} {Q : Int → Hp → Prop} (hv : -9223372036854775808 ≤ v ∧ v ≤ 9223372036854775807) (h : Q (v.natAbs : Int) H) : magnitude_away.s v H Q := by
  unfold magnitude_away.s
  by_cases h0 : v < 0
  · refine ite_t (by simpa using h0) (Lt.of ?_)
    have e1 : IntKind.wrap .u64 v = v + 18446744073709551616 := by rw [IntKind.wrap_u64]; omega
    have e2 : IntKind.wrap .u64 (0 - (v + 18446744073709551616)) = (v.natAbs : Int) := by rw [IntKind.wrap_u64]; omega
    rw [e1, e2]
    exact h
  · refine ite_f (by simpa using h0) ?_
    rw [wu64 (by omega), show v = (v.natAbs : Int) from by omega]
    exact h
theorem Size_ok {v : Int} {H : Hp} {Q : Int → Hp → Prop} (hv : -9223372036854775808 ≤ v ∧ v ≤ 9223372036854775807) (h : Q (bl v.natAbs : Int) H) : magnitude_Size.s v H Q := by
  unfold magnitude_Size.s
  refine away_ok hv (Len64_ok (by omega) ?_)
  have : bl v.natAbs ≤ 64 := (bl_le _ 64).2 (by omega)
  rw [w8 (by omega)]
  exact h
theorem shl_one {n : Nat} (hn : n ≤ 62) : shlI .i64 1 (n : Int) = ((2 ^ n : Nat) : Int) := by
  unfold shlI
  rw [show min (n : Int).toNat IntKind.i64.bits = n from by simp [IntKind.bits]; omega, Int.one_mul]
  have h1 : (2 : Nat) ^ n ≤ 2 ^ 62 := Nat.pow_le_pow_right (by omega) hn
  have h62 : (2 : Nat) ^ 62 = 4611686018427387904 := rfl
  rw [h62] at h1
  have hc : (2 : Int) ^ n = ((2 ^ n : Nat) : Int) := by simp
  rw [hc]
  generalize 2 ^ n = m at h1 ⊢
  exact w64 (by omega)
theorem and_mask (a : Int) {n : Nat} (hn : n ≤ 62) : Go.bits .and .i64 a (((2 ^ n : Nat) : Int) - 1) = a % ((2 ^ n : Nat) : Int) := by
  have h0 : 0 < (2 : Nat) ^ n := Nat.pow_pos (by omega)
  have h1 : (2 : Nat) ^ n ≤ 2 ^ 62 := Nat.pow_le_pow_right (by omega) hn
  have h62 : (2 : Nat) ^ 62 = 4611686018427387904 := rfl
  have hd : ((2 ^ n : Nat) : Int) ∣ ((2 ^ 64 : Nat) : Int) := by
    refine Int.natCast_dvd_natCast.2 (Nat.pow_dvd_pow 2 (by omega))
  show IntKind.wrap .i64 ((BitVec.ofInt 64 a &&& BitVec.ofInt 64 (((2 ^ n : Nat) : Int) - 1)).toNat : Int) = _
  rw [BitVec.toNat_and]
  have hm : (BitVec.ofInt 64 (((2 ^ n : Nat) : Int) - 1)).toNat = 2 ^ n - 1 := by
    rw [BitVec.toNat_ofInt]
    rw [show (((2 ^ n : Nat) : Int) - 1) = ((2 ^ n - 1 : Nat) : Int) from by omega]
    rw [show ((2 ^ 64 : Nat) : Int) = (18446744073709551616 : Int) from rfl]
    omega
  rw [hm, Nat.and_two_pow_sub_one_eq_mod, BitVec.toNat_ofInt]
  have e : ((((a % ((2 ^ 64 : Nat) : Int)).toNat % 2 ^ n : Nat)) : Int) = a % ((2 ^ n : Nat) : Int) := by
    rw [Int.natCast_emod, Int.toNat_of_nonneg (Int.emod_nonneg _ (by simp)), Int.emod_emod_of_dvd _ hd]
  rw [e]
  have h2 := Int.emod_nonneg a (b := ((2 ^ n : Nat) : Int)) (by omega)
  have h3 := Int.emod_lt_of_pos a (b := ((2 ^ n : Nat) : Int)) (by omega)
  exact w64 (by omega)
/-- A number's bits. -/
def bitsF (v : Int) : Int := if v < 0 then v - 1 + ((2 ^ bl v.natAbs : Nat) : Int) else v
theorem bl_small {v : Int} : bl v.natAbs ≤ 16 ↔ (-65536 < v ∧ v < 65536) := by
  rw [bl_le]
  have : (2 : Nat) ^ 16 = 65536 := rfl
  omega
theorem pow_small {n : Nat} (hn : n ≤ 16) : 1 ≤ (2 : Nat) ^ n ∧ (2 : Nat) ^ n ≤ 65536 := ⟨Nat.pow_pos (by omega), (Nat.pow_le_pow_right (by omega) hn : 2 ^ n ≤ 2 ^ 16)⟩
theorem bitsF_range {v : Int} (h : bl v.natAbs ≤ 16) : 0 ≤ bitsF v ∧ bitsF v < ((2 ^ bl v.natAbs : Nat) : Int) := by
  have h1 := lt_bl v.natAbs
  have h2 := pow_small h
  unfold bitsF
  split <;> omega
theorem Bits_ok {v : Int} {H : Hp} {Q : (Int × Int × Bool) → Hp → Prop} (hv : -9223372036854775808 ≤ v ∧ v ≤ 9223372036854775807)
    (h : bl v.natAbs ≤ 16 → Q (bitsF v, (bl v.natAbs : Int), true) H) (h' : 16 < bl v.natAbs → Q (0, 0, false) H) : magnitude_Bits.s v H Q := by
  unfold magnitude_Bits.s
  refine Size_ok hv ?_
  by_cases hs : bl v.natAbs ≤ 16
  · refine ite_f (by simp; omega) ?_
    have hvs := bl_small.1 hs
    have hr := bitsF_range hs
    have hp := pow_small hs
    have hlt := lt_bl v.natAbs
    refine Join.intro (fun s H' => s = (if v < 0 then v - 1 else v) ∧ H = H') ?_ ?_
    · rintro _ _ ⟨rfl, rfl⟩
      refine ⟨by omega, ?_⟩
      rw [shl_one (by omega), w64 (x := ((2 ^ bl v.natAbs : Nat) : Int) - 1) (by omega), and_mask _ (by omega)]
      have e : (if v < 0 then v - 1 else v) % ((2 ^ bl v.natAbs : Nat) : Int) = bitsF v := by
        unfold bitsF at hr ⊢
        split
        · rename_i h0
          rw [if_pos h0] at hr
          rw [← Int.add_emod_right, Int.emod_eq_of_lt (by omega) (by omega)]
        · rename_i h0
          exact Int.emod_eq_of_lt (by omega) (by omega)
      rw [e, wu16 (by omega)]
      exact Lt.of (h hs)
    · intro J hJ
      by_cases h0 : v < 0
      · refine ite_t (by simpa using h0) ?_
        rw [w64 (by omega)]
        exact hJ _ _ ⟨by rw [if_pos h0], rfl⟩
      · exact ite_f (by simpa using h0) (hJ _ _ ⟨by rw [if_neg h0], rfl⟩)
  · exact ite_t (by simp; omega) (h' (by omega))
/-- The number of some bits. -/
def valF (b : Int) (n : Nat) : Int := if n = 0 then 0 else if b < ((2 ^ (n - 1) : Nat) : Int) then b - (((2 ^ n : Nat) : Int) - 1) else b
theorem Value_ok {b s : Int} {H : Hp} {Q : (Int × Bool) → Hp → Prop} (hb : 0 ≤ b ∧ b ≤ 65535) (hs : -128 ≤ s ∧ s ≤ 127)
    (h : 0 ≤ s → s ≤ 16 → b < ((2 ^ s.toNat : Nat) : Int) → Q (valF b s.toNat, true) H) (h' : (s < 0 ∨ 16 < s ∨ ((2 ^ s.toNat : Nat) : Int) ≤ b) → Q (0, false) H) : magnitude_Value.s b s H Q := by
  unfold magnitude_Value.s
  refine Join.intro (fun x H' => x = decide (s < 0 ∨ 16 < s ∨ ((2 ^ s.toNat : Nat) : Int) ≤ b) ∧ H = H') ?_ ?_
  · rintro _ _ ⟨rfl, rfl⟩
    by_cases hc : s < 0 ∨ 16 < s ∨ ((2 ^ s.toNat : Nat) : Int) ≤ b
    · exact ite_t (by simpa using hc) (h' hc)
    · refine ite_f (by simpa using hc) ?_
      have h0 : 0 ≤ s := by omega
      have h16 : s ≤ 16 := by omega
      have hlt : b < ((2 ^ s.toNat : Nat) : Int) := by omega
      have hq := h h0 h16 hlt
      obtain ⟨n, rfl⟩ : ∃ n : Nat, s = n := ⟨s.toNat, by omega⟩
      rw [Int.toNat_natCast] at hq hlt
      have hp := pow_small (n := n) (by omega)
      unfold valF at hq
      by_cases hn : n = 0
      · rw [if_pos hn] at hq
        exact ite_t (by simp; omega) hq
      · rw [if_neg hn] at hq
        refine ite_f (by simp; omega) ?_
        obtain ⟨m, rfl⟩ : ∃ m, n = m + 1 := ⟨n - 1, by omega⟩
        have hp2 : (2 : Nat) ^ (m + 1) = 2 * 2 ^ m := by rw [Nat.pow_succ]; omega
        have hpm := pow_small (n := m) (by omega)
        rw [w8 (by omega), show (((m + 1 : Nat) : Int) - 1) = (m : Int) from by omega]
        refine ⟨by omega, ?_⟩
        obtain ⟨c, rfl⟩ : ∃ c : Nat, b = c := ⟨b.toNat, by omega⟩
        rw [shr_nat _ _ _ (by simp [IntKind.bits]; omega), shl_one (by omega)]
        simp only [Nat.add_sub_cancel] at hq
        have hdiv : c / 2 ^ m = 0 ↔ c < 2 ^ m := by rw [Nat.div_eq_zero_iff]; omega
        by_cases hcm : c < 2 ^ m
        · rw [if_pos (by omega)] at hq
          refine ite_t (by rw [hdiv.2 hcm]; rfl) ⟨by omega, Lt.of ?_⟩
          rw [w64 (x := (c : Int)) (by omega), w64 (x := ((2 ^ (m + 1) : Nat) : Int) - 1) (by omega), w64 (by omega)]
          exact hq
        · rw [if_neg (by omega)] at hq
          have hne : ¬ c / 2 ^ m = 0 := fun e => hcm (hdiv.1 e)
          refine ite_f (beq_eq_false_iff_ne.2 (by omega)) ?_
          rw [w64 (by omega)]
          exact hq
  · intro J hJ
    by_cases h0 : s < 0
    · exact ite_t (by simpa using h0) (hJ _ _ ⟨by simp [h0], rfl⟩)
    refine ite_f (by simpa using h0) ?_
    by_cases h16 : 16 < s
    · exact ite_t (by simpa using h16) (hJ _ _ ⟨by simp [h16], rfl⟩)
    refine ite_f (by simpa using h16) ⟨by omega, hJ _ _ ⟨?_, rfl⟩⟩
    obtain ⟨n, rfl⟩ : ∃ n : Nat, s = n := ⟨s.toNat, by omega⟩
    rw [shl_one (by omega), w64 (by omega), Int.toNat_natCast]
    congr 1
    simp only [eq_iff_iff]
    omega
theorem pow_mono {m n : Nat} (h : m ≤ n) : (2 : Nat) ^ m ≤ 2 ^ n := Nat.pow_le_pow_right (by omega) h
theorem Clip_ok {a l : Int} {H : Hp} {Q : Int → Hp → Prop} (ha : -9223372036854775808 ≤ a ∧ a ≤ 9223372036854775807) (hl : -128 ≤ l ∧ l ≤ 127)
    (h : ∀ (n : Nat) (x : Int), (n : Int) = (if 15 < (if l < 0 then 0 else l) then 15 else (if l < 0 then 0 else l)) → x = min (max a (1 - ((2 ^ n : Nat) : Int))) (((2 ^ n : Nat) : Int) - 1) → Q x H) : magnitude_Clip.s a l H Q := by
  unfold magnitude_Clip.s
  generalize hs : (if 15 < (if l < 0 then 0 else l) then 15 else (if l < 0 then 0 else l)) = s at h ⊢
  have hb : 0 ≤ s ∧ s ≤ 15 := by subst hs; split <;> split <;> omega
  obtain ⟨n, rfl⟩ : ∃ n : Nat, s = n := ⟨s.toNat, by omega⟩
  have hp := pow_small (n := n) (by omega)
  have hp2 : (2 : Nat) ^ n ≤ 32768 := (Nat.pow_le_pow_right (by omega) (by omega) : 2 ^ n ≤ 2 ^ 15)
  refine ⟨by omega, ?_⟩
  rw [shl_one (by omega), w64 (x := ((2 ^ n : Nat) : Int) - 1) (by omega)]
  refine Lt.of ?_
  rw [w64 (x := 0 - (((2 ^ n : Nat) : Int) - 1)) (by omega)]
  refine Lt.of ?_
  refine h n _ rfl ?_
  generalize 2 ^ n = p at *
  rw [w16]
  · split <;> split <;> omega
  · split <;> split <;> omega

/-! ### the reference -/
theorem power_ok {n : Nat} {H : Hp} {Q : Int → Hp → Prop} (hn : n ≤ 62) (h : Q ((2 ^ n : Nat) : Int) H) : mosaicref06_power.s n H Q := by
  unfold mosaicref06_power.s
  refine Fix.intro (fun (s : Int × Int) H' => ∃ i : Nat, s = (((2 ^ i : Nat) : Int), (i : Int)) ∧ i ≤ n ∧ H = H') (fun s _ => n - s.2.toNat) ⟨0, rfl, by omega, rfl⟩ ?_
  rintro _ _ ⟨i, rfl, hi, rfl⟩ rec hrec
  by_cases hc : i < n
  · refine ite_t (by simp; omega) (hrec _ _ ⟨i + 1, ?_, by omega, rfl⟩ ?_)
    · have := pow_mono (m := i) (n := 61) (by omega)
      have h61 : (2 : Nat) ^ 61 = 2305843009213693952 := rfl
      have e : (2 : Nat) ^ (i + 1) = 2 * 2 ^ i := by rw [Nat.pow_succ]; omega
      dsimp only
      rw [e]
      generalize 2 ^ i = p at *
      rw [w64 (x := 2 * (p : Int)) (by omega), w64 (by omega)]
      simp
    · dsimp only
      rw [w64 (x := (i : Int) + 1) (by omega)]
      omega
  · refine ite_f (by simp; omega) ?_
    have : i = n := by omega
    subst this
    exact h
theorem below_ok {a : Int} {n : Nat} {H : Hp} {Q : Bool → Hp → Prop} (ha : -9223372036854775808 ≤ a ∧ a ≤ 9223372036854775807) (hn : n < 64)
    (h : Q (decide (a.natAbs < 2 ^ n)) H) : mosaicref06_below.s a n H Q := by
  unfold mosaicref06_below.s
  refine Join.intro (fun s H' => s = -(a.natAbs : Int) ∧ H = H') ?_ ?_
  · rintro _ _ ⟨rfl, rfl⟩
    refine ite_f (by simp; omega) ?_
    have low : n < 63 → mosaicref06_power.s n H (fun x H7 => Q (decide (IntKind.wrap .i64 (0 - x) < -(a.natAbs : Int))) H7) := by
      intro hl
      refine power_ok (by omega) ?_
      have := pow_mono (m := n) (n := 62) (by omega)
      have h62 : (2 : Nat) ^ 62 = 4611686018427387904 := rfl
      generalize 2 ^ n = p at *
      rw [w64 (by omega)]
      have e : decide ((0 : Int) - (p : Int) < -(a.natAbs : Int)) = decide (a.natAbs < p) := by
        congr 1; simp only [eq_iff_iff]; omega
      rw [e]; exact h
    by_cases h63 : n = 63
    · subst h63
      refine ite_t rfl ?_
      have e63 : (2 : Nat) ^ 63 = 9223372036854775808 := rfl
      rw [e63] at h
      by_cases hx : -9223372036854775808 < -(a.natAbs : Int)
      · rw [decide_eq_true (by omega)] at h
        exact ite_t (by simpa using hx) h
      · rw [decide_eq_false (by omega)] at h
        exact ite_f (by simpa using hx) (ite_f rfl h)
    · exact ite_f (beq_eq_false_iff_ne.2 (by omega)) (ite_t (by simp; omega) (low (by omega)))
  · intro J hJ
    by_cases h0 : 0 < a
    · refine ite_t (by simpa using h0) (hJ _ _ ⟨?_, rfl⟩)
      rw [w64 (by omega)]; omega
    · exact ite_f (by simpa using h0) (hJ _ _ ⟨by omega, rfl⟩)
theorem rSize_ok {v : Int} {H : Hp} {Q : Int → Hp → Prop} (hv : -9223372036854775808 ≤ v ∧ v ≤ 9223372036854775807) (h : Q (bl v.natAbs : Int) H) : mosaicref06_Size.s v H Q := by
  have h64 : bl v.natAbs ≤ 64 := (bl_le _ 64).2 (by omega)
  unfold mosaicref06_Size.s
  refine Fix.intro (fun (s : Int) H' => ∃ i : Nat, s = (i : Int) ∧ i ≤ bl v.natAbs ∧ H = H') (fun s _ => 64 - s.toNat) ⟨0, rfl, by omega, rfl⟩ ?_
  rintro _ _ ⟨i, rfl, hi, rfl⟩ rec hrec
  by_cases hc : i < 64
  · refine ite_t (by simp; omega) (below_ok hv hc ?_)
    by_cases hb : v.natAbs < 2 ^ i
    · refine ite_t (decide_eq_true hb) ?_
      have := (bl_le _ i).2 hb
      rw [w8 (by omega), show (i : Int) = (bl v.natAbs : Int) from by omega]
      exact h
    · refine ite_f (decide_eq_false hb) ?_
      have : ¬ bl v.natAbs ≤ i := fun x => hb ((bl_le _ i).1 x)
      rw [w64 (by omega)]
      exact hrec _ _ ⟨i + 1, by omega, by omega, rfl⟩ (by omega)
  · refine ite_f (by simp; omega) ?_
    rw [show (64 : Int) = (bl v.natAbs : Int) from by omega]
    exact h
theorem rBits_ok {v : Int} {H : Hp} {Q : (Int × Int × Bool) → Hp → Prop} (hv : -9223372036854775808 ≤ v ∧ v ≤ 9223372036854775807)
    (h : bl v.natAbs ≤ 16 → Q (bitsF v, (bl v.natAbs : Int), true) H) (h' : 16 < bl v.natAbs → Q (0, 0, false) H) : mosaicref06_Bits.s v H Q := by
  unfold mosaicref06_Bits.s
  refine rSize_ok hv ?_
  by_cases hs : bl v.natAbs ≤ 16
  · refine ite_f (by simp; omega) ?_
    have hvs := bl_small.1 hs
    have hr := bitsF_range hs
    have hp := pow_small hs
    refine Join.intro (fun s H' => s = bitsF v ∧ H = H') ?_ ?_
    · rintro _ _ ⟨rfl, rfl⟩
      rw [wu16 (by omega)]
      exact h hs
    · intro J hJ
      by_cases h0 : v < 0
      · refine ite_t (by simpa using h0) ?_
        rw [w64 (x := (bl v.natAbs : Int)) (by omega)]
        refine power_ok (by omega) ?_
        rw [w64 (x := v + _) (by omega), w64 (by omega)]
        refine Lt.of (hJ _ _ ⟨?_, rfl⟩)
        unfold bitsF
        rw [if_pos h0]
        omega
      · refine ite_f (by simpa using h0) (hJ _ _ ⟨?_, rfl⟩)
        unfold bitsF
        rw [if_neg h0]
  · exact ite_t (by simp; omega) (h' (by omega))

/-! ### the laws -/
theorem MagnitudeBits_ok {v : Int} {H : Hp} {Q : Bool → Hp → Prop} (hv : -9223372036854775808 ≤ v ∧ v ≤ 9223372036854775807) (h : Q true H) : mosaiclaw06_MagnitudeBits.s v H Q := by
  unfold mosaiclaw06_MagnitudeBits.s
  refine Bits_ok hv (fun hs => ?_) (fun hs => ?_) <;> refine rBits_ok hv (fun hs' => ?_) (fun hs' => ?_) <;> try omega
  · refine Size_ok hv (rSize_ok hv (ite_t (beqi rfl) (ite_t (beqi rfl) (ite_t (beqi rfl) h))))
  · refine Size_ok hv (rSize_ok hv (ite_t (beqi rfl) (ite_t (beqi rfl) (ite_t (beqi rfl) h))))
theorem bl_num {n k : Nat} (h : (2 ^ k ≤ n ∧ n < 2 ^ (k + 1))) : bl n = k + 1 := bl_eq h.1 h.2
theorem awake_ok {H : Hp} {Q : Bool → Hp → Prop} (h : Q true H) : mosaiclaw06_awake.s H Q := by
  unfold mosaiclaw06_awake.s
  have b5 : bl (Int.natAbs (-5)) = 3 := bl_num (n := 5) (k := 2) (by decide)
  have b256 : bl (Int.natAbs 256) = 9 := bl_num (n := 256) (k := 8) (by decide)
  refine Bits_ok (by omega) (fun _ => ?_) (fun hs => ?_)
  · refine Value_ok (by omega) (by omega) (fun _ _ _ => ?_) (fun hx => ?_)
    · refine ite_t ?_ (ite_t ?_ (ite_t rfl (ite_t (by decide) (ite_t rfl (Size_ok (by omega) (ite_t ?_ (Clip_ok (by omega) (by omega) ?_)))))))
      · dsimp only [bitsF]; rw [b5]; decide
      · dsimp only; rw [b5]; decide
      · rw [b256]; decide
      · intro n x hn hx
        simp at hn
        have : n = 11 := by omega
        subst this
        have : x = -2047 := by subst hx; decide
        subst this
        exact h
    · exact absurd hx (by decide)
  · rw [b5] at hs; omega
theorem bl_in {n k : Nat} : bl n ≤ k → n < 2 ^ k := (bl_le n k).1
theorem lt_pow_of_small {n k : Nat} (h : n < 2 ^ k) : bl n ≤ k := (bl_le n k).2 h
/-- What a number's bits and length say of its value, and back. -/
theorem valF_bitsF {v : Int} (h : bl v.natAbs ≤ 16) : valF (bitsF v) (bl v.natAbs) = v := by
  rcases Nat.eq_zero_or_pos v.natAbs with h0 | h0
  · have : v = 0 := by omega
    subst this; decide
  · have hp := bl_pos h0
    have h1 := bl_ge h0
    have h2 := lt_bl v.natAbs
    have h3 := bitsF_range h
    obtain ⟨m, hm⟩ : ∃ m, bl v.natAbs = m + 1 := ⟨bl v.natAbs - 1, by omega⟩
    have e : (2 : Nat) ^ (m + 1) = 2 * 2 ^ m := by rw [Nat.pow_succ]; omega
    rw [hm] at h1 h2
    rw [Nat.add_sub_cancel] at h1
    rw [e] at h2
    have hB : bitsF v = if v < 0 then v - 1 + ((2 * 2 ^ m : Nat) : Int) else v := by unfold bitsF; rw [hm, e]
    rw [hB, hm]
    unfold valF
    rw [if_neg (by omega), Nat.add_sub_cancel, e]
    generalize 2 ^ m = p at h1 h2 ⊢
    by_cases hv : v < 0
    · rw [if_pos hv, if_pos (by omega)]; omega
    · rw [if_neg hv, if_neg (by omega)]
theorem valF_len {b : Int} {n : Nat} (h0 : 0 ≤ b) (hn : n ≤ 16) (hb : b < ((2 ^ n : Nat) : Int)) : bl (valF b n).natAbs = n ∧ bitsF (valF b n) = b ∧ -65536 < valF b n ∧ valF b n < 65536 := by
  rcases Nat.eq_zero_or_pos n with h1 | h1
  · subst h1
    have : b = 0 := by simp at hb; omega
    subst this; decide
  · obtain ⟨m, rfl⟩ : ∃ m, n = m + 1 := ⟨n - 1, by omega⟩
    have e : (2 : Nat) ^ (m + 1) = 2 * 2 ^ m := by rw [Nat.pow_succ]; omega
    have hp := pow_small (n := m + 1) hn
    have hp0 := pow_small (n := m) (by omega)
    have hV : valF b (m + 1) = if b < ((2 ^ m : Nat) : Int) then b - (((2 * 2 ^ m : Nat) : Int) - 1) else b := by
      unfold valF; rw [if_neg (by omega), Nat.add_sub_cancel, e]
    rw [e] at hb hp
    have hlen : bl (valF b (m + 1)).natAbs = m + 1 := by
      refine bl_eq ?_ ?_
      · rw [hV]
        generalize 2 ^ m = p at hb hp hp0 ⊢
        split <;> omega
      · rw [hV, e]
        generalize 2 ^ m = p at hb hp hp0 ⊢
        split <;> omega
    refine ⟨hlen, ?_, ?_⟩
    · unfold bitsF; rw [hlen, hV, e]
      generalize 2 ^ m = p at hb hp hp0 ⊢
      by_cases hc : b < (p : Int)
      · rw [if_pos hc, if_pos (by omega)]; omega
      · rw [if_neg hc, if_neg (by omega)]
    · rw [hV]
      generalize 2 ^ m = p at hb hp hp0 ⊢
      split <;> omega
theorem shr_len {a : Int} {l : Int} (ha : 0 ≤ a ∧ a ≤ 65535) (hl : 0 ≤ l ∧ l ≤ 16) : (shrI .i64 a l != 0) = decide (((2 ^ l.toNat : Nat) : Int) ≤ a) := by
  obtain ⟨n, rfl⟩ : ∃ n : Nat, l = n := ⟨l.toNat, by omega⟩
  obtain ⟨c, rfl⟩ : ∃ c : Nat, a = c := ⟨a.toNat, by omega⟩
  rw [shr_nat _ _ _ (by simp [IntKind.bits]; omega), Int.toNat_natCast]
  have hp := pow_small (n := n) (by omega)
  have hdiv : c / 2 ^ n = 0 ↔ c < 2 ^ n := by rw [Nat.div_eq_zero_iff]; omega
  by_cases hc : c < 2 ^ n
  · rw [hdiv.2 hc, decide_eq_false (by omega)]; rfl
  · have hne : ¬ c / 2 ^ n = 0 := fun e => hc (hdiv.1 e)
    rw [decide_eq_true (by omega)]
    simp only [bne_iff_ne]
    omega
theorem MagnitudeBack_ok {v b l : Int} {H : Hp} {Q : Bool → Hp → Prop} (hv : -9223372036854775808 ≤ v ∧ v ≤ 9223372036854775807) (hb : 0 ≤ b ∧ b ≤ 65535) (hl : -128 ≤ l ∧ l ≤ 127)
    (h : Q true H) : mosaiclaw06_MagnitudeBack.s v b l H Q := by
  unfold mosaiclaw06_MagnitudeBack.s
  refine awake_ok ?_
  have tail : ∀ (Q' : Bool → Hp → Prop), Q' true H → magnitude_Value.s b l H (fun x13 H14 => magnitude_Bits.s x13.1 H14 (fun x15 H16 => Join (fun (s18 : Bool) (H19 : Hp) => if s18 = true then (Join (fun (s21 : Bool) (H22 : Hp) => Q' s21 H22) (fun (J20 : Bool → Hp → Prop) => if true = true then (if (!x13.2) = true then (J20 ((x13.1 == 0)) H19) else (J20 (false) H19)) else (J20 (false) H19))) else (if true = true then (if x13.2 = true then (if x15.2.2 = true then (if (x15.1 == b) = true then (Q' (x15.2.1 == l) H19) else (Q' false H19)) else (Q' false H19)) else (Q' false H19)) else (Q' false H19))) (fun (J17 : Bool → Hp → Prop) => if decide (l < 0) = true then (J17 (true) H16) else (if decide ((16 : Int) < l) = true then (J17 (true) H16) else (if decide (l < 16) = true then (0 ≤ l ∧ (J17 (((shrI .i64 (IntKind.wrap .i64 b) l) != 0)) H16)) else (J17 (false) H16)))))) := by
    intro Q' hq
    have cond : ∀ J : Bool → Hp → Prop, J (decide (l < 0 ∨ 16 < l ∨ ((2 ^ l.toNat : Nat) : Int) ≤ b)) H →
        (if decide (l < 0) = true then (J (true) H) else (if decide ((16 : Int) < l) = true then (J (true) H) else (if decide (l < 16) = true then (0 ≤ l ∧ (J (((shrI .i64 (IntKind.wrap .i64 b) l) != 0)) H)) else (J (false) H)))) := by
      intro J hJ
      by_cases c0 : l < 0
      · rw [decide_eq_true (.inl c0)] at hJ
        exact ite_t (by simpa using c0) hJ
      refine ite_f (by simpa using c0) ?_
      by_cases c1 : 16 < l
      · rw [decide_eq_true (.inr (.inl c1))] at hJ
        exact ite_t (by simpa using c1) hJ
      refine ite_f (by simpa using c1) ?_
      by_cases c2 : l < 16
      · refine ite_t (by simpa using c2) ⟨by omega, ?_⟩
        rw [w64 (by omega), shr_len hb (by omega)]
        have e : decide (l < 0 ∨ 16 < l ∨ ((2 ^ l.toNat : Nat) : Int) ≤ b) = decide (((2 ^ l.toNat : Nat) : Int) ≤ b) := by
          congr 1; simp only [eq_iff_iff]; omega
        rw [← e]; exact hJ
      · refine ite_f (by simpa using c2) ?_
        have : l = 16 := by omega
        subst this
        have e16 : ((2 ^ (16 : Int).toNat : Nat) : Int) = 65536 := rfl
        rw [e16] at hJ
        rw [decide_eq_false (by omega)] at hJ
        exact hJ
    refine Value_ok hb hl (fun h0 h16 hlt => ?_) (fun hx => ?_)
    · obtain ⟨n, rfl⟩ : ∃ n : Nat, l = n := ⟨l.toNat, by omega⟩
      rw [Int.toNat_natCast] at hlt cond ⊢
      obtain ⟨hlen, hbits, hlo, hhi⟩ := valF_len hb.1 (by omega) hlt
      refine Bits_ok (by dsimp only; omega) (fun hs => ?_) (fun hs => by dsimp only at hs; omega)
      refine Join.intro (fun s H' => s = false ∧ H = H') ?_ ?_
      · rintro _ _ ⟨rfl, rfl⟩
        refine ite_f rfl (ite_t rfl (ite_t rfl (ite_t rfl (ite_t ?_ ?_))))
        · rw [hbits]; simp
        · rw [hlen]; simpa using hq
      · intro J hJ
        refine cond J (hJ _ _ ⟨?_, rfl⟩)
        exact decide_eq_false (by omega)
    · refine Bits_ok (by dsimp only; omega) (fun hs => ?_) (fun hs => absurd hs (by decide))
      refine Join.intro (fun s H' => s = true ∧ H = H') ?_ ?_
      · rintro _ _ ⟨rfl, rfl⟩
        refine ite_t rfl (Join.intro (fun s H' => s = true ∧ H = H') ?_ ?_)
        · rintro _ _ ⟨rfl, rfl⟩; exact hq
        · intro J hJ
          exact ite_t rfl (ite_t rfl (hJ _ _ ⟨rfl, rfl⟩))
      · intro J hJ
        refine cond J (hJ _ _ ⟨?_, rfl⟩)
        exact decide_eq_true hx
  have small : ∀ J : Bool → Hp → Prop, J (decide (bl v.natAbs ≤ 16)) H → (if decide ((-65536 : Int) < v) = true then (J ((decide (v < 65536))) H) else (J (false) H)) := by
    intro J hJ
    by_cases c : -65536 < v
    · refine ite_t (by simpa using c) ?_
      have e : decide (bl v.natAbs ≤ 16) = decide (v < 65536) := by
        congr 1; simp only [eq_iff_iff]; rw [bl_small]; omega
      rw [← e]; exact hJ
    · refine ite_f (by simpa using c) ?_
      rw [decide_eq_false (by rw [bl_small]; omega)] at hJ
      exact hJ
  refine Bits_ok hv (fun hs => ?_) (fun hs => ?_)
  · have hr := bitsF_range hs
    have hp := pow_small hs
    refine Value_ok (by dsimp only; omega) (by dsimp only; omega) (fun _ _ _ => ?_) (fun hx => ?_)
    · dsimp only
      rw [Int.toNat_natCast, valF_bitsF hs]
      refine Join.intro (fun s H' => s = true ∧ H = H') ?_ ?_
      · rintro _ _ ⟨rfl, rfl⟩
        refine Join.intro (fun s H' => s = false ∧ H = H') ?_ ?_
        · rintro _ _ ⟨rfl, rfl⟩
          exact ite_f rfl (tail Q h)
        · intro J hJ
          refine ite_f rfl (ite_t rfl (ite_f rfl (ite_f (by simp) (Size_ok hv (ite_f (by simp) (ite_f rfl (hJ _ _ ⟨rfl, rfl⟩)))))))
      · intro J hJ
        exact small J (hJ _ _ ⟨decide_eq_true hs, rfl⟩)
    · exfalso
      dsimp only at hx
      rw [Int.toNat_natCast] at hx
      omega
  · refine Value_ok (by dsimp only; omega) (by dsimp only; omega) (fun _ _ _ => ?_) (fun hx => absurd hx (by decide))
    refine Join.intro (fun s H' => s = false ∧ H = H') ?_ ?_
    · rintro _ _ ⟨rfl, rfl⟩
      refine Join.intro (fun s H' => s = false ∧ H = H') ?_ ?_
      · rintro _ _ ⟨rfl, rfl⟩
        exact ite_f rfl (tail Q h)
      · intro J hJ
        refine ite_f rfl (ite_f rfl (ite_t rfl (ite_f rfl (hJ _ _ ⟨rfl, rfl⟩))))
    · intro J hJ
      exact small J (hJ _ _ ⟨decide_eq_false (by omega), rfl⟩)
theorem sq_lt {a b : Int} (ha : bl a.natAbs ≤ 16) (hb : bl b.natAbs ≤ 16) : decide (IntKind.wrap .i64 (a * a) < IntKind.wrap .i64 (b * b)) = decide (a.natAbs < b.natAbs) := by
  have hsq : ∀ {c : Int}, bl c.natAbs ≤ 16 → c * c = ((c.natAbs * c.natAbs : Nat) : Int) ∧ c.natAbs * c.natAbs ≤ 65536 * 65536 := by
    intro c hc
    have := bl_small.1 hc
    exact ⟨(Int.natAbs_mul_self).symm, Nat.mul_le_mul (by omega) (by omega)⟩
  obtain ⟨e1, l1⟩ := hsq ha
  obtain ⟨e2, l2⟩ := hsq hb
  rw [e1, e2, w64 (by omega), w64 (by omega)]
  congr 1
  simp only [eq_iff_iff]
  rw [Int.ofNat_lt]
  exact Nat.mul_self_lt_mul_self_iff
/-- The highest bit of a number's bits says its sign. -/
theorem topbit {v : Int} {m : Nat} (hl : bl v.natAbs = m + 1) (hm : m + 1 ≤ 16) :
    ((0 < v ↔ ((2 ^ m : Nat) : Int) ≤ bitsF v) ∧ 0 ≤ bitsF v ∧ bitsF v < 2 * ((2 ^ m : Nat) : Int)) := by
  have hr := bitsF_range (v := v) (by omega)
  have hlt := lt_bl v.natAbs
  have hge := bl_ge (n := v.natAbs) (by rcases Nat.eq_zero_or_pos v.natAbs with h0 | h0; · rw [h0] at hl; simp [bl_zero] at hl
                                        · exact h0)
  rw [hl] at hr hlt hge
  have e : (2 : Nat) ^ (m + 1) = 2 * 2 ^ m := by rw [Nat.pow_succ]; omega
  rw [Nat.add_sub_cancel] at hge
  have hB : bitsF v = if v < 0 then v - 1 + ((2 * 2 ^ m : Nat) : Int) else v := by unfold bitsF; rw [hl, e]
  rw [e] at hr hlt
  rw [hB] at hr ⊢
  generalize 2 ^ m = p at hr hlt hge ⊢
  by_cases hv : v < 0
  · rw [if_pos hv] at hr ⊢; omega
  · rw [if_neg hv] at hr ⊢; omega
theorem bit_shr {b : Int} {m : Nat} (hm : m ≤ 15) (h0 : 0 ≤ b) (h1 : b < 2 * ((2 ^ m : Nat) : Int)) : (shrI .i64 b (m : Int) == 1) = decide (((2 ^ m : Nat) : Int) ≤ b) := by
  obtain ⟨c, rfl⟩ : ∃ c : Nat, b = c := ⟨b.toNat, by omega⟩
  rw [shr_nat _ _ _ (by simp [IntKind.bits]; omega)]
  have hp := pow_small (n := m) (by omega)
  by_cases hc : 2 ^ m ≤ c
  · have : c / 2 ^ m = 1 := by
      rw [Nat.div_eq_of_lt_le (k := 1)]
      · omega
      · omega
    rw [this, decide_eq_true (by omega)]; rfl
  · have : c / 2 ^ m = 0 := Nat.div_eq_of_lt (by omega)
    rw [this, decide_eq_false (by omega)]; rfl
theorem bitsF_lt {a b : Int} (ha : bl a.natAbs ≤ 16) (e : bl a.natAbs = bl b.natAbs) : decide (a < b) = decide (bitsF a < bitsF b) := by
  congr 1
  simp only [eq_iff_iff]
  rcases Nat.eq_zero_or_pos (bl a.natAbs) with h0 | h0
  · have h1 := lt_bl a.natAbs
    have h2 := lt_bl b.natAbs
    rw [← e] at h2
    rw [h0] at h1 h2
    have : a = 0 := by simp at h1; omega
    have : b = 0 := by simp at h2; omega
    subst a; subst b; decide
  · obtain ⟨m, hm⟩ : ∃ m, bl a.natAbs = m + 1 := ⟨bl a.natAbs - 1, by omega⟩
    have ta := topbit hm (by omega)
    have tb := topbit (e ▸ hm) (by omega)
    have na : a.natAbs ≠ 0 := fun x => by rw [x] at hm; simp [bl_zero] at hm
    have nb : b.natAbs ≠ 0 := fun x => by rw [x] at e; rw [e] at hm; simp [bl_zero] at hm
    unfold bitsF at *
    rw [← e] at *
    generalize ((2 ^ bl a.natAbs : Nat) : Int) = q at ta tb ⊢
    generalize ((2 ^ m : Nat) : Int) = p at ta tb
    by_cases h1 : a < 0 <;> by_cases h2 : b < 0 <;> simp only [h1, h2, if_true, if_false] at ta tb ⊢ <;> omega
theorem MagnitudeOrder_ok {a b : Int} {H : Hp} {Q : Bool → Hp → Prop} (ha : -9223372036854775808 ≤ a ∧ a ≤ 9223372036854775807) (hb : -9223372036854775808 ≤ b ∧ b ≤ 9223372036854775807)
    (h : Q true H) : mosaiclaw06_MagnitudeOrder.s a b H Q := by
  unfold mosaiclaw06_MagnitudeOrder.s
  refine awake_ok ?_
  refine Bits_ok ha (fun hs => ?_) (fun hs => ?_) <;> refine Bits_ok hb (fun ht => ?_) (fun ht => ?_)
  · refine Join.intro (fun s H' => s = false ∧ H = H') ?_ ?_
    · rintro _ _ ⟨rfl, rfl⟩
      refine ite_f rfl ?_
      dsimp only
      by_cases e : bl a.natAbs = bl b.natAbs
      · refine ite_f (by rw [e]; simp) ?_
        refine Join.intro (fun s H' => s = false ∧ H = H') ?_ ?_
        · rintro _ _ ⟨rfl, rfl⟩
          refine ite_f rfl (ite_t rfl ?_)
          rw [bitsF_lt hs e]
          simpa using h
        · intro J hJ
          by_cases h0 : 0 < bl a.natAbs
          · obtain ⟨m, hm⟩ : ∃ m, bl a.natAbs = m + 1 := ⟨bl a.natAbs - 1, by omega⟩
            have ta := topbit hm (by omega)
            have hp := pow_small (n := m) (by omega)
            refine ite_t (by simpa using h0) ?_
            rw [w8 (by omega), w64 (by omega), show (bl a.natAbs : Int) - 1 = (m : Int) from by omega]
            refine ⟨by omega, hJ _ _ ⟨?_, rfl⟩⟩
            rw [bit_shr (by omega) (by omega) (by omega)]
            have : decide (0 < a) = decide (((2 ^ m : Nat) : Int) ≤ bitsF a) := by congr 1; simp only [eq_iff_iff]; exact ta.1
            rw [this]; simp
          · exact ite_f (by simpa using h0) (hJ _ _ ⟨rfl, rfl⟩)
      · refine ite_t (by simpa using fun x => e (by omega)) ?_
        refine Join.intro (fun s H' => s = true ∧ H = H') ?_ ?_
        · rintro _ _ ⟨rfl, rfl⟩; exact h
        · intro J hJ
          refine ite_t rfl (hJ _ _ ⟨?_, rfl⟩)
          rw [sq_lt hs ht]
          have : decide (a.natAbs < b.natAbs) = decide ((bl a.natAbs : Int) < (bl b.natAbs : Int)) := by
            congr 1; simp only [eq_iff_iff]
            constructor
            · intro x
              have := bl_mono (Nat.le_of_lt x)
              omega
            · intro x
              rcases Nat.lt_or_ge a.natAbs b.natAbs with y | y
              · exact y
              · have := bl_mono y; omega
          rw [this]; simp
    · intro J hJ
      exact ite_f rfl (hJ _ _ ⟨rfl, rfl⟩)
  · refine Join.intro (fun s H' => s = true ∧ H = H') ?_ ?_
    · rintro _ _ ⟨rfl, rfl⟩; exact ite_t rfl h
    · intro J hJ; exact ite_f rfl (hJ _ _ ⟨rfl, rfl⟩)
  · refine Join.intro (fun s H' => s = true ∧ H = H') ?_ ?_
    · rintro _ _ ⟨rfl, rfl⟩; exact ite_t rfl h
    · intro J hJ; exact ite_t rfl (hJ _ _ ⟨rfl, rfl⟩)
  · refine Join.intro (fun s H' => s = true ∧ H = H') ?_ ?_
    · rintro _ _ ⟨rfl, rfl⟩; exact ite_t rfl h
    · intro J hJ; exact ite_t rfl (hJ _ _ ⟨rfl, rfl⟩)
theorem MagnitudeNearest_ok {v l o : Int} {H : Hp} {Q : Bool → Hp → Prop} (hv : -9223372036854775808 ≤ v ∧ v ≤ 9223372036854775807) (hl : -128 ≤ l ∧ l ≤ 127) (ho : -9223372036854775808 ≤ o ∧ o ≤ 9223372036854775807)
    (h : Q true H) : mosaiclaw06_MagnitudeNearest.s v l o H Q := by
  unfold mosaiclaw06_MagnitudeNearest.s
  refine awake_ok ?_
  refine Join.intro (fun s H' => s = (if l < 0 then 0 else l) ∧ H = H') ?_ ?_
  · rintro _ _ ⟨rfl, rfl⟩
    refine Join.intro (fun s H' => s = (if 15 < (if l < 0 then 0 else l) then 15 else (if l < 0 then 0 else l)) ∧ H = H') ?_ ?_
    · rintro _ _ ⟨rfl, rfl⟩
      refine Clip_ok hv hl (fun n x hn hx => ?_)
      rw [← hn]
      have hn15 : n ≤ 15 := by split at hn <;> split at hn <;> omega
      have hp := pow_small (n := n) (by omega)
      have hp2 : (2 : Nat) ^ n ≤ 32768 := (pow_mono hn15 : 2 ^ n ≤ 2 ^ 15)
      have hxr : -32768 < x ∧ x < 32768 ∧ x.natAbs < 2 ^ n := by omega
      rw [w64 (x := x) (by omega)]
      have hxl : bl x.natAbs ≤ n := (bl_le _ _).2 hxr.2.2
      refine Size_ok (by omega) (ite_f (by simp; omega) (Size_ok hv ?_))
      have hvn := bl_le v.natAbs n
      have hon := bl_le o.natAbs n
      by_cases c1 : bl v.natAbs ≤ n
      · refine ite_t (by simp; omega) (Join.intro (fun s H' => s = true ∧ H = H') ?_ ?_)
        · rintro _ _ ⟨rfl, rfl⟩; exact h
        · intro J hJ
          refine ite_t rfl (hJ _ _ ⟨beqi (by omega), rfl⟩)
      · refine ite_f (by simp; omega) (Size_ok ho ?_)
        by_cases c2 : bl o.natAbs ≤ n
        · refine ite_f (by simp; omega) ?_
          by_cases c3 : 0 < v
          · refine ite_t (by simpa using c3) (Join.intro (fun s H' => s = true ∧ H = H') ?_ ?_)
            · rintro _ _ ⟨rfl, rfl⟩; exact h
            · intro J hJ
              refine ite_t rfl (hJ _ _ ⟨decide_eq_true (by omega), rfl⟩)
          · refine ite_f (by simpa using c3) (ite_t rfl ?_)
            rw [decide_eq_true (by omega)]
            exact h
        · exact ite_t (by simp; omega) h
    · intro J hJ
      by_cases c : 15 < (if l < 0 then 0 else l)
      · exact ite_t (by simpa using c) (hJ _ _ ⟨by rw [if_pos c], rfl⟩)
      · exact ite_f (by simpa using c) (hJ _ _ ⟨by rw [if_neg c], rfl⟩)
  · intro J hJ
    by_cases c : l < 0
    · exact ite_t (by simpa using c) (hJ _ _ ⟨by rw [if_pos c], rfl⟩)
    · exact ite_f (by simpa using c) (hJ _ _ ⟨by rw [if_neg c], rfl⟩)
/-! ### for the rows -/
theorem MagnitudeBits_row (v : Int) (W : World) (b : -9223372036854775808 ≤ v ∧ v ≤ 9223372036854775807) : mosaiclaw06_MagnitudeBits.s v W.heap (fun r H' => r = true ∧ Keep W.heap H') :=
  MagnitudeBits_ok b ⟨rfl, Keep.refl _⟩
theorem MagnitudeBack_row (v c l : Int) (W : World) (b0 : -9223372036854775808 ≤ v ∧ v ≤ 9223372036854775807) (b1 : 0 ≤ c ∧ c ≤ 65535) (b2 : -128 ≤ l ∧ l ≤ 127) : mosaiclaw06_MagnitudeBack.s v c l W.heap (fun r H' => r = true ∧ Keep W.heap H') :=
  MagnitudeBack_ok b0 b1 b2 ⟨rfl, Keep.refl _⟩
theorem MagnitudeOrder_row (v w : Int) (W : World) (b0 : -9223372036854775808 ≤ v ∧ v ≤ 9223372036854775807) (b1 : -9223372036854775808 ≤ w ∧ w ≤ 9223372036854775807) : mosaiclaw06_MagnitudeOrder.s v w W.heap (fun r H' => r = true ∧ Keep W.heap H') :=
  MagnitudeOrder_ok b0 b1 ⟨rfl, Keep.refl _⟩
theorem MagnitudeNearest_row (v l o : Int) (W : World) (b0 : -9223372036854775808 ≤ v ∧ v ≤ 9223372036854775807) (b1 : -128 ≤ l ∧ l ≤ 127) (b2 : -9223372036854775808 ≤ o ∧ o ≤ 9223372036854775807) : mosaiclaw06_MagnitudeNearest.s v l o W.heap (fun r H' => r = true ∧ Keep W.heap H') :=
  MagnitudeNearest_ok b0 b1 b2 ⟨rfl, Keep.refl _⟩
end Go.Proofs.Ytacokffnonfacaa.G
