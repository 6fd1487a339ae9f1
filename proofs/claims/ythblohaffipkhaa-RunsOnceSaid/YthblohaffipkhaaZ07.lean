/- Layer 7: builders of a block, of the program and of the document. -/
import Derived.Test.YthblohaffipkhaaZS
import Derived.Test.YthblohaffipkhaaKmosaiclaw07
namespace Go.Proofs.Ythblohaffipkhaa.G
open Go.RowKit
set_option linter.unusedVariables false
set_option linter.unusedSimpArgs false
set_option maxRecDepth 20000

/-! ### what is answered -/
/-- Wants: the size; the error. n: the next coefficient; y: the symbol. -/
def wF (n y : Nat) : Nat × Nat := if n = 64 then (0, 4) else if n = 0 then (if 11 < y then (0, 60) else (y, 0)) else if y = 0 then (0, 0) else if y = 240 then (if 63 < n + 16 then (0, 70) else (0, 0)) else
  if y % 16 = 0 ∨ 10 < y % 16 then (0, 60) else if 63 < n + y / 16 then (0, 70) else (y % 16, 0)
/-- The number of some bits. -/
def vF (b w : Nat) : Int := if w = 0 ∨ 2 ^ (w - 1) ≤ b then (b : Int) else (b : Int) - ((2 ^ w : Nat) : Int) + 1
/-- Take: the error, the block, the next coefficient. -/
def tF (pred : Int) (B : List Int) (n y : Nat) (z : Int) (b : Nat) : Nat × List Int × Nat :=
  if (wF n y).2 ≠ 0 then ((wF n y).2, B, n) else if z ≠ (wF n y).1 ∨ 2 ^ (wF n y).1 ≤ b then (60, B, n) else
  if n = 0 then (if pred + vF b (wF n y).1 < -1024 ∨ 1023 < pred + vF b (wF n y).1 then (3, B, n) else (0, B.set 0 (pred + vF b (wF n y).1), 1)) else
  if y = 0 then (0, B, 64) else if y = 240 then (0, B, n + 16) else (0, B.set (n + y / 16) (vF b (wF n y).1), n + y / 16 + 1)
theorem wF_ok {n y : Nat} (hn : n ≤ 64) (h : (wF n y).2 = 0) : (wF n y).1 ≤ 11 ∧ n ≤ 63 ∧ (n ≠ 0 → y = 0 ∨ y = 240 → (wF n y).1 = 0) ∧ (n ≠ 0 → y = 240 → n + 16 ≤ 63) ∧ (n ≠ 0 → y ≠ 0 → y ≠ 240 → n + y / 16 ≤ 63 ∧ 1 ≤ (wF n y).1 ∧ (wF n y).1 ≤ 10 ∧ (wF n y).1 = y % 16) ∧ (n = 0 → (wF n y).1 = y) := by
  unfold wF at h ⊢
  by_cases h1 : n = 64
  · rw [if_pos h1] at h; cases h
  rw [if_neg h1] at h ⊢
  by_cases h2 : n = 0
  · rw [if_pos h2] at h ⊢
    by_cases h3 : 11 < y
    · rw [if_pos h3] at h; cases h
    · rw [if_neg h3]
      simp; omega
  rw [if_neg h2] at h ⊢
  by_cases h3 : y = 0
  · rw [if_pos h3]; simp; omega
  rw [if_neg h3] at h ⊢
  by_cases h4 : y = 240
  · rw [if_pos h4] at h ⊢
    by_cases h5 : 63 < n + 16
    · rw [if_pos h5] at h; cases h
    · rw [if_neg h5]; simp; omega
  rw [if_neg h4] at h ⊢
  by_cases h5 : y % 16 = 0 ∨ 10 < y % 16
  · rw [if_pos h5] at h; cases h
  rw [if_neg h5] at h ⊢
  by_cases h6 : 63 < n + y / 16
  · rw [if_pos h6] at h; cases h
  · rw [if_neg h6]; simp; omega
theorem tF_ok {pred : Int} {B : List Int} {n y b : Nat} {z : Int} (hn : n ≤ 64) (hB : B.length = 64) : (tF pred B n y z b).2.1.length = 64 ∧ (tF pred B n y z b).2.2 ≤ 64 ∧ ((tF pred B n y z b).1 ≠ 0 → (tF pred B n y z b).2 = (B, n)) := by
  unfold tF
  by_cases h1 : (wF n y).2 ≠ 0
  · rw [if_pos h1]; exact ⟨hB, hn, fun _ => rfl⟩
  rw [if_neg h1]
  obtain ⟨q1, q2, q3, q4, q5, q6⟩ := wF_ok (y := y) hn (by omega)
  by_cases h2 : z ≠ (wF n y).1 ∨ 2 ^ (wF n y).1 ≤ b
  · rw [if_pos h2]; exact ⟨hB, hn, fun _ => rfl⟩
  rw [if_neg h2]
  by_cases h3 : n = 0
  · rw [if_pos h3]
    split
    · exact ⟨hB, hn, fun _ => rfl⟩
    · exact ⟨by simp [hB], by simp, fun h => absurd rfl h⟩
  rw [if_neg h3]
  by_cases h4 : y = 0
  · rw [if_pos h4]; exact ⟨hB, by simp, fun h => absurd rfl h⟩
  rw [if_neg h4]
  by_cases h5 : y = 240
  · rw [if_pos h5]; exact ⟨hB, by have := q4 h3 h5; simp; omega, fun h => absurd rfl h⟩
  rw [if_neg h5]
  exact ⟨by simp [hB], by have := q5 h3 h4 h5; simp; omega, fun h => absurd rfl h⟩
theorem vF_le {b w : Nat} (hw : w ≤ 11) (hb : b < 2 ^ w) : -2047 ≤ vF b w ∧ vF b w ≤ 2047 := by
  have h := pow_lt hw
  have h11 : (2 : Nat) ^ 11 = 2048 := rfl
  unfold vF
  split <;> omega

/-! ### where they lie -/
def f1 (k : Nat) : Value := .func (.func 35) #[.pointer (some (⟨k, 0, none⟩ : Addr))] #[]
def f2 (k : Nat) : Value := .func (.func 43) #[.pointer (some (⟨k, 0, none⟩ : Addr))] #[]
/-- The program's builder. -/
structure Bld7 (H : Hp) (k : Nat) (pred : Int) (B : List Int) (n : Nat) : Prop where
  bk : Bk H k 70 (ints .i16 B ++ [.int .i16 pred, .int .i64 (n : Int), if n = 0 then f1 k else f2 k])
  len : B.length = 64
  le : n ≤ 64
  pr : -32768 ≤ pred ∧ pred ≤ 32767
/-- The document's builder. -/
structure Rbl7 (H : Hp) (k : Nat) (pred : Int) (B : List Int) (n : Nat) : Prop where
  bk : Bk H k 47 (ints .i16 B ++ [.int .i64 pred, .int .i64 (n : Int)])
  len : B.length = 64
  le : n ≤ 64
  pr : -32768 ≤ pred ∧ pred ≤ 32767
theorem Bld7.ch {H H' : Hp} {k : Nat} {pred : Int} {B : List Int} {n : Nat} {F : List Nat} (h : Bld7 H k pred B n) (c : Ch F H H') (hk : k ∉ F) : Bld7 H' k pred B n := ⟨h.bk.ch c hk, h.len, h.le, h.pr⟩
theorem Bld7.keep {H H' : Hp} {k : Nat} {pred : Int} {B : List Int} {n : Nat} (h : Bld7 H k pred B n) (c : Keep H H') : Bld7 H' k pred B n := h.ch (c.ch (F := [])) (by simp)
theorem Rbl7.ch {H H' : Hp} {k : Nat} {pred : Int} {B : List Int} {n : Nat} {F : List Nat} (h : Rbl7 H k pred B n) (c : Ch F H H') (hk : k ∉ F) : Rbl7 H' k pred B n := ⟨h.bk.ch c hk, h.len, h.le, h.pr⟩
theorem Rbl7.keep {H H' : Hp} {k : Nat} {pred : Int} {B : List Int} {n : Nat} (h : Rbl7 H k pred B n) (c : Keep H H') : Rbl7 H' k pred B n := h.ch (c.ch (F := [])) (by simp)
theorem tail_get {B : List Int} {t : List Value} {i j : Nat} (hB : B.length = 64) (hi : i = 64 + j) : (ints .i16 B ++ t)[i]? = t[j]? := by
  subst hi
  rw [List.getElem?_append_right (by rw [ints_length]; omega), ints_length, hB]
  congr 1
  omega
theorem tail_set {B : List Int} {t : List Value} {v : Value} {i j : Nat} (hB : B.length = 64) (hi : i = 64 + j) : (ints .i16 B ++ t).set i v = ints .i16 B ++ t.set j v := by
  subst hi
  rw [List.set_append_right _ _ (by rw [ints_length]; omega), ints_length, hB]
  congr 2
  omega
theorem head_set {B : List Int} {t : List Value} {v : Int} {i : Nat} (hB : B.length = 64) (hi : i < 64) : (ints .i16 B ++ t).set i (.int .i16 v) = ints .i16 (B.set i v) ++ t := by
  rw [List.set_append_left _ _ (by rw [ints_length]; omega)]
  unfold ints
  rw [List.map_set]
section
variable {H : Hp} {k : Nat} {pred : Int} {B : List Int} {n : Nat}
theorem Bld7.n65 (h : Bld7 H k pred B n) {K : Int → Prop} (hK : K (n : Int)) : ldI .i64 H ((⟨k, 0, none⟩ : Addr).add 65) K := ldI_a h.bk ((tail_get h.len (j := 1) rfl).trans rfl) hK
theorem Rbl7.n65 (h : Rbl7 H k pred B n) {K : Int → Prop} (hK : K (n : Int)) : ldI .i64 H ((⟨k, 0, none⟩ : Addr).add 65) K := ldI_a h.bk ((tail_get h.len (j := 1) rfl).trans rfl) hK
theorem Done_ok {Q : Bool → Hp → Prop} (h : Bld7 H k pred B n) (hQ : Q (decide (n = 64)) H) : runs_Builder_Done.s (some ⟨k, 0, none⟩) H Q := by
  refine ⟨_, rfl, h.n65 ?_⟩
  have := h.le
  have e : decide ((63 : Int) < (n : Int)) = decide (n = 64) := by
    by_cases h1 : n = 64
    · rw [dect h1]; exact dect (by omega)
    · rw [decf h1]; exact decf (by omega)
  rw [e]
  exact hQ
theorem rDone_ok {Q : Bool → Hp → Prop} (h : Rbl7 H k pred B n) (hQ : Q (decide (n = 64)) H) : mosaicref07_Builder_Done.s (some ⟨k, 0, none⟩) H Q := by
  refine ⟨_, rfl, h.n65 ?_⟩
  have e : ((n : Int) == 64) = decide (n = 64) := by
    by_cases h1 : n = 64
    · rw [dect h1]; exact beqi (by omega)
    · rw [decf h1]; exact beqf (by omega)
  rw [e]
  exact hQ
theorem and15 {y : Nat} (hy : y < 256) : IntKind.wrap .i8 (Go.bits .and .u8 (y : Int) 15) = ((y % 16 : Nat) : Int) := by
  have e := gand (k := .u8) (x := y) (y := 15) (by show _ < 2 ^ 8; omega) (by decide) (by
    have : y &&& 15 ≤ 15 := Nat.and_le_right
    exact wu8n (by omega))
  have e2 : y &&& 15 = y % 16 := Nat.and_two_pow_sub_one_eq_mod y 4
  rw [show ((15 : Nat) : Int) = (15 : Int) from rfl] at e
  rw [e, e2, w8 (by omega)]
theorem Wants_ok {y : Nat} {Q : Int × Int → Hp → Prop} (h : Bld7 H k pred B n) (hy : y < 256) (hQ : Q (((wF n y).1 : Int), ((wF n y).2 : Int)) H) : runs_Builder_Wants.s (some ⟨k, 0, none⟩) (y : Int) H Q := by
  have hle := h.le
  unfold runs_Builder_Wants.s
  unfold wF at hQ
  refine Done_ok h ?_
  by_cases h1 : n = 64
  · rw [if_pos h1] at hQ
    exact ite_t (dect h1) hQ
  rw [if_neg h1] at hQ
  refine ite_f (decf h1) (Join.intro (fun b H' => b = decide (n = 0 ∧ 11 < y) ∧ H = H') ?_ fun J hJ => ⟨_, rfl, h.n65 ?_⟩)
  rotate_left
  · by_cases h2 : n = 0
    · refine ite_t (beqi (by omega)) (hJ _ _ ⟨?_, rfl⟩)
      by_cases h3 : 11 < y
      · exact (dect (by omega)).trans (dect ⟨h2, h3⟩).symm
      · exact (decf (by omega)).trans (decf fun x => h3 x.2).symm
    · exact ite_f (beqf (by omega)) (hJ _ _ ⟨(decf fun x => h2 x.1).symm, rfl⟩)
  rintro _ _ ⟨rfl, rfl⟩
  by_cases h2 : n = 0
  · rw [if_pos h2] at hQ
    by_cases h3 : 11 < y
    · rw [if_pos h3] at hQ
      exact ite_t (dect ⟨h2, h3⟩) hQ
    · rw [if_neg h3] at hQ
      refine ite_f (decf fun x => h3 x.2) ⟨_, rfl, h.n65 (ite_t (beqi (by omega)) ?_)⟩
      rw [w8 (by omega)]
      exact hQ
  rw [if_neg h2] at hQ
  refine ite_f (decf fun x => h2 x.1) ⟨_, rfl, h.n65 (ite_f (beqf (by omega)) ?_)⟩
  by_cases h3 : y = 0
  · rw [if_pos h3] at hQ
    exact ite_t (beqi (by omega)) hQ
  rw [if_neg h3] at hQ
  refine ite_f (beqf (by omega)) ?_
  by_cases h4 : y = 240
  · rw [if_pos h4] at hQ
    refine ite_t (beqi (by omega)) (h.n65 ?_)
    rw [w64 (by omega)]
    by_cases h5 : 63 < n + 16
    · rw [if_pos h5] at hQ
      exact ite_t (dect (by omega)) hQ
    · rw [if_neg h5] at hQ
      exact ite_f (decf (by omega)) hQ
  rw [if_neg h4] at hQ
  refine ite_f (beqf (by omega)) ?_
  rw [and15 hy]
  have e4 : shrI .u8 (y : Int) 4 = ((y / 16 : Nat) : Int) := shrn (k := .u8) (x := y) (n := 4) (by decide)
  rw [e4]
  refine Join.intro (fun b H' => b = decide (y % 16 = 0 ∨ 10 < y % 16) ∧ H = H') ?_ fun J hJ => ?_
  rotate_left
  · by_cases h5 : y % 16 = 0
    · exact ite_t (dect (by omega)) (hJ _ _ ⟨(dect (.inl h5)).symm, rfl⟩)
    · refine ite_f (decf (by omega)) (hJ _ _ ⟨?_, rfl⟩)
      by_cases h6 : 10 < y % 16
      · exact (dect (by omega)).trans (dect (.inr h6)).symm
      · exact (decf (by omega)).trans (decf (by omega)).symm
  rintro _ _ ⟨rfl, rfl⟩
  by_cases h5 : y % 16 = 0 ∨ 10 < y % 16
  · rw [if_pos h5] at hQ
    exact ite_t (dect h5) hQ
  rw [if_neg h5] at hQ
  refine ite_f (decf h5) (h.n65 ?_)
  rw [w64n (x := y / 16) (by omega), w64 (by omega)]
  by_cases h6 : 63 < n + y / 16
  · rw [if_pos h6] at hQ
    exact ite_t (dect (by omega)) hQ
  · rw [if_neg h6] at hQ
    exact ite_f (decf (by omega)) hQ
theorem rWants_ok {y : Nat} {Q : Int × Int → Hp → Prop} (h : Rbl7 H k pred B n) (hy : y < 256) (hQ : Q (((wF n y).1 : Int), ((wF n y).2 : Int)) H) : mosaicref07_Builder_Wants.s (some ⟨k, 0, none⟩) (y : Int) H Q := by
  have hle := h.le
  unfold mosaicref07_Builder_Wants.s
  unfold wF at hQ
  rw [w64n (x := y) (by omega), show Int.tdiv (y : Int) 16 = ((y / 16 : Nat) : Int) from rfl, w64n (x := y / 16) (by omega), show Int.tmod (y : Int) 16 = ((y % 16 : Nat) : Int) from rfl]
  refine Lt.of ⟨_, rfl, h.n65 ?_⟩
  by_cases h1 : n = 64
  · rw [if_pos h1] at hQ
    exact ite_t (beqi (by omega)) hQ
  rw [if_neg h1] at hQ
  refine ite_f (beqf (by omega)) (h.n65 ?_)
  by_cases h2 : n = 0
  · rw [if_pos h2] at hQ
    refine ite_t (beqi (by omega)) ?_
    by_cases h3 : 11 < y
    · rw [if_pos h3] at hQ
      exact ite_t (dect (by omega)) hQ
    · rw [if_neg h3] at hQ
      refine ite_f (decf (by omega)) ?_
      rw [w8 (by omega)]
      exact hQ
  rw [if_neg h2] at hQ
  refine ite_f (beqf (by omega)) ?_
  by_cases h3 : y = 0
  · rw [if_pos h3] at hQ
    exact ite_t (beqi (by omega)) hQ
  rw [if_neg h3] at hQ
  refine ite_f (beqf (by omega)) ?_
  by_cases h4 : y = 240
  · rw [if_pos h4] at hQ
    refine ite_t (beqi (by omega)) (h.n65 ?_)
    rw [w64 (by omega)]
    by_cases h5 : 63 < n + 16
    · rw [if_pos h5] at hQ
      exact ite_t (dect (by omega)) hQ
    · rw [if_neg h5] at hQ
      exact ite_f (decf (by omega)) hQ
  rw [if_neg h4] at hQ
  refine ite_f (beqf (by omega)) ?_
  refine Join.intro (fun b H' => b = decide (y % 16 = 0 ∨ 10 < y % 16) ∧ H = H') ?_ fun J hJ => ?_
  rotate_left
  · by_cases h5 : y % 16 = 0
    · exact ite_t (beqi (by omega)) (hJ _ _ ⟨(dect (.inl h5)).symm, rfl⟩)
    · refine ite_f (beqf (by omega)) (hJ _ _ ⟨?_, rfl⟩)
      by_cases h6 : 10 < y % 16
      · exact (dect (by omega)).trans (dect (.inr h6)).symm
      · exact (decf (by omega)).trans (decf (by omega)).symm
  rintro _ _ ⟨rfl, rfl⟩
  by_cases h5 : y % 16 = 0 ∨ 10 < y % 16
  · rw [if_pos h5] at hQ
    exact ite_t (dect h5) hQ
  rw [if_neg h5] at hQ
  refine ite_f (decf h5) (h.n65 ?_)
  rw [w64 (by omega)]
  by_cases h6 : 63 < n + y / 16
  · rw [if_pos h6] at hQ
    exact ite_t (dect (by omega)) hQ
  · rw [if_neg h6] at hQ
    refine ite_f (decf (by omega)) (Lt.of ?_)
    rw [w8 (by omega)]
    exact hQ
end
theorem power7_ok {n : Nat} {H : Hp} {Q : Int → Hp → Prop} (hn : n ≤ 62) (h : Q ((2 ^ n : Nat) : Int) H) : mosaicref07_power.s (n : Int) H Q := by
  unfold mosaicref07_power.s
  refine Fix.intro (fun (x : Int × Int) H' => ∃ i : Nat, x = (((2 ^ i : Nat) : Int), (i : Int)) ∧ i ≤ n ∧ H = H') (fun x _ => n - x.2.toNat) ⟨0, rfl, by omega, rfl⟩ ?_
  rintro _ _ ⟨i, rfl, hi, rfl⟩ rec hrec
  simp only
  by_cases hin : i < n
  · have h1 := pow_lt (show i + 1 ≤ 62 by omega)
    have h2 : (2 : Nat) ^ 62 = 4611686018427387904 := rfl
    have e : (2 : Int) * ((2 ^ i : Nat) : Int) = ((2 ^ (i + 1) : Nat) : Int) := by rw [Nat.pow_succ]; omega
    refine ite_t (dect (by omega)) ?_
    rw [e, show (i : Int) + 1 = ((i + 1 : Nat) : Int) from by omega, w64n (by omega), w64n (by omega)]
    exact hrec _ _ ⟨i + 1, rfl, by omega, rfl⟩ (by simp; omega)
  · obtain rfl : i = n := by omega
    exact ite_f (decf (by omega)) h
theorem rValue_ok {b w : Nat} {H : Hp} {Q : Int → Hp → Prop} (hw : w ≤ 11) (hb : b < 2 ^ w) (h : Q (vF b w) H) : mosaicref07_Value.s (b : Int) (w : Int) H Q := by
  have hp := pow_lt hw
  have h11 : (2 : Nat) ^ 11 = 2048 := rfl
  unfold mosaicref07_Value.s
  unfold vF at h
  refine Join.intro (fun x H' => x = decide (w = 0 ∨ 2 ^ (w - 1) ≤ b) ∧ H = H') ?_ fun J hJ => ?_
  rotate_left
  · by_cases h0 : w = 0
    · exact ite_t (beqi (by omega)) (hJ _ _ ⟨(dect (.inl h0)).symm, rfl⟩)
    · refine ite_f (beqf (by omega)) ?_
      rw [show (w : Int) - 1 = ((w - 1 : Nat) : Int) from by omega, w64n (by omega)]
      refine power7_ok (by omega) (hJ _ _ ⟨?_, rfl⟩)
      by_cases h1 : 2 ^ (w - 1) ≤ b
      · exact (dect (by omega)).trans (dect (.inr h1)).symm
      · exact (decf (by omega)).trans (decf (by omega)).symm
  rintro _ _ ⟨rfl, rfl⟩
  by_cases h1 : w = 0 ∨ 2 ^ (w - 1) ≤ b
  · rw [if_pos h1] at h
    exact ite_t (dect h1) h
  · rw [if_neg h1] at h
    refine ite_f (decf h1) (power7_ok (by omega) (Lt.of ?_))
    rw [w64 (x := (b : Int) - _) (by omega), w64 (by omega)]
    exact h
theorem Value_ok {b w : Nat} {H : Hp} {Q : Int × Bool → Hp → Prop} (hw : w ≤ 11) (hb : b < 2 ^ w) (h : Q (vF b w, true) H) : magnitude_Value.s (b : Int) (w : Int) H Q := by
  have hp := pow_lt hw
  have h11 : (2 : Nat) ^ 11 = 2048 := rfl
  have e1 : shlI .i64 1 (w : Int) = ((2 ^ w : Nat) : Int) := by
    have := shln (k := .i64) (x := 1) (n := w) (by show w ≤ 64; omega) (w64n (by omega))
    rw [show ((1 : Nat) : Int) = (1 : Int) from rfl, Nat.one_mul] at this
    exact this
  unfold magnitude_Value.s
  unfold vF at h
  rw [e1, w64n (x := b) (by omega)]
  refine Join.intro (fun x H' => x = false ∧ H = H') ?_ fun J hJ => ite_f (decf (by omega)) (ite_f (decf (by omega)) ⟨by omega, hJ _ _ ⟨decf (by omega), rfl⟩⟩)
  rintro _ _ ⟨rfl, rfl⟩
  refine ite_f rfl ?_
  by_cases h0 : w = 0
  · subst h0
    have : b = 0 := by simpa using hb
    subst this
    rw [if_pos (.inl rfl)] at h
    exact ite_t rfl h
  refine ite_f (beqf (by omega)) ?_
  rw [show (w : Int) - 1 = ((w - 1 : Nat) : Int) from by omega, w8 (by omega), shrn (k := .u16) (by show _ ≤ 16; omega)]
  have hpos : 0 < 2 ^ (w - 1) := Nat.pow_pos (by omega)
  refine ⟨by omega, ?_⟩
  by_cases h1 : 2 ^ (w - 1) ≤ b
  · rw [if_pos (.inr h1)] at h
    have : 0 < b / 2 ^ (w - 1) := Nat.div_pos h1 hpos
    exact ite_f (beqf (by omega)) h
  · rw [if_neg (by omega)] at h
    refine ite_t (beqi (by rw [Nat.div_eq_of_lt (by omega)]; rfl)) ⟨by omega, Lt.of ?_⟩
    rw [w64 (x := ((2 ^ w : Nat) : Int) - 1) (by omega), w64 (by omega)]
    rw [show (b : Int) - (((2 ^ w : Nat) : Int) - 1) = (b : Int) - ((2 ^ w : Nat) : Int) + 1 from by omega]
    exact h
end Go.Proofs.Ythblohaffipkhaa.G
