/- Of this text what the row needs. -/
import Derived.Test.YtlfdfikgbdgfdaaQSpanBelievedZS
import Derived.Test.YtlfdfikgbdgfdaaQSpanBelievedGT
import Derived.Test.YtlfdfikgbdgfdaaQSpanBelievedZW
import Derived.Test.YtlfdfikgbdgfdaaQSpanBelievedKruns
import Derived.Test.YtlfdfikgbdgfdaaQSpanBelievedKmagnitude
namespace Go.Proofs.Ytlfdfikgbdgfdaa.G
open Go.RowKit
set_option linter.unusedVariables false
set_option linter.unusedSimpArgs false
set_option maxRecDepth 20000
def wF (n y : Nat) : Nat × Nat := if n = 64 then (0, 4) else if n = 0 then (if 11 < y then (0, 60) else (y, 0)) else if y = 0 then (0, 0) else if y = 240 then (if 63 < n + 16 then (0, 70) else (0, 0)) else
  if y % 16 = 0 ∨ 10 < y % 16 then (0, 60) else if 63 < n + y / 16 then (0, 70) else (y % 16, 0)
def vF (b w : Nat) : Int := if w = 0 ∨ 2 ^ (w - 1) ≤ b then (b : Int) else (b : Int) - ((2 ^ w : Nat) : Int) + 1
def tF (pred : Int) (B : List Int) (n y : Nat) (z : Int) (b : Nat) : Nat × List Int × Nat :=
  if (wF n y).2 ≠ 0 then ((wF n y).2, B, n) else if z ≠ (wF n y).1 ∨ 2 ^ (wF n y).1 ≤ b then (60, B, n) else
  if n = 0 then (if pred + vF b (wF n y).1 < -1024 ∨ 1023 < pred + vF b (wF n y).1 then (3, B, n) else (0, B.set 0 (pred + vF b (wF n y).1), 1)) else
  if y = 0 then (0, B, 64) else if y = 240 then (0, B, n + 16) else (0, B.set (n + y / 16) (vF b (wF n y).1), n + y / 16 + 1)
theorem wF_ok {n y : Nat} (hn : n ≤ 64) (h : (wF n y).2 = 0) : (wF n y).1 ≤ 11 ∧ n ≤ 63 ∧ (n ≠ 0 → y = 0 ∨ y = 240 → (wF n y).1 = 0) ∧ (n ≠ 0 → y = 240 → n + 16 ≤ 63) ∧ (n ≠ 0 → y ≠ 0 → y ≠ 240 → n + y / 16 ≤ 63 ∧ 1 ≤ (wF n y).1 ∧ (wF n y).1 ≤ 10 ∧ (wF n y).1 = y % 16) ∧ (n = 0 → (wF n y).1 = y) := by
  unfold wF at h ⊢
  by_cases h1 : n = 64
  · rw [if_pos h1] at h; cases h
  rw [if_neg h1] at h ⊢
  by_cases h2 : n = 0
  · rw [if_pos h2] at h ⊢
    by_cases h3 : 11 < y
    · rw [if_pos h3] at h; cases h
    · rw [if_neg h3]
      simp; omega
  rw [if_neg h2] at h ⊢
  by_cases h3 : y = 0
  · rw [if_pos h3]; simp; omega
  rw [if_neg h3] at h ⊢
  by_cases h4 : y = 240
  · rw [if_pos h4] at h ⊢
    by_cases h5 : 63 < n + 16
    · rw [if_pos h5] at h; cases h
    · rw [if_neg h5]; simp; omega
  rw [if_neg h4] at h ⊢
  by_cases h5 : y % 16 = 0 ∨ 10 < y % 16
  · rw [if_pos h5] at h; cases h
  rw [if_neg h5] at h ⊢
  by_cases h6 : 63 < n + y / 16
  · rw [if_pos h6] at h; cases h
  · rw [if_neg h6]; simp; omega
theorem tF_ok {pred : Int} {B : List Int} {n y b : Nat} {z : Int} (hn : n ≤ 64) (hB : B.length = 64) : (tF pred B n y z b).2.1.length = 64 ∧ (tF pred B n y z b).2.2 ≤ 64 ∧ ((tF pred B n y z b).1 ≠ 0 → (tF pred B n y z b).2 = (B, n)) := by
  unfold tF
  by_cases h1 : (wF n y).2 ≠ 0
  · rw [if_pos h1]; exact ⟨hB, hn, fun _ => rfl⟩
  rw [if_neg h1]
  obtain ⟨q1, q2, q3, q4, q5, q6⟩ := wF_ok (y := y) hn (by omega)
  by_cases h2 : z ≠ (wF n y).1 ∨ 2 ^ (wF n y).1 ≤ b
  · rw [if_pos h2]; exact ⟨hB, hn, fun _ => rfl⟩
  rw [if_neg h2]
  by_cases h3 : n = 0
  · rw [if_pos h3]
    split
    · exact ⟨hB, hn, fun _ => rfl⟩
    · exact ⟨by simp [hB], by simp, fun h => absurd rfl h⟩
  rw [if_neg h3]
  by_cases h4 : y = 0
  · rw [if_pos h4]; exact ⟨hB, by simp, fun h => absurd rfl h⟩
  rw [if_neg h4]
  by_cases h5 : y = 240
  · rw [if_pos h5]; exact ⟨hB, by have := q4 h3 h5; simp; omega, fun h => absurd rfl h⟩
  rw [if_neg h5]
  exact ⟨by simp [hB], by have := q5 h3 h4 h5; simp; omega, fun h => absurd rfl h⟩
theorem vF_le {b w : Nat} (hw : w ≤ 11) (hb : b < 2 ^ w) : -2047 ≤ vF b w ∧ vF b w ≤ 2047 := by
  have h := pow_lt hw
  have h11 : (2 : Nat) ^ 11 = 2048 := rfl
  unfold vF
  split <;> omega
def f1 (k : Nat) : Value := .func (.func 68) #[.pointer (some (⟨k, 0, none⟩ : Addr))] #[]
def f2 (k : Nat) : Value := .func (.func 77) #[.pointer (some (⟨k, 0, none⟩ : Addr))] #[]
structure Bld7 (H : Hp) (k : Nat) (pred : Int) (B : List Int) (n : Nat) : Prop where
  bk : Bk H k 135 (ints .i16 B ++ [.int .i16 pred, .int .i64 (n : Int), if n = 0 then f1 k else f2 k])
  len : B.length = 64
  le : n ≤ 64
  pr : -32768 ≤ pred ∧ pred ≤ 32767
theorem Bld7.ch {H H' : Hp} {k : Nat} {pred : Int} {B : List Int} {n : Nat} {F : List Nat} (h : Bld7 H k pred B n) (c : Ch F H H') (hk : k ∉ F) : Bld7 H' k pred B n := ⟨h.bk.ch c hk, h.len, h.le, h.pr⟩
theorem Bld7.keep {H H' : Hp} {k : Nat} {pred : Int} {B : List Int} {n : Nat} (h : Bld7 H k pred B n) (c : Keep H H') : Bld7 H' k pred B n := h.ch (c.ch (F := [])) (by simp)
theorem tail_get {B : List Int} {t : List Value} {i j : Nat} (hB : B.length = 64) (hi : i = 64 + j) : (ints .i16 B ++ t)[i]? = t[j]? := by
  subst hi
  rw [List.getElem?_append_right (by rw [ints_length]; omega), ints_length, hB]
  congr 1
  omega
theorem tail_set {B : List Int} {t : List Value} {v : Value} {i j : Nat} (hB : B.length = 64) (hi : i = 64 + j) : (ints .i16 B ++ t).set i v = ints .i16 B ++ t.set j v := by
  subst hi
  rw [List.set_append_right _ _ (by rw [ints_length]; omega), ints_length, hB]
  congr 2
  omega
theorem head_set {B : List Int} {t : List Value} {v : Int} {i : Nat} (hB : B.length = 64) (hi : i < 64) : (ints .i16 B ++ t).set i (.int .i16 v) = ints .i16 (B.set i v) ++ t := by
  rw [List.set_append_left _ _ (by rw [ints_length]; omega)]
  unfold ints
  rw [List.map_set]
section
variable {H : Hp} {k : Nat} {pred : Int} {B : List Int} {n : Nat}
theorem Bld7.n65 (h : Bld7 H k pred B n) {K : Int → Prop} (hK : K (n : Int)) : ldI .i64 H ((⟨k, 0, none⟩ : Addr).add 65) K := ldI_a h.bk ((tail_get h.len (j := 1) rfl).trans rfl) hK
theorem Done_ok {Q : Bool → Hp → Prop} (h : Bld7 H k pred B n) (hQ : Q (decide (n = 64)) H) : runs_Builder_Done.s (some ⟨k, 0, none⟩) H Q := by
  refine ⟨_, rfl, h.n65 ?_⟩
  have := h.le
  have e : decide ((63 : Int) < (n : Int)) = decide (n = 64) := by
    by_cases h1 : n = 64
    · rw [dect h1]; exact dect (by omega)
    · rw [decf h1]; exact decf (by omega)
  rw [e]
  exact hQ
theorem and15 {y : Nat} (hy : y < 256) : IntKind.wrap .i8 (Go.bits .and .u8 (y : Int) 15) = ((y % 16 : Nat) : Int) := by
  have e := gand (k := .u8) (x := y) (y := 15) (by show _ < 2 ^ 8; omega) (by decide) (by
    have : y &&& 15 ≤ 15 := Nat.and_le_right
    exact wu8n (by omega))
  have e2 : y &&& 15 = y % 16 := Nat.and_two_pow_sub_one_eq_mod y 4
  rw [show ((15 : Nat) : Int) = (15 : Int) from rfl] at e
  rw [e, e2, w8 (by omega)]
theorem Wants_ok {y : Nat} {Q : Int × Int → Hp → Prop} (h : Bld7 H k pred B n) (hy : y < 256) (hQ : Q (((wF n y).1 : Int), ((wF n y).2 : Int)) H) : runs_Builder_Wants.s (some ⟨k, 0, none⟩) (y : Int) H Q := by
  have hle := h.le
  unfold runs_Builder_Wants.s
  unfold wF at hQ
  refine Done_ok h ?_
  by_cases h1 : n = 64
  · rw [if_pos h1] at hQ
    exact ite_t (dect h1) hQ
  rw [if_neg h1] at hQ
  refine ite_f (decf h1) (Join.intro (fun b H' => b = decide (n = 0 ∧ 11 < y) ∧ H = H') ?_ fun J hJ => ⟨_, rfl, h.n65 ?_⟩)
  rotate_left
  · by_cases h2 : n = 0
    · refine ite_t (beqi (by omega)) (hJ _ _ ⟨?_, rfl⟩)
      by_cases h3 : 11 < y
      · exact (dect (by omega)).trans (dect ⟨h2, h3⟩).symm
      · exact (decf (by omega)).trans (decf fun x => h3 x.2).symm
    · exact ite_f (beqf (by omega)) (hJ _ _ ⟨(decf fun x => h2 x.1).symm, rfl⟩)
  rintro _ _ ⟨rfl, rfl⟩
  by_cases h2 : n = 0
  · rw [if_pos h2] at hQ
    by_cases h3 : 11 < y
    · rw [if_pos h3] at hQ
      exact ite_t (dect ⟨h2, h3⟩) hQ
    · rw [if_neg h3] at hQ
      refine ite_f (decf fun x => h3 x.2) ⟨_, rfl, h.n65 (ite_t (beqi (by omega)) ?_)⟩
      rw [w8 (by omega)]
      exact hQ
  rw [if_neg h2] at hQ
  refine ite_f (decf fun x => h2 x.1) ⟨_, rfl, h.n65 (ite_f (beqf (by omega)) ?_)⟩
  by_cases h3 : y = 0
  · rw [if_pos h3] at hQ
    exact ite_t (beqi (by omega)) hQ
  rw [if_neg h3] at hQ
  refine ite_f (beqf (by omega)) ?_
  by_cases h4 : y = 240
  · rw [if_pos h4] at hQ
    refine ite_t (beqi (by omega)) (h.n65 ?_)
    rw [w64 (by omega)]
    by_cases h5 : 63 < n + 16
    · rw [if_pos h5] at hQ
      exact ite_t (dect (by omega)) hQ
    · rw [if_neg h5] at hQ
      exact ite_f (decf (by omega)) hQ
  rw [if_neg h4] at hQ
  refine ite_f (beqf (by omega)) ?_
  rw [and15 hy]
  have e4 : shrI .u8 (y : Int) 4 = ((y / 16 : Nat) : Int) := shrn (k := .u8) (x := y) (n := 4) (by decide)
  rw [e4]
  refine Join.intro (fun b H' => b = decide (y % 16 = 0 ∨ 10 < y % 16) ∧ H = H') ?_ fun J hJ => ?_
  rotate_left
  · by_cases h5 : y % 16 = 0
    · exact ite_t (dect (by omega)) (hJ _ _ ⟨(dect (.inl h5)).symm, rfl⟩)
    · refine ite_f (decf (by omega)) (hJ _ _ ⟨?_, rfl⟩)
      by_cases h6 : 10 < y % 16
      · exact (dect (by omega)).trans (dect (.inr h6)).symm
      · exact (decf (by omega)).trans (decf (by omega)).symm
  rintro _ _ ⟨rfl, rfl⟩
  by_cases h5 : y % 16 = 0 ∨ 10 < y % 16
  · rw [if_pos h5] at hQ
    exact ite_t (dect h5) hQ
  rw [if_neg h5] at hQ
  refine ite_f (decf h5) (h.n65 ?_)
  rw [w64n (x := y / 16) (by omega), w64 (by omega)]
  by_cases h6 : 63 < n + y / 16
  · rw [if_pos h6] at hQ
    exact ite_t (dect (by omega)) hQ
  · rw [if_neg h6] at hQ
    exact ite_f (decf (by omega)) hQ
end
theorem Value_ok {b w : Nat} {H : Hp} {Q : Int × Bool → Hp → Prop} (hw : w ≤ 11) (hb : b < 2 ^ w) (h : Q (vF b w, true) H) : magnitude_Value.s (b : Int) (w : Int) H Q := by
  have hp := pow_lt hw
  have h11 : (2 : Nat) ^ 11 = 2048 := rfl
  have e1 : shlI .i64 1 (w : Int) = ((2 ^ w : Nat) : Int) := by
    have := shln (k := .i64) (x := 1) (n := w) (by show w ≤ 64; omega) (w64n (by omega))
    rw [show ((1 : Nat) : Int) = (1 : Int) from rfl, Nat.one_mul] at this
    exact this
  unfold magnitude_Value.s
  unfold vF at h
  rw [e1, w64n (x := b) (by omega)]
  refine Join.intro (fun x H' => x = false ∧ H = H') ?_ fun J hJ => ite_f (decf (by omega)) (ite_f (decf (by omega)) ⟨by omega, hJ _ _ ⟨decf (by omega), rfl⟩⟩)
  rintro _ _ ⟨rfl, rfl⟩
  refine ite_f rfl ?_
  by_cases h0 : w = 0
  · subst h0
    have : b = 0 := by simpa using hb
    subst this
    rw [if_pos (.inl rfl)] at h
    exact ite_t rfl h
  refine ite_f (beqf (by omega)) ?_
  rw [show (w : Int) - 1 = ((w - 1 : Nat) : Int) from by omega, w8 (by omega), shrn (k := .u16) (by show _ ≤ 16; omega)]
  have hpos : 0 < 2 ^ (w - 1) := Nat.pow_pos (by omega)
  refine ⟨by omega, ?_⟩
  by_cases h1 : 2 ^ (w - 1) ≤ b
  · rw [if_pos (.inr h1)] at h
    have : 0 < b / 2 ^ (w - 1) := Nat.div_pos h1 hpos
    exact ite_f (beqf (by omega)) h
  · rw [if_neg (by omega)] at h
    refine ite_t (beqi (by rw [Nat.div_eq_of_lt (by omega)]; rfl)) ⟨by omega, Lt.of ?_⟩
    rw [w64 (x := ((2 ^ w : Nat) : Int) - 1) (by omega), w64 (by omega)]
    rw [show (b : Int) - (((2 ^ w : Nat) : Int) - 1) = (b : Int) - ((2 ^ w : Nat) : Int) + 1 from by omega]
    exact h
section
variable {H : Hp} {k : Nat} {pred : Int} {B : List Int} {n : Nat}
theorem Take_ok {y b : Nat} {z : Int} {Q : Int → Hp → Prop} (h : Bld7 H k pred B n) (hy : y < 256) (hb : b < 65536) (hQ : ∀ H', Bld7 H' k pred (tF pred B n y z b).2.1 (tF pred B n y z b).2.2 → Ch [k] H H' → Q ((tF pred B n y z b).1 : Int) H') :
    runs_Builder_Take.s (some ⟨k, 0, none⟩) (y : Int) z (b : Int) H Q := by
  have hle := h.le
  have hpr := h.pr
  unfold runs_Builder_Take.s
  intro b1 H2 c2 g1 g1'
  have k2 : Keep H H2 := c2.keep (by simp)
  have h2 := h.keep k2
  have hb1 : ∀ j ∈ [b1], j ≠ k := fun j hj => by have := h.bk.lt; simp at hj; omega
  replace hQ : ∀ H', Bld7 H' k pred (tF pred B n y z b).2.1 (tF pred B n y z b).2.2 → Ch [k] H2 H' → Q ((tF pred B n y z b).1 : Int) H' := fun H' q c => hQ H' q ((k2.ch (F := [k])).trans c (by simp))
  refine Wants_ok h2 hy ⟨fun _ _ => rfl, ?_⟩
  unfold tF at hQ
  by_cases h1 : (wF n y).2 ≠ 0
  · rw [if_pos h1] at hQ
    exact ite_t (bnet (by show ((wF n y).2 : Int) ≠ 0; omega)) (hQ _ h2 (Ch.refl _ _))
  rw [if_neg h1] at hQ
  obtain ⟨q1, q2, q3, q4, q5, q6⟩ := wF_ok (y := y) hle (by omega)
  generalize hw : (wF n y).1 = w at hQ q1 q3 q5 q6 ⊢
  have e1 : shlI .i64 1 (w : Int) = ((2 ^ w : Nat) : Int) := by
    have := shln (k := .i64) (x := 1) (n := w) (by show w ≤ 64; omega) (w64n (by have := pow_lt q1; have h11 : (2 : Nat) ^ 11 = 2048 := rfl; omega))
    rw [show ((1 : Nat) : Int) = (1 : Int) from rfl, Nat.one_mul] at this
    exact this
  refine ite_f (bnei (by show ((wF n y).2 : Int) = 0; omega)) (Join.intro (fun x H' => x = decide (z ≠ w ∨ 2 ^ w ≤ b) ∧ H2 = H') ?_ fun J hJ => ?_)
  rotate_left
  · by_cases g1 : z = w
    · rw [e1, w64n (x := b) (by omega)]
      refine ite_f (bnei g1) ⟨by omega, hJ _ _ ⟨?_, rfl⟩⟩
      by_cases g2 : 2 ^ w ≤ b
      · exact (dect (by omega)).trans (dect (.inr g2)).symm
      · exact (decf (by omega)).trans (decf (by omega)).symm
    · exact ite_t (bnet g1) (hJ _ _ ⟨(dect (.inl g1)).symm, rfl⟩)
  rintro _ _ ⟨rfl, rfl⟩
  by_cases h3 : z ≠ w ∨ 2 ^ w ≤ b
  · rw [if_pos h3] at hQ
    exact ite_t (dect h3) (hQ _ h2 (Ch.refl _ _))
  rw [if_neg h3] at hQ
  have hv := vF_le q1 (show b < 2 ^ w by omega)
  refine ite_f (decf h3) (Join.intro (fun (_ : Unit) H' => Q 0 H') (fun _ _ q => q) fun J9 hJ9 => Join.intro (fun x H' => x = decide (n ≠ 0 ∧ y = 0) ∧ H2 = H') ?_ fun J hJ => ⟨_, rfl, h2.n65 ?_⟩)
  rotate_left
  · by_cases g1 : n = 0
    · exact ite_f (decf (by omega)) (hJ _ _ ⟨(decf (by omega)).symm, rfl⟩)
    · refine ite_t (dect (by omega)) (hJ _ _ ⟨?_, rfl⟩)
      by_cases g2 : y = 0
      · exact (beqi (by omega)).trans (dect ⟨g1, g2⟩).symm
      · exact (beqf (by omega)).trans (decf fun x => g2 x.2).symm
  rintro _ _ ⟨rfl, rfl⟩
  have cfv : (if n = 0 then f1 k else f2 k) = if n = 0 then f1 k else f2 k := rfl
  by_cases h4 : n ≠ 0 ∧ y = 0
  · rw [if_neg h4.1, if_pos h4.2] at hQ
    replace hQ : ∀ H', Bld7 H' k pred B 64 → Ch [k] H2 H' → Q 0 H' := hQ
    refine ite_t (dect h4) ⟨_, rfl, ?_⟩
    refine st_a h2.bk (by rw [List.length_append, ints_length, h2.len]; simp) fun H17 b17 s17 => hJ9 _ _ (hQ _ ⟨?_, h2.len, by omega, hpr⟩ s17.ch)
    rw [tail_set h2.len (j := 1) rfl, if_neg h4.1] at b17
    rw [if_neg (by omega)]
    exact b17
  refine ite_f (decf h4) (Join.intro (fun x H' => x = decide (n ≠ 0 ∧ y = 240) ∧ H2 = H') ?_ fun J hJ => ⟨_, rfl, h2.n65 ?_⟩)
  rotate_left
  · by_cases g1 : n = 0
    · exact ite_f (decf (by omega)) (hJ _ _ ⟨(decf (by omega)).symm, rfl⟩)
    · refine ite_t (dect (by omega)) (hJ _ _ ⟨?_, rfl⟩)
      by_cases g2 : y = 240
      · exact (beqi (by omega)).trans (dect ⟨g1, g2⟩).symm
      · exact (beqf (by omega)).trans (decf fun x => g2 x.2).symm
  rintro _ _ ⟨rfl, rfl⟩
  by_cases h5 : n ≠ 0 ∧ y = 240
  · rw [if_neg h5.1, if_neg (by omega), if_pos h5.2] at hQ
    replace hQ : ∀ H', Bld7 H' k pred B (n + 16) → Ch [k] H2 H' → Q 0 H' := hQ
    have := q4 h5.1 h5.2
    refine ite_t (dect h5) ⟨_, rfl, h2.n65 ?_⟩
    rw [w64 (by omega)]
    refine st_a h2.bk (by rw [List.length_append, ints_length, h2.len]; simp) fun H17 b17 s17 => hJ9 _ _ (hQ _ ⟨?_, h2.len, by omega, hpr⟩ s17.ch)
    rw [tail_set h2.len (j := 1) rfl, if_neg h5.1] at b17
    rw [if_neg (by omega)]
    exact b17
  refine ite_f (decf h5) ?_
  have ez : z = (w : Int) := by omega
  subst ez
  have e4 : shrI .u8 (y : Int) 4 = ((y / 16 : Nat) : Int) := shrn (k := .u8) (x := y) (n := 4) (by decide)
  rw [e4, w64n (x := y / 16) (by omega)]
  refine Value_ok q1 (by omega) ⟨fun _ _ => rfl, _, rfl, ?_⟩
  refine ⟨if n = 0 then f1 k else f2 k, ?_, ?_⟩
  · rw [add_mk, h2.bk.cell]
    exact (tail_get h2.len (j := 2) rfl).trans rfl
  by_cases h6 : n = 0
  · subst h6
    rw [if_pos rfl] at hQ
    refine .inl ⟨some ⟨k, 0, none⟩, by rw [if_pos rfl]; rfl, ?_⟩
    unfold runs_Builder_first.s
    refine ⟨_, rfl, ldI_a h2.bk ((tail_get h2.len (j := 0) rfl).trans rfl) (Lt.of ?_)⟩
    rw [w64 (x := pred) (by omega), w64 (x := vF b w + pred) (by omega), show vF b w + pred = pred + vF b w from by omega]
    refine Join.intro (fun x H' => x = decide (pred + vF b w < -1024 ∨ 1023 < pred + vF b w) ∧ H2 = H') ?_ fun J hJ => ?_
    rotate_left
    · by_cases g1 : pred + vF b w < -1024
      · exact ite_t (dect g1) (hJ _ _ ⟨(dect (.inl g1)).symm, rfl⟩)
      · refine ite_f (decf g1) (hJ _ _ ⟨?_, rfl⟩)
        by_cases g2 : 1023 < pred + vF b w
        · exact (dect g2).trans (dect (.inr g2)).symm
        · exact (decf g2).trans (decf (by omega)).symm
    rintro _ _ ⟨rfl, rfl⟩
    by_cases g : pred + vF b w < -1024 ∨ 1023 < pred + vF b w
    · rw [if_pos g] at hQ
      exact ite_t (dect g) ⟨fun _ _ => rfl, hQ _ h2 (Ch.refl _ _)⟩
    rw [if_neg g] at hQ
    replace hQ : ∀ H', Bld7 H' k pred (B.set 0 (pred + vF b w)) 1 → Ch [k] H2 H' → Q 0 H' := hQ
    have hlen : (ints .i16 B ++ [Value.int .i16 pred, .int .i64 ((0 : Nat) : Int), if 0 = 0 then f1 k else f2 k]).length = 67 := by rw [List.length_append, ints_length, h2.len]; rfl
    refine ite_f (decf g) ⟨by omega, by omega, ?_⟩
    rw [w16 (by omega), add_mk, add_mk]
    refine st_i h2.bk (by rw [hlen]; decide) fun H12 b12 s12 => ?_
    rw [show 0 + 0 + Int.toNat 0 * 1 = 0 from rfl, head_set h2.len (by omega)] at b12
    have hB' : (B.set 0 (pred + vF b w)).length = 64 := by simp [h2.len]
    refine st_a b12 (by rw [List.length_append, ints_length, hB']; simp) fun H13 b13 s13 => ?_
    rw [tail_set hB' (j := 1) rfl] at b13
    refine st_a b13 (by rw [List.length_append, ints_length, hB']; simp) fun H14 b14 s14 => ?_
    rw [tail_set hB' (j := 2) rfl] at b14
    exact ⟨fun j hj => ((s12.trans s13).trans s14).block j (hb1 j hj), hQ _ ⟨b14, hB', by omega, hpr⟩ ((s12.trans s13).trans s14).ch⟩
  · rw [if_neg h6, if_neg (fun x => h4 ⟨h6, x⟩), if_neg (fun x => h5 ⟨h6, x⟩)] at hQ
    replace hQ : ∀ H', Bld7 H' k pred (B.set (n + y / 16) (vF b w)) (n + y / 16 + 1) → Ch [k] H2 H' → Q 0 H' := hQ
    obtain ⟨p1, p2, p3, p4⟩ := q5 h6 (fun x => h4 ⟨h6, x⟩) (fun x => h5 ⟨h6, x⟩)
    refine .inr ⟨some ⟨k, 0, none⟩, by rw [if_neg h6]; rfl, ?_⟩
    unfold runs_Builder_other.s
    have hlen : (ints .i16 B ++ [Value.int .i16 pred, .int .i64 (n : Int), if n = 0 then f1 k else f2 k]).length = 67 := by rw [List.length_append, ints_length, h2.len]; rfl
    refine ⟨_, rfl, h2.n65 ?_⟩
    rw [show (n : Int) + ((y / 16 : Nat) : Int) = ((n + y / 16 : Nat) : Int) from by omega, w64n (by omega)]
    refine st_a h2.bk (by rw [hlen]; decide) fun H5 b5 s5 => ?_
    rw [tail_set h2.len (j := 1) rfl] at b5
    refine ldI_a b5 ((tail_get h2.len (j := 1) rfl).trans rfl) ⟨by omega, by omega, ?_⟩
    rw [w16 (by omega), add_mk, add_mk, Int.toNat_natCast, show 0 + 0 + (n + y / 16) * 1 = n + y / 16 from by omega]
    refine st_i b5 (by rw [List.length_append, ints_length, h2.len]; simp; omega) fun H11 b11 s11 => ?_
    rw [head_set h2.len (by omega)] at b11
    have hB' : (B.set (n + y / 16) (vF b w)).length = 64 := by simp [h2.len]
    refine ldI_a b11 ((tail_get hB' (j := 1) rfl).trans rfl) ?_
    rw [show ((n + y / 16 : Nat) : Int) + 1 = ((n + y / 16 + 1 : Nat) : Int) from by omega, w64n (by omega)]
    refine st_a b11 (by rw [List.length_append, ints_length, hB']; simp) fun H14 b14 s14 => ?_
    rw [tail_set hB' (j := 1) rfl] at b14
    refine ⟨fun j hj => ((s5.trans s11).trans s14).block j (hb1 j hj), hQ _ ⟨?_, hB', by omega, hpr⟩ ((s5.trans s11).trans s14).ch⟩
    rw [if_neg (by omega)]
    rw [if_neg h6] at b14
    exact b14
theorem Begin_ok {Q : Option Addr → Hp → Prop} (hp : -32768 ≤ pred ∧ pred ≤ 32767) (hQ : ∀ k H', Bld7 H' k pred (List.replicate 64 0) 0 → Keep H H' → H.size ≤ k → Q (some ⟨k, 0, none⟩) H') : runs_Begin.s pred H Q := by
  unfold runs_Begin.s
  intro b1 H2 c2 g1 g1' hb
  refine st_i hb (by rw [len135]; decide) fun H3 b3 s3 => hQ b1 H3 ⟨?_, by simp, by omega, hp⟩ ((c2.keep (by simp)).same s3 g1) g1
  have e : c135 (zInts 64) pred 0 .nilFunc = ints .i16 (List.replicate 64 0) ++ [.int .i16 pred, .int .i64 0, .nilFunc] := rfl
  rw [e, tail_set (by simp) (j := 2) rfl] at b3
  exact b3
theorem blk_ldA {T : TypeId} {b o : Nat} {t : List Value} (h : Bk H b T (ints .i16 B ++ t)) (hB : B.length = 64) : ldA H ((⟨b, 0, none⟩ : Addr).add 0) (ints .i16 B) :=
  ldA_a h fun j v hv => by
    have hj := (List.getElem?_eq_some_iff.1 hv).1
    rw [Nat.zero_add, List.getElem?_append_left hj]
    exact hv
theorem Block_ok {Q : Ints 64 → Hp → Prop} (h : Bld7 H k pred B n) (hQ : ∀ x H', x.1 = B → Keep H H' → Q x H') : runs_Builder_Block.s (some ⟨k, 0, none⟩) H Q := by
  unfold runs_Builder_Block.s
  intro b1 H2 c2 g1 g1'
  have k2 : Keep H H2 := c2.keep (by simp)
  refine ⟨_, rfl, ⟨B, h.len⟩, blk_ldA (o := 0) (h.keep k2).bk h.len, fun H7 c7 => hQ _ _ rfl ?_⟩
  exact (k2.ch (F := [])).trans c7 (by simp; omega) |>.keep (by simp)
end
abbrev Sy := Nat × Int × Nat
def zB : List Int := List.replicate 64 0
def bF (pred : Int) : List Int → Nat → List Sy → List Int × Nat
  | B, n, [] => if n = 64 then (B, 0) else (zB, 44)
  | B, n, x :: r => if (tF pred B n x.1 x.2.1 x.2.2).1 ≠ 0 then (zB, (tF pred B n x.1 x.2.1 x.2.2).1) else bF pred (tF pred B n x.1 x.2.1 x.2.2).2.1 (tF pred B n x.1 x.2.1 x.2.2).2.2 r
section
variable {H : Hp} {a : Sl} {pred : Int} {xs : List Sy}
end
def mayB (B : List Int) : Prop := (-1024 ≤ B.getD 0 0 ∧ B.getD 0 0 ≤ 1023) ∧ ∀ k, 1 ≤ k → k < 64 → -1023 ≤ B.getD k 0 ∧ B.getD k 0 ≤ 1023
section
variable {H : Hp}
end
section
variable {B : List Int} {pred : Int}
end
end Go.Proofs.Ytlfdfikgbdgfdaa.G
