/- Of this text what the row needs. -/
import Derived.Test.YtmnoecpnoofdjaaQPenBackZS
import Derived.Test.YtmnoecpnoofdjaaQPenBackGT
import Derived.Test.YtmnoecpnoofdjaaQPenBackZW
import Derived.Test.YtmnoecpnoofdjaaQPenBackKruns
import Derived.Test.YtmnoecpnoofdjaaQPenBackKmagnitude
namespace Go.Proofs.Ytmnoecpnoofdjaa.G
open Go.RowKit
set_option linter.unusedVariables false
set_option linter.unusedSimpArgs false
set_option maxRecDepth 20000
def wF (n y : Nat) : Nat × Nat := if n = 64 then (0, 4) else if n = 0 then (if 11 < y then (0, 60) else (y, 0)) else if y = 0 then (0, 0) else if y = 240 then (if 63 < n + 16 then (0, 70) else (0, 0)) else
 if y % 16 = 0 ∨ 10 < y % 16 then (0, 60) else if 63 < n + y / 16 then (0, 70) else (y % 16, 0)
def vF (b w : Nat) : Int := if w = 0 ∨ 2 ^ (w - 1) ≤ b then (b : Int) else (b : Int) - ((2 ^ w : Nat) : Int) + 1
def tF (pred : Int) (B : List Int) (n y : Nat) (z : Int) (b : Nat) : Nat × List Int × Nat :=
 if (wF n y).2 ≠ 0 then ((wF n y).2, B, n) else if z ≠ (wF n y).1 ∨ 2 ^ (wF n y).1 ≤ b then (60, B, n) else
 if n = 0 then (if pred + vF b (wF n y).1 < -1024 ∨ 1023 < pred + vF b (wF n y).1 then (3, B, n) else (0, B.set 0 (pred + vF b (wF n y).1), 1)) else
 if y = 0 then (0, B, 64) else if y = 240 then (0, B, n + 16) else (0, B.set (n + y / 16) (vF b (wF n y).1), n + y / 16 + 1)
theorem wF_ok {n y : Nat} (hn : n ≤ 64) (h : (wF n y).2 = 0) : (wF n y).1 ≤ 11 ∧ n ≤ 63 ∧ (n ≠ 0 → y = 0 ∨ y = 240 → (wF n y).1 = 0) ∧ (n ≠ 0 → y = 240 → n + 16 ≤ 63) ∧ (n ≠ 0 → y ≠ 0 → y ≠ 240 → n + y / 16 ≤ 63 ∧ 1 ≤ (wF n y).1 ∧ (wF n y).1 ≤ 10 ∧ (wF n y).1 = y % 16) ∧ (n = 0 → (wF n y).1 = y) := by
 unfold wF at h ⊢
 by_cases h1 : n = 64
 ·rw [if_pos h1] at h; cases h
 rw [if_neg h1] at h ⊢
 by_cases h2 : n = 0
 ·rw [if_pos h2] at h ⊢
  by_cases h3 : 11 < y
  ·rw [if_pos h3] at h; cases h
  ·rw [if_neg h3]
   simp; omega
 rw [if_neg h2] at h ⊢
 by_cases h3 : y = 0
 ·rw [if_pos h3]; simp; omega
 rw [if_neg h3] at h ⊢
 by_cases h4 : y = 240
 ·rw [if_pos h4] at h ⊢
  by_cases h5 : 63 < n + 16
  ·rw [if_pos h5] at h; cases h
  ·rw [if_neg h5]; simp; omega
 rw [if_neg h4] at h ⊢
 by_cases h5 : y % 16 = 0 ∨ 10 < y % 16
 ·rw [if_pos h5] at h; cases h
 rw [if_neg h5] at h ⊢
 by_cases h6 : 63 < n + y / 16
 ·rw [if_pos h6] at h; cases h
 ·rw [if_neg h6]; simp; omega
theorem tF_ok {pred : Int} {B : List Int} {n y b : Nat} {z : Int} (hn : n ≤ 64) (hB : B.length = 64) : (tF pred B n y z b).2.1.length = 64 ∧ (tF pred B n y z b).2.2 ≤ 64 ∧ ((tF pred B n y z b).1 ≠ 0 → (tF pred B n y z b).2 = (B, n)) := by
 unfold tF
 by_cases h1 : (wF n y).2 ≠ 0
 ·rw [if_pos h1]; exact ⟨hB, hn, fun _ => rfl⟩
 rw [if_neg h1]
 obtain ⟨q1, q2, q3, q4, q5, q6⟩ := wF_ok (y := y) hn (by omega)
 by_cases h2 : z ≠ (wF n y).1 ∨ 2 ^ (wF n y).1 ≤ b
 ·rw [if_pos h2]; exact ⟨hB, hn, fun _ => rfl⟩
 rw [if_neg h2]
 by_cases h3 : n = 0
 ·rw [if_pos h3]
  split
  ·exact ⟨hB, hn, fun _ => rfl⟩
  ·exact ⟨by simp [hB], by simp, fun h => absurd rfl h⟩
 rw [if_neg h3]
 by_cases h4 : y = 0
 ·rw [if_pos h4]; exact ⟨hB, by simp, fun h => absurd rfl h⟩
 rw [if_neg h4]
 by_cases h5 : y = 240
 ·rw [if_pos h5]; exact ⟨hB, by have := q4 h3 h5; simp; omega, fun h => absurd rfl h⟩
 rw [if_neg h5]
 exact ⟨by simp [hB], by have := q5 h3 h4 h5; simp; omega, fun h => absurd rfl h⟩
theorem vF_le {b w : Nat} (hw : w ≤ 11) (hb : b < 2 ^ w) : -2047 ≤ vF b w ∧ vF b w ≤ 2047 := by
 have h := pow_lt hw
 have h11 : (2 : Nat) ^ 11 = 2048 := rfl
 unfold vF
 split <;> omega
def f1 (k : Nat) : Value := .func (.func 67) #[.pointer (some (⟨k, 0, none⟩ : Addr))] #[]
def f2 (k : Nat) : Value := .func (.func 76) #[.pointer (some (⟨k, 0, none⟩ : Addr))] #[]
structure Bld7 (H : Hp) (k : Nat) (pred : Int) (B : List Int) (n : Nat) : Prop where
 bk : Bk H k 151 (ints .i16 B ++ [.int .i16 pred, .int .i64 (n : Int), if n = 0 then f1 k else f2 k])
 len : B.length = 64
 le : n ≤ 64
 pr : -32768 ≤ pred ∧ pred ≤ 32767
theorem Bld7.ch {H H' : Hp} {k : Nat} {pred : Int} {B : List Int} {n : Nat} {F : List Nat} (h : Bld7 H k pred B n) (c : Ch F H H') (hk : k ∉ F) : Bld7 H' k pred B n := ⟨h.bk.ch c hk, h.len, h.le, h.pr⟩
theorem Bld7.keep {H H' : Hp} {k : Nat} {pred : Int} {B : List Int} {n : Nat} (h : Bld7 H k pred B n) (c : Keep H H') : Bld7 H' k pred B n := h.ch (c.ch (F := [])) (by simp)
theorem tail_get {B : List Int} {t : List Value} {i j : Nat} (hB : B.length = 64) (hi : i = 64 + j) : (ints .i16 B ++ t)[i]? = t[j]? := by
 subst hi
 rw [List.getElem?_append_right (by rw [ints_length]; omega), ints_length, hB]
 congr 1
 omega
theorem tail_set {B : List Int} {t : List Value} {v : Value} {i j : Nat} (hB : B.length = 64) (hi : i = 64 + j) : (ints .i16 B ++ t).set i v = ints .i16 B ++ t.set j v := by
 subst hi
 rw [List.set_append_right _ _ (by rw [ints_length]; omega), ints_length, hB]
 congr 2
 omega
theorem head_set {B : List Int} {t : List Value} {v : Int} {i : Nat} (hB : B.length = 64) (hi : i < 64) : (ints .i16 B ++ t).set i (.int .i16 v) = ints .i16 (B.set i v) ++ t := by
 rw [List.set_append_left _ _ (by rw [ints_length]; omega)]
 unfold ints
 rw [List.map_set]
section
variable {H : Hp} {k : Nat} {pred : Int} {B : List Int} {n : Nat}
theorem Bld7.n65 (h : Bld7 H k pred B n) {K : Int → Prop} (hK : K (n : Int)) : ldI .i64 H ((⟨k, 0, none⟩ : Addr).add 65) K := ldI_a h.bk ((tail_get h.len (j := 1) rfl).trans rfl) hK
theorem Done_ok {Q : Bool → Hp → Prop} (h : Bld7 H k pred B n) (hQ : Q (decide (n = 64)) H) : runs_Builder_Done.s (some ⟨k, 0, none⟩) H Q := by
 refine ⟨_, rfl, h.n65 ?_⟩
 have := h.le
 have e : decide ((63 : Int) < (n : Int)) = decide (n = 64) := by
  by_cases h1 : n = 64
  ·rw [dect h1]; exact dect (by omega)
  ·rw [decf h1]; exact decf (by omega)
 rw [e]
 exact hQ
theorem and15 {y : Nat} (hy : y < 256) : IntKind.wrap .i8 (Go.bits .and .u8 (y : Int) 15) = ((y % 16 : Nat) : Int) := by
 have e := gand (k := .u8) (x := y) (y := 15) (by show _ < 2 ^ 8; omega) (by decide) (by
  have : y &&& 15 ≤ 15 := Nat.and_le_right
  exact wu8n (by omega))
 have e2 : y &&& 15 = y % 16 := Nat.and_two_pow_sub_one_eq_mod y 4
 rw [show ((15 : Nat) : Int) = (15 : Int) from rfl] at e
 rw [e, e2, w8 (by omega)]
theorem Wants_ok {y : Nat} {Q : Int × Int → Hp → Prop} (h : Bld7 H k pred B n) (hy : y < 256) (hQ : Q (((wF n y).1 : Int), ((wF n y).2 : Int)) H) : runs_Builder_Wants.s (some ⟨k, 0, none⟩) (y : Int) H Q := by
 have hle := h.le
 unfold runs_Builder_Wants.s
 unfold wF at hQ
 refine Done_ok h ?_
 by_cases h1 : n = 64
 ·rw [if_pos h1] at hQ
  exact ite_t (dect h1) hQ
 rw [if_neg h1] at hQ
 refine ite_f (decf h1) (Join.intro (fun b H' => b = decide (n = 0 ∧ 11 < y) ∧ H = H') ?_ fun J hJ => ⟨_, rfl, h.n65 ?_⟩)
 rotate_left
 ·by_cases h2 : n = 0
  ·refine ite_t (beqi (by omega)) (hJ _ _ ⟨?_, rfl⟩)
   by_cases h3 : 11 < y
   ·exact (dect (by omega)).trans (dect ⟨h2, h3⟩).symm
   ·exact (decf (by omega)).trans (decf fun x => h3 x.2).symm
  ·exact ite_f (beqf (by omega)) (hJ _ _ ⟨(decf fun x => h2 x.1).symm, rfl⟩)
 rintro _ _ ⟨rfl, rfl⟩
 by_cases h2 : n = 0
 ·rw [if_pos h2] at hQ
  by_cases h3 : 11 < y
  ·rw [if_pos h3] at hQ
   exact ite_t (dect ⟨h2, h3⟩) hQ
  ·rw [if_neg h3] at hQ
   refine ite_f (decf fun x => h3 x.2) ⟨_, rfl, h.n65 (ite_t (beqi (by omega)) ?_)⟩
   rw [w8 (by omega)]
   exact hQ
 rw [if_neg h2] at hQ
 refine ite_f (decf fun x => h2 x.1) ⟨_, rfl, h.n65 (ite_f (beqf (by omega)) ?_)⟩
 by_cases h3 : y = 0
 ·rw [if_pos h3] at hQ
  exact ite_t (beqi (by omega)) hQ
 rw [if_neg h3] at hQ
 refine ite_f (beqf (by omega)) ?_
 by_cases h4 : y = 240
 ·rw [if_pos h4] at hQ
  refine ite_t (beqi (by omega)) (h.n65 ?_)
  rw [w64 (by omega)]
  by_cases h5 : 63 < n + 16
  ·rw [if_pos h5] at hQ
   exact ite_t (dect (by omega)) hQ
  ·rw [if_neg h5] at hQ
   exact ite_f (decf (by omega)) hQ
 rw [if_neg h4] at hQ
 refine ite_f (beqf (by omega)) ?_
 rw [and15 hy]
 have e4 : shrI .u8 (y : Int) 4 = ((y / 16 : Nat) : Int) := shrn (k := .u8) (x := y) (n := 4) (by decide)
 rw [e4]
 refine Join.intro (fun b H' => b = decide (y % 16 = 0 ∨ 10 < y % 16) ∧ H = H') ?_ fun J hJ => ?_
 rotate_left
 ·by_cases h5 : y % 16 = 0
  ·exact ite_t (dect (by omega)) (hJ _ _ ⟨(dect (.inl h5)).symm, rfl⟩)
  ·refine ite_f (decf (by omega)) (hJ _ _ ⟨?_, rfl⟩)
   by_cases h6 : 10 < y % 16
   ·exact (dect (by omega)).trans (dect (.inr h6)).symm
   ·exact (decf (by omega)).trans (decf (by omega)).symm
 rintro _ _ ⟨rfl, rfl⟩
 by_cases h5 : y % 16 = 0 ∨ 10 < y % 16
 ·rw [if_pos h5] at hQ
  exact ite_t (dect h5) hQ
 rw [if_neg h5] at hQ
 refine ite_f (decf h5) (h.n65 ?_)
 rw [w64n (x := y / 16) (by omega), w64 (by omega)]
 by_cases h6 : 63 < n + y / 16
 ·rw [if_pos h6] at hQ
  exact ite_t (dect (by omega)) hQ
 ·rw [if_neg h6] at hQ
  exact ite_f (decf (by omega)) hQ
end
theorem Value_ok {b w : Nat} {H : Hp} {Q : Int × Bool → Hp → Prop} (hw : w ≤ 11) (hb : b < 2 ^ w) (h : Q (vF b w, true) H) : magnitude_Value.s (b : Int) (w : Int) H Q := by
 have hp := pow_lt hw
 have h11 : (2 : Nat) ^ 11 = 2048 := rfl
 have e1 : shlI .i64 1 (w : Int) = ((2 ^ w : Nat) : Int) := by
  have := shln (k := .i64) (x := 1) (n := w) (by show w ≤ 64; omega) (w64n (by omega))
  rw [show ((1 : Nat) : Int) = (1 : Int) from rfl, Nat.one_mul] at this
  exact this
 unfold magnitude_Value.s
 unfold vF at h
 rw [e1, w64n (x := b) (by omega)]
 refine Join.intro (fun x H' => x = false ∧ H = H') ?_ fun J hJ => ite_f (decf (by omega)) (ite_f (decf (by omega)) ⟨by omega, hJ _ _ ⟨decf (by omega), rfl⟩⟩)
 rintro _ _ ⟨rfl, rfl⟩
 refine ite_f rfl ?_
 by_cases h0 : w = 0
 ·subst h0
  have : b = 0 := by simpa using hb
  subst this
  rw [if_pos (.inl rfl)] at h
  exact ite_t rfl h
 refine ite_f (beqf (by omega)) ?_
 rw [show (w : Int) - 1 = ((w - 1 : Nat) : Int) from by omega, w8 (by omega), shrn (k := .u16) (by show _ ≤ 16; omega)]
 have hpos : 0 < 2 ^ (w - 1) := Nat.pow_pos (by omega)
 refine ⟨by omega, ?_⟩
 by_cases h1 : 2 ^ (w - 1) ≤ b
 ·rw [if_pos (.inr h1)] at h
  have : 0 < b / 2 ^ (w - 1) := Nat.div_pos h1 hpos
  exact ite_f (beqf (by omega)) h
 ·rw [if_neg (by omega)] at h
  refine ite_t (beqi (by rw [Nat.div_eq_of_lt (by omega)]; rfl)) ⟨by omega, Lt.of ?_⟩
  rw [w64 (x := ((2 ^ w : Nat) : Int) - 1) (by omega), w64 (by omega)]
  rw [show (b : Int) - (((2 ^ w : Nat) : Int) - 1) = (b : Int) - ((2 ^ w : Nat) : Int) + 1 from by omega]
  exact h
section
variable {H : Hp} {k : Nat} {pred : Int} {B : List Int} {n : Nat}
theorem Take_ok {y b : Nat} {z : Int} {Q : Int → Hp → Prop} (h : Bld7 H k pred B n) (hy : y < 256) (hb : b < 65536) (hQ : ∀ H', Bld7 H' k pred (tF pred B n y z b).2.1 (tF pred B n y z b).2.2 → Ch [k] H H' → Q ((tF pred B n y z b).1 : Int) H') :
  runs_Builder_Take.s (some ⟨k, 0, none⟩) (y : Int) z (b : Int) H Q := by
 have hle := h.le
 have hpr := h.pr
 unfold runs_Builder_Take.s
 intro b1 H2 c2 g1 g1'
 have k2 : Keep H H2 := c2.keep (by simp)
 have h2 := h.keep k2
 have hb1 : ∀ j ∈ [b1], j ≠ k := fun j hj => by have := h.bk.lt; simp at hj; omega
 replace hQ : ∀ H', Bld7 H' k pred (tF pred B n y z b).2.1 (tF pred B n y z b).2.2 → Ch [k] H2 H' → Q ((tF pred B n y z b).1 : Int) H' := fun H' q c => hQ H' q ((k2.ch (F := [k])).trans c (by simp))
 refine Wants_ok h2 hy ⟨fun _ _ => rfl, ?_⟩
 unfold tF at hQ
 by_cases h1 : (wF n y).2 ≠ 0
 ·rw [if_pos h1] at hQ
  exact ite_t (bnet (by show ((wF n y).2 : Int) ≠ 0; omega)) (hQ _ h2 (Ch.refl _ _))
 rw [if_neg h1] at hQ
 obtain ⟨q1, q2, q3, q4, q5, q6⟩ := wF_ok (y := y) hle (by omega)
 generalize hw : (wF n y).1 = w at hQ q1 q3 q5 q6 ⊢
 have e1 : shlI .i64 1 (w : Int) = ((2 ^ w : Nat) : Int) := by
  have := shln (k := .i64) (x := 1) (n := w) (by show w ≤ 64; omega) (w64n (by have := pow_lt q1; have h11 : (2 : Nat) ^ 11 = 2048 := rfl; omega))
  rw [show ((1 : Nat) : Int) = (1 : Int) from rfl, Nat.one_mul] at this
  exact this
 refine ite_f (bnei (by show ((wF n y).2 : Int) = 0; omega)) (Join.intro (fun x H' => x = decide (z ≠ w ∨ 2 ^ w ≤ b) ∧ H2 = H') ?_ fun J hJ => ?_)
 rotate_left
 ·by_cases g1 : z = w
  ·rw [e1, w64n (x := b) (by omega)]
   refine ite_f (bnei g1) ⟨by omega, hJ _ _ ⟨?_, rfl⟩⟩
   by_cases g2 : 2 ^ w ≤ b
   ·exact (dect (by omega)).trans (dect (.inr g2)).symm
   ·exact (decf (by omega)).trans (decf (by omega)).symm
  ·exact ite_t (bnet g1) (hJ _ _ ⟨(dect (.inl g1)).symm, rfl⟩)
 rintro _ _ ⟨rfl, rfl⟩
 by_cases h3 : z ≠ w ∨ 2 ^ w ≤ b
 ·rw [if_pos h3] at hQ
  exact ite_t (dect h3) (hQ _ h2 (Ch.refl _ _))
 rw [if_neg h3] at hQ
 have hv := vF_le q1 (show b < 2 ^ w by omega)
 refine ite_f (decf h3) (Join.intro (fun (_ : Unit) H' => Q 0 H') (fun _ _ q => q) fun J9 hJ9 => Join.intro (fun x H' => x = decide (n ≠ 0 ∧ y = 0) ∧ H2 = H') ?_ fun J hJ => ⟨_, rfl, h2.n65 ?_⟩)
 rotate_left
 ·by_cases g1 : n = 0
  ·exact ite_f (decf (by omega)) (hJ _ _ ⟨(decf (by omega)).symm, rfl⟩)
  ·refine ite_t (dect (by omega)) (hJ _ _ ⟨?_, rfl⟩)
   by_cases g2 : y = 0
   ·exact (beqi (by omega)).trans (dect ⟨g1, g2⟩).symm
   ·exact (beqf (by omega)).trans (decf fun x => g2 x.2).symm
 rintro _ _ ⟨rfl, rfl⟩
 have cfv : (if n = 0 then f1 k else f2 k) = if n = 0 then f1 k else f2 k := rfl
 by_cases h4 : n ≠ 0 ∧ y = 0
 ·rw [if_neg h4.1, if_pos h4.2] at hQ
  replace hQ : ∀ H', Bld7 H' k pred B 64 → Ch [k] H2 H' → Q 0 H' := hQ
  refine ite_t (dect h4) ⟨_, rfl, ?_⟩
  refine st_a h2.bk (by rw [List.length_append, ints_length, h2.len]; simp) fun H17 b17 s17 => hJ9 _ _ (hQ _ ⟨?_, h2.len, by omega, hpr⟩ s17.ch)
  rw [tail_set h2.len (j := 1) rfl, if_neg h4.1] at b17
  rw [if_neg (by omega)]
  exact b17
 refine ite_f (decf h4) (Join.intro (fun x H' => x = decide (n ≠ 0 ∧ y = 240) ∧ H2 = H') ?_ fun J hJ => ⟨_, rfl, h2.n65 ?_⟩)
 rotate_left
 ·by_cases g1 : n = 0
  ·exact ite_f (decf (by omega)) (hJ _ _ ⟨(decf (by omega)).symm, rfl⟩)
  ·refine ite_t (dect (by omega)) (hJ _ _ ⟨?_, rfl⟩)
   by_cases g2 : y = 240
   ·exact (beqi (by omega)).trans (dect ⟨g1, g2⟩).symm
   ·exact (beqf (by omega)).trans (decf fun x => g2 x.2).symm
 rintro _ _ ⟨rfl, rfl⟩
 by_cases h5 : n ≠ 0 ∧ y = 240
 ·rw [if_neg h5.1, if_neg (by omega), if_pos h5.2] at hQ
  replace hQ : ∀ H', Bld7 H' k pred B (n + 16) → Ch [k] H2 H' → Q 0 H' := hQ
  have := q4 h5.1 h5.2
  refine ite_t (dect h5) ⟨_, rfl, h2.n65 ?_⟩
  rw [w64 (by omega)]
  refine st_a h2.bk (by rw [List.length_append, ints_length, h2.len]; simp) fun H17 b17 s17 => hJ9 _ _ (hQ _ ⟨?_, h2.len, by omega, hpr⟩ s17.ch)
  rw [tail_set h2.len (j := 1) rfl, if_neg h5.1] at b17
  rw [if_neg (by omega)]
  exact b17
 refine ite_f (decf h5) ?_
 have ez : z = (w : Int) := by omega
 subst ez
 have e4 : shrI .u8 (y : Int) 4 = ((y / 16 : Nat) : Int) := shrn (k := .u8) (x := y) (n := 4) (by decide)
 rw [e4, w64n (x := y / 16) (by omega)]
 refine Value_ok q1 (by omega) ⟨fun _ _ => rfl, _, rfl, ?_⟩
 refine ⟨if n = 0 then f1 k else f2 k, ?_, ?_⟩
 ·rw [add_mk, h2.bk.cell]
  exact (tail_get h2.len (j := 2) rfl).trans rfl
 by_cases h6 : n = 0
 ·subst h6
  rw [if_pos rfl] at hQ
  refine .inl ⟨some ⟨k, 0, none⟩, by rw [if_pos rfl]; rfl, ?_⟩
  unfold runs_Builder_first.s
  refine ⟨_, rfl, ldI_a h2.bk ((tail_get h2.len (j := 0) rfl).trans rfl) (Lt.of ?_)⟩
  rw [w64 (x := pred) (by omega), w64 (x := vF b w + pred) (by omega), show vF b w + pred = pred + vF b w from by omega]
  refine Join.intro (fun x H' => x = decide (pred + vF b w < -1024 ∨ 1023 < pred + vF b w) ∧ H2 = H') ?_ fun J hJ => ?_
  rotate_left
  ·by_cases g1 : pred + vF b w < -1024
   ·exact ite_t (dect g1) (hJ _ _ ⟨(dect (.inl g1)).symm, rfl⟩)
   ·refine ite_f (decf g1) (hJ _ _ ⟨?_, rfl⟩)
    by_cases g2 : 1023 < pred + vF b w
    ·exact (dect g2).trans (dect (.inr g2)).symm
    ·exact (decf g2).trans (decf (by omega)).symm
  rintro _ _ ⟨rfl, rfl⟩
  by_cases g : pred + vF b w < -1024 ∨ 1023 < pred + vF b w
  ·rw [if_pos g] at hQ
   exact ite_t (dect g) ⟨fun _ _ => rfl, hQ _ h2 (Ch.refl _ _)⟩
  rw [if_neg g] at hQ
  replace hQ : ∀ H', Bld7 H' k pred (B.set 0 (pred + vF b w)) 1 → Ch [k] H2 H' → Q 0 H' := hQ
  have hlen : (ints .i16 B ++ [Value.int .i16 pred, .int .i64 ((0 : Nat) : Int), if 0 = 0 then f1 k else f2 k]).length = 67 := by rw [List.length_append, ints_length, h2.len]; rfl
  refine ite_f (decf g) ⟨by omega, by omega, ?_⟩
  rw [w16 (by omega), add_mk, add_mk]
  refine st_i h2.bk (by rw [hlen]; decide) fun H12 b12 s12 => ?_
  rw [show 0 + 0 + Int.toNat 0 * 1 = 0 from rfl, head_set h2.len (by omega)] at b12
  have hB' : (B.set 0 (pred + vF b w)).length = 64 := by simp [h2.len]
  refine st_a b12 (by rw [List.length_append, ints_length, hB']; simp) fun H13 b13 s13 => ?_
  rw [tail_set hB' (j := 1) rfl] at b13
  refine st_a b13 (by rw [List.length_append, ints_length, hB']; simp) fun H14 b14 s14 => ?_
  rw [tail_set hB' (j := 2) rfl] at b14
  exact ⟨fun j hj => ((s12.trans s13).trans s14).block j (hb1 j hj), hQ _ ⟨b14, hB', by omega, hpr⟩ ((s12.trans s13).trans s14).ch⟩
 ·rw [if_neg h6, if_neg (fun x => h4 ⟨h6, x⟩), if_neg (fun x => h5 ⟨h6, x⟩)] at hQ
  replace hQ : ∀ H', Bld7 H' k pred (B.set (n + y / 16) (vF b w)) (n + y / 16 + 1) → Ch [k] H2 H' → Q 0 H' := hQ
  obtain ⟨p1, p2, p3, p4⟩ := q5 h6 (fun x => h4 ⟨h6, x⟩) (fun x => h5 ⟨h6, x⟩)
  refine .inr ⟨some ⟨k, 0, none⟩, by rw [if_neg h6]; rfl, ?_⟩
  unfold runs_Builder_other.s
  have hlen : (ints .i16 B ++ [Value.int .i16 pred, .int .i64 (n : Int), if n = 0 then f1 k else f2 k]).length = 67 := by rw [List.length_append, ints_length, h2.len]; rfl
  refine ⟨_, rfl, h2.n65 ?_⟩
  rw [show (n : Int) + ((y / 16 : Nat) : Int) = ((n + y / 16 : Nat) : Int) from by omega, w64n (by omega)]
  refine st_a h2.bk (by rw [hlen]; decide) fun H5 b5 s5 => ?_
  rw [tail_set h2.len (j := 1) rfl] at b5
  refine ldI_a b5 ((tail_get h2.len (j := 1) rfl).trans rfl) ⟨by omega, by omega, ?_⟩
  rw [w16 (by omega), add_mk, add_mk, Int.toNat_natCast, show 0 + 0 + (n + y / 16) * 1 = n + y / 16 from by omega]
  refine st_i b5 (by rw [List.length_append, ints_length, h2.len]; simp; omega) fun H11 b11 s11 => ?_
  rw [head_set h2.len (by omega)] at b11
  have hB' : (B.set (n + y / 16) (vF b w)).length = 64 := by simp [h2.len]
  refine ldI_a b11 ((tail_get hB' (j := 1) rfl).trans rfl) ?_
  rw [show ((n + y / 16 : Nat) : Int) + 1 = ((n + y / 16 + 1 : Nat) : Int) from by omega, w64n (by omega)]
  refine st_a b11 (by rw [List.length_append, ints_length, hB']; simp) fun H14 b14 s14 => ?_
  rw [tail_set hB' (j := 1) rfl] at b14
  refine ⟨fun j hj => ((s5.trans s11).trans s14).block j (hb1 j hj), hQ _ ⟨?_, hB', by omega, hpr⟩ ((s5.trans s11).trans s14).ch⟩
  rw [if_neg (by omega)]
  rw [if_neg h6] at b14
  exact b14
theorem Begin_ok {Q : Option Addr → Hp → Prop} (hp : -32768 ≤ pred ∧ pred ≤ 32767) (hQ : ∀ k H', Bld7 H' k pred (List.replicate 64 0) 0 → Keep H H' → H.size ≤ k → Q (some ⟨k, 0, none⟩) H') : runs_Begin.s pred H Q := by
 unfold runs_Begin.s
 intro b1 H2 c2 g1 g1' hb
 refine st_i hb (by rw [len151]; decide) fun H3 b3 s3 => hQ b1 H3 ⟨?_, by simp, by omega, hp⟩ ((c2.keep (by simp)).same s3 g1) g1
 have e : c151 (zInts 64) pred 0 .nilFunc = ints .i16 (List.replicate 64 0) ++ [.int .i16 pred, .int .i64 0, .nilFunc] := rfl
 rw [e, tail_set (by simp) (j := 2) rfl] at b3
 exact b3
theorem blk_ldA {T : TypeId} {b o : Nat} {t : List Value} (h : Bk H b T (ints .i16 B ++ t)) (hB : B.length = 64) : ldA H ((⟨b, 0, none⟩ : Addr).add 0) (ints .i16 B) :=
 ldA_a h fun j v hv => by
  have hj := (List.getElem?_eq_some_iff.1 hv).1
  rw [Nat.zero_add, List.getElem?_append_left hj]
  exact hv
theorem Block_ok {Q : Ints 64 → Hp → Prop} (h : Bld7 H k pred B n) (hQ : ∀ x H', x.1 = B → Keep H H' → Q x H') : runs_Builder_Block.s (some ⟨k, 0, none⟩) H Q := by
 unfold runs_Builder_Block.s
 intro b1 H2 c2 g1 g1'
 have k2 : Keep H H2 := c2.keep (by simp)
 refine ⟨_, rfl, ⟨B, h.len⟩, blk_ldA (o := 0) (h.keep k2).bk h.len, fun H7 c7 => hQ _ _ rfl ?_⟩
 exact (k2.ch (F := [])).trans c7 (by simp; omega) |>.keep (by simp)
end
abbrev Sy := Nat × Int × Nat
def cS (x : Sy) : List Value := c66 (x.1 : Int) x.2.1 (x.2.2 : Int)
theorem cS_len (x : Sy) : (cS x).length = 3 := rfl
theorem cS_ones (x : Sy) : ∀ u ∈ cS x, u.oneCell' = true := one66 _ _ _
def smOk (x : Sy) : Prop := x.1 < 256 ∧ (-128 ≤ x.2.1 ∧ x.2.1 ≤ 127) ∧ x.2.2 < 65536
def zB : List Int := List.replicate 64 0
def bF (pred : Int) : List Int → Nat → List Sy → List Int × Nat
 | B, n, [] => if n = 64 then (B, 0) else (zB, 44)
 | B, n, x :: r => if (tF pred B n x.1 x.2.1 x.2.2).1 ≠ 0 then (zB, (tF pred B n x.1 x.2.1 x.2.2).1) else bF pred (tF pred B n x.1 x.2.1 x.2.2).2.1 (tF pred B n x.1 x.2.1 x.2.2).2.2 r
def blkF (pred : Int) (xs : List Sy) : List Int × Nat := bF pred zB 0 xs
theorem drop_cons {α : Type} {l : List α} {i : Nat} {x : α} (h : l[i]? = some x) : l.drop i = x :: l.drop (i + 1) := by
 obtain ⟨h1, h2⟩ := List.getElem?_eq_some_iff.1 h
 rw [List.drop_eq_getElem_cons h1, h2]
section
variable {H : Hp} {a : Sl} {pred : Int} {xs : List Sy}
end
def bln (n : Nat) : Nat := if n = 0 then 0 else n.log2 + 1
theorem bln_le (n k : Nat) : bln n ≤ k ↔ n < 2 ^ k := by
 unfold bln
 split
 ·rename_i h; subst h; simp [Nat.pow_pos]
 ·rename_i h; rw [← Nat.log2_lt h]; omega
theorem bln_eq {n k : Nat} (h1 : 2 ^ k ≤ n) (h2 : n < 2 ^ (k + 1)) : bln n = k + 1 := by
 have a := (bln_le n (k + 1)).2 h2
 have b : ¬ bln n ≤ k := fun h => by have := (bln_le n k).1 h; omega
 omega
theorem bln_pos {n : Nat} (h : 0 < n) : 0 < bln n := by
 rcases Nat.eq_zero_or_pos (bln n) with h0 | h0
 ·have := (bln_le n 0).1 (by omega); simp at this; omega
 ·exact h0
theorem lt_bln (n : Nat) : n < 2 ^ bln n := (bln_le n _).1 (Nat.le_refl _)
theorem bln_ge {n : Nat} (h : 0 < n) : 2 ^ (bln n - 1) ≤ n := by
 have hp := bln_pos h
 rcases Nat.lt_or_ge n (2 ^ (bln n - 1)) with h1 | h1
 ·have := (bln_le n (bln n - 1)).2 h1; omega
 ·exact h1
theorem bln_shift {n k : Nat} (h : 2 ^ k ≤ n) : bln n = k + bln (n / 2 ^ k) := by
 have hk : 0 < 2 ^ k := Nat.pow_pos (by omega)
 have hq : 0 < n / 2 ^ k := Nat.div_pos h hk
 have h1 := lt_bln (n / 2 ^ k)
 have h2 := bln_ge hq
 have hb := bln_pos hq
 obtain ⟨m, hm⟩ : ∃ m, bln (n / 2 ^ k) = m + 1 := ⟨bln (n / 2 ^ k) - 1, by omega⟩
 rw [hm] at h1 h2 ⊢
 refine bln_eq (k := k + m) ?_ ?_
 ·rw [Nat.pow_add, Nat.mul_comm]
  exact (Nat.le_div_iff_mul_le hk).1 (by simpa using h2)
 ·rw [Nat.add_assoc, Nat.pow_add, Nat.mul_comm]
  exact (Nat.div_lt_iff_lt_mul hk).1 h1
theorem tab_size : strb4f36e89.size = 256 := by decide +kernel
theorem tab_ok : ∀ m : Fin 256, bt strb4f36e89 (m.val : Int) = (bln m.val : Int) := by decide +kernel
theorem shr_nat (k : IntKind) (m j : Nat) (hj : j ≤ k.bits) : shrI k (m : Int) (j : Int) = ((m / 2 ^ j : Nat) : Int) := by
 unfold shrI
 rw [show min (j : Int).toNat k.bits = j from by simp; omega]
 simp
theorem Len64_ok {m : Nat} {H : Hp} {Q : Int → Hp → Prop} (hm : m < 18446744073709551616) (h : Q (bln m : Int) H) : bits_Len64.s m H Q := by
 unfold bits_Len64.s
 have step : ∀ (k : Nat) (c x : Nat), c ≤ 56 → 2 ^ k ≤ x → c + bln x = bln m → c + k + bln (x / 2 ^ k) = bln m := by
  intro k c x _ hx he
  have := bln_shift hx
  omega
 refine Join.intro (fun s H' => ∃ c x : Nat, s = ((x : Int), (c : Int)) ∧ x < 2 ^ 32 ∧ c ≤ 32 ∧ c + bln x = bln m ∧ H = H') ?_ ?_
 ·rintro _ _ ⟨c, x, rfl, hx, hc, he, rfl⟩
  refine Join.intro (fun s H' => ∃ c x : Nat, s = ((x : Int), (c : Int)) ∧ x < 2 ^ 16 ∧ c ≤ 48 ∧ c + bln x = bln m ∧ H = H') ?_ ?_
  ·rintro _ _ ⟨c, x, rfl, hx, hc, he, rfl⟩
   refine Join.intro (fun s H' => ∃ c x : Nat, s = ((x : Int), (c : Int)) ∧ x < 2 ^ 8 ∧ c ≤ 56 ∧ c + bln x = bln m ∧ H = H') ?_ ?_
   ·rintro _ _ ⟨c, x, rfl, hx, hc, he, rfl⟩
    have hx' : x < 256 := hx
    have hw : IntKind.wrap .u8 (x : Int) = x := wu8 (by omega)
    have hb : bln x ≤ 8 := (bln_le x 8).2 hx
    have ht := tab_ok ⟨x, hx'⟩
    simp only at ht
    refine ⟨by rw [hw]; omega, by rw [hw, tab_size]; omega, ?_⟩
    simp only [hw, ht]
    rw [w64 (x := (bln x : Int)) (by omega), w64 (by omega)]
    refine Lt.of ?_
    rw [show (c : Int) + (bln x : Int) = (bln m : Int) from by omega]
    exact h
   ·intro J hJ
    dsimp only
    by_cases hge : 2 ^ 8 ≤ x
    ·refine ite_t (by simp; omega) (hJ _ _ ⟨c + 8, x / 2 ^ 8, ?_, ?_, by omega, step 8 c x (by omega) hge he, rfl⟩)
     ·rw [show (8 : Int) = ((8 : Nat) : Int) from rfl, shr_nat _ _ _ (by simp [IntKind.bits]), w64 (by omega)]; simp
     ·omega
    ·exact ite_f (by simp; omega) (hJ _ _ ⟨c, x, rfl, by omega, by omega, he, rfl⟩)
  ·intro J hJ
   dsimp only
   by_cases hge : 2 ^ 16 ≤ x
   ·refine ite_t (by simp; omega) (hJ _ _ ⟨c + 16, x / 2 ^ 16, ?_, ?_, by omega, step 16 c x (by omega) hge he, rfl⟩)
    ·rw [show (16 : Int) = ((16 : Nat) : Int) from rfl, shr_nat _ _ _ (by simp [IntKind.bits]), w64 (by omega)]; simp
    ·omega
   ·exact ite_f (by simp; omega) (hJ _ _ ⟨c, x, rfl, by omega, by omega, he, rfl⟩)
 ·intro J hJ
  by_cases hge : 2 ^ 32 ≤ m
  ·refine ite_t (by simp; omega) (hJ _ _ ⟨32, m / 2 ^ 32, ?_, ?_, by omega, ?_, rfl⟩)
   ·rw [show (32 : Int) = ((32 : Nat) : Int) from rfl, shr_nat _ _ _ (by simp [IntKind.bits])]
   ·omega
   ·have := step 32 0 m (by omega) hge (by omega); omega
  ·exact ite_f (by simp; omega) (hJ _ _ ⟨0, m, rfl, by omega, by omega, by omega, rfl⟩)
theorem away_ok {v : Int} {H : Hp} {Q : Int → Hp → Prop} (hv : -9223372036854775808 ≤ v ∧ v ≤ 9223372036854775807) (h : Q (v.natAbs : Int) H) : magnitude_away.s v H Q := by
 unfold magnitude_away.s
 by_cases h0 : v < 0
 ·refine ite_t (by simpa using h0) (Lt.of ?_)
  have e1 : IntKind.wrap .u64 v = v + 18446744073709551616 := by rw [IntKind.wrap_u64]; omega
  have e2 : IntKind.wrap .u64 (0 - (v + 18446744073709551616)) = (v.natAbs : Int) := by rw [IntKind.wrap_u64]; omega
  rw [e1, e2]
  exact h
 ·refine ite_f (by simpa using h0) ?_
  rw [wu64 (by omega), show v = (v.natAbs : Int) from by omega]
  exact h
theorem Size_ok {v : Int} {H : Hp} {Q : Int → Hp → Prop} (hv : -9223372036854775808 ≤ v ∧ v ≤ 9223372036854775807) (h : Q (bln v.natAbs : Int) H) : magnitude_Size.s v H Q := by
 unfold magnitude_Size.s
 refine away_ok hv (Len64_ok (by omega) ?_)
 have : bln v.natAbs ≤ 64 := (bln_le _ 64).2 (by omega)
 rw [w8 (by omega)]
 exact h
theorem shl_one {n : Nat} (hn : n ≤ 62) : shlI .i64 1 (n : Int) = ((2 ^ n : Nat) : Int) := by
 unfold shlI
 rw [show min (n : Int).toNat IntKind.i64.bits = n from by simp [IntKind.bits]; omega, Int.one_mul]
 have h1 : (2 : Nat) ^ n ≤ 2 ^ 62 := Nat.pow_le_pow_right (by omega) hn
 have h62 : (2 : Nat) ^ 62 = 4611686018427387904 := rfl
 rw [h62] at h1
 have hc : (2 : Int) ^ n = ((2 ^ n : Nat) : Int) := by simp
 rw [hc]
 generalize 2 ^ n = m at h1 ⊢
 exact w64 (by omega)
def bitsF (v : Int) : Int := if v < 0 then v - 1 + ((2 ^ bln v.natAbs : Nat) : Int) else v
theorem bln_small {v : Int} : bln v.natAbs ≤ 16 ↔ (-65536 < v ∧ v < 65536) := by
 rw [bln_le]
 have : (2 : Nat) ^ 16 = 65536 := rfl
 omega
theorem pow_small {n : Nat} (hn : n ≤ 16) : 1 ≤ (2 : Nat) ^ n ∧ (2 : Nat) ^ n ≤ 65536 := ⟨Nat.pow_pos (by omega), (Nat.pow_le_pow_right (by omega) hn : 2 ^ n ≤ 2 ^ 16)⟩
theorem bitsF_range {v : Int} (h : bln v.natAbs ≤ 16) : 0 ≤ bitsF v ∧ bitsF v < ((2 ^ bln v.natAbs : Nat) : Int) := by
 have h1 := lt_bln v.natAbs
 have h2 := pow_small h
 unfold bitsF
 split <;> omega
theorem Bits_ok {v : Int} {H : Hp} {Q : (Int × Int × Bool) → Hp → Prop} (hv : -9223372036854775808 ≤ v ∧ v ≤ 9223372036854775807)
  (h : bln v.natAbs ≤ 16 → Q (bitsF v, (bln v.natAbs : Int), true) H) (h' : 16 < bln v.natAbs → Q (0, 0, false) H) : magnitude_Bits.s v H Q := by
 unfold magnitude_Bits.s
 refine Size_ok hv ?_
 by_cases hs : bln v.natAbs ≤ 16
 ·refine ite_f (by simp; omega) ?_
  have hvs := bln_small.1 hs
  have hr := bitsF_range hs
  have hp := pow_small hs
  have hlt := lt_bln v.natAbs
  refine Join.intro (fun s H' => s = (if v < 0 then v - 1 else v) ∧ H = H') ?_ ?_
  ·rintro _ _ ⟨rfl, rfl⟩
   refine ⟨by omega, ?_⟩
   rw [shl_one (by omega), w64 (x := ((2 ^ bln v.natAbs : Nat) : Int) - 1) (by omega), and_mask _ (by omega)]
   have e : (if v < 0 then v - 1 else v) % ((2 ^ bln v.natAbs : Nat) : Int) = bitsF v := by
    unfold bitsF at hr ⊢
    split
    ·rename_i h0
     rw [if_pos h0] at hr
     rw [← Int.add_emod_right, Int.emod_eq_of_lt (by omega) (by omega)]
    ·rename_i h0
     exact Int.emod_eq_of_lt (by omega) (by omega)
   rw [e, wu16 (by omega)]
   exact Lt.of (h hs)
  ·intro J hJ
   by_cases h0 : v < 0
   ·refine ite_t (by simpa using h0) ?_
    rw [w64 (by omega)]
    exact hJ _ _ ⟨by rw [if_pos h0], rfl⟩
   ·exact ite_f (by simpa using h0) (hJ _ _ ⟨by rw [if_neg h0], rfl⟩)
 ·exact ite_t (by simp; omega) (h' (by omega))
def valF (b : Int) (n : Nat) : Int := if n = 0 then 0 else if b < ((2 ^ (n - 1) : Nat) : Int) then b - (((2 ^ n : Nat) : Int) - 1) else b
theorem valF_bitsF {v : Int} (h : bln v.natAbs ≤ 16) : valF (bitsF v) (bln v.natAbs) = v := by
 rcases Nat.eq_zero_or_pos v.natAbs with h0 | h0
 ·have : v = 0 := by omega
  subst this; decide
 ·have hp := bln_pos h0
  have h1 := bln_ge h0
  have h2 := lt_bln v.natAbs
  have h3 := bitsF_range h
  obtain ⟨m, hm⟩ : ∃ m, bln v.natAbs = m + 1 := ⟨bln v.natAbs - 1, by omega⟩
  have e : (2 : Nat) ^ (m + 1) = 2 * 2 ^ m := by rw [Nat.pow_succ]; omega
  rw [hm] at h1 h2
  rw [Nat.add_sub_cancel] at h1
  rw [e] at h2
  have hB : bitsF v = if v < 0 then v - 1 + ((2 * 2 ^ m : Nat) : Int) else v := by unfold bitsF; rw [hm, e]
  rw [hB, hm]
  unfold valF
  rw [if_neg (by omega), Nat.add_sub_cancel, e]
  generalize 2 ^ m = p at h1 h2 ⊢
  by_cases hv : v < 0
  ·rw [if_pos hv, if_pos (by omega)]; omega
  ·rw [if_neg hv, if_neg (by omega)]
def smF (z : Nat) (v : Int) : Sy := (16 * z + bln v.natAbs, (bln v.natAbs : Int), (bitsF v).toNat)
def wk : Nat → List Int → List Sy
 | z, [] => if 0 < z then [(0, 0, 0)] else []
 | z, v :: r => if v = 0 then wk (z + 1) r else List.replicate (z / 16) (240, 0, 0) ++ smF (z % 16) v :: wk 0 r
theorem wk_16 {z : Nat} {v : Int} {r : List Int} (h : 16 ≤ z) (hv : v ≠ 0) : wk z (v :: r) = (240, 0, 0) :: wk (z - 16) (v :: r) := by
 rw [wk, if_neg hv, wk, if_neg hv, show z / 16 = (z - 16) / 16 + 1 from by omega, List.replicate_succ, show z % 16 = (z - 16) % 16 from by omega]
 rfl
theorem wk_small {z : Nat} {v : Int} {r : List Int} (h : z < 16) (hv : v ≠ 0) : wk z (v :: r) = smF z v :: wk 0 r := by
 rw [wk, if_neg hv, show z / 16 = 0 from by omega, show z % 16 = z from by omega]
 rfl
theorem wk_len : ∀ (r : List Int) (z : Nat), (wk z r).length ≤ z + r.length ∧ (0 < z + r.length → 1 ≤ (wk z r).length)
 | [], z => by unfold wk; split <;> simp <;> omega
 | v :: r, z => by
  unfold wk
  have h1 := wk_len r (z + 1)
  have h2 := wk_len r 0
  split
  ·simp; omega
  ·simp; omega
theorem smF_ok {z : Nat} {v : Int} (hz : z ≤ 15) (hv : -2047 ≤ v ∧ v ≤ 2047) : bln v.natAbs ≤ 11 ∧ smOk (smF z v) := by
 have h11 : bln v.natAbs ≤ 11 := (bln_le _ _).2 (by have : (2 : Nat) ^ 11 = 2048 := rfl; omega)
 have hr := bitsF_range (v := v) (by omega)
 have hp := pow_lt h11
 have p11 : (2 : Nat) ^ 11 = 2048 := rfl
 refine ⟨h11, ?_⟩
 unfold smOk smF
 simp only
 omega
def mayB (B : List Int) : Prop := (-1024 ≤ B.getD 0 0 ∧ B.getD 0 0 ≤ 1023) ∧ ∀ k, 1 ≤ k → k < 64 → -1023 ≤ B.getD k 0 ∧ B.getD k 0 ≤ 1023
def syF (B : List Int) (pred : Int) : List Sy := smF 0 (B.getD 0 0 - pred) :: wk 0 (B.drop 1)
theorem syF_len {B : List Int} {pred : Int} (hB : B.length = 64) : 2 ≤ (syF B pred).length ∧ (syF B pred).length ≤ 64 := by
 have := wk_len (B.drop 1) 0
 unfold syF
 simp [hB] at this ⊢
 omega
theorem getD_at {B : List Int} {k : Nat} (h : k < B.length) : B[k]? = some (B.getD k 0) := by
 rw [List.getD_eq_getElem?_getD, List.getElem?_eq_getElem h]; rfl
theorem ints_at {B : List Int} {k : Nat} (h : k < B.length) : (ints .i16 B)[k]? = some (.int .i16 (B.getD k 0)) := by
 unfold ints
 rw [List.getElem?_map, getD_at h]; rfl
section
variable {H : Hp}
theorem sym_ok {z : Nat} {v : Int} {Q : Int × Int × Int → Hp → Prop} (hz : z ≤ 15) (hv : -2047 ≤ v ∧ v ≤ 2047) (h : ∀ H', Keep H H' → Q (((smF z v).1 : Int), (smF z v).2.1, ((smF z v).2.2 : Int)) H') : runs_sym.s (z : Int) v H Q := by
 unfold runs_sym.s
 intro b1 H2 c2 g1 g1'
 have k2 : Keep H H2 := c2.keep (by simp)
 have h11 := (smF_ok hz hv).1
 have hr := bitsF_range (v := v) (by omega)
 refine Bits_ok (by omega) (fun _ => ⟨fun _ _ => rfl, fun H6 c6 => ?_⟩) (fun h => by omega)
 have k6 : Keep H H6 := (k2.ch (F := [])).trans c6 (by simp; omega) |>.keep (by simp)
 have e1 : shlI .u8 (IntKind.wrap .u8 (z : Int)) 4 = ((z * 2 ^ 4 : Nat) : Int) := by
  rw [wu8n (by omega)]
  exact shln (k := .u8) (x := z) (n := 4) (by decide) (wu8n (by omega))
 have hor : (z * 2 ^ 4 ||| bln v.natAbs) = 16 * z + bln v.natAbs := by
  have := Nat.two_pow_add_eq_or_of_lt (i := 4) (b := bln v.natAbs) (by omega) z
  rw [Nat.mul_comm z, ← this]
 have e2 := gor (k := .u8) (x := z * 2 ^ 4) (y := bln v.natAbs) (by show _ < 2 ^ 8; omega) (by show _ < 2 ^ 8; omega) (by rw [hor]; exact wu8n (by omega))
 have := h H6 k6
 unfold smF at this
 simp only at this
 rw [Int.toNat_of_nonneg hr.1] at this
 show Q (Go.bits .or .u8 (shlI .u8 (IntKind.wrap .u8 (z : Int)) 4) (IntKind.wrap .u8 (bln v.natAbs : Int)), (bln v.natAbs : Int), bitsF v) H6
 rw [e1, wu8n (x := bln v.natAbs) (by omega), e2, hor]
 exact this
theorem may_ok {B : List Int} {b1 : Nat} {Q : Bool → Hp → Prop} (hb : Bk H b1 57 (ints .i16 B)) (hB : B.length = 64) (h : ∀ r : Bool, (r = true ↔ mayB B) → Q r H) : runs_may.s (some ⟨b1, 0, none⟩) H Q := by
 unfold runs_may.s
 refine Fix.intro (fun (x : Int) H' => ∃ i : Nat, x = (i : Int) ∧ i ≤ 64 ∧ (0 < i → -1024 ≤ B.getD 0 0 ∧ B.getD 0 0 ≤ 1023) ∧ (∀ k, 1 ≤ k → k < i → -1023 ≤ B.getD k 0 ∧ B.getD k 0 ≤ 1023) ∧ H = H') (fun x _ => 64 - x.toNat) ⟨0, rfl, by omega, fun h => by omega, fun k _ h => by omega, rfl⟩ ?_
 rintro _ _ ⟨i, rfl, hi, p0, pk, rfl⟩ rec hrec
 by_cases hil : i < 64
 ·refine ite_t (dect (by omega)) ⟨_, rfl, by omega, by omega, ?_⟩
  rw [Int.toNat_natCast, Nat.mul_one]
  refine ldI_a hb (ints_at (by omega)) ?_
  refine Join.intro (fun x H' => x = decide (i = 0 ∧ (B.getD i 0 < -1024 ∨ 1023 < B.getD i 0) ∨ 0 < i ∧ (B.getD i 0 < -1023 ∨ 1023 < B.getD i 0)) ∧ H = H') ?_ fun J hJ => ?_
  rotate_left
  ·by_cases h0 : i = 0
   ·refine ite_t (beqi (by omega)) ?_
    by_cases h1 : B.getD i 0 < -1024
    ·exact ite_t (dect h1) (hJ _ _ ⟨(dect (.inl ⟨h0, .inl h1⟩)).symm, rfl⟩)
    refine ite_f (decf h1) ?_
    by_cases h2 : 1023 < B.getD i 0
    ·exact ite_t (dect h2) (hJ _ _ ⟨(dect (.inl ⟨h0, .inr h2⟩)).symm, rfl⟩)
    exact ite_f (decf h2) (ite_f (decf (by omega)) (hJ _ _ ⟨(decf (by omega)).symm, rfl⟩))
   ·refine ite_f (beqf (by omega)) (ite_t (dect (by omega)) ?_)
    by_cases h1 : B.getD i 0 < -1023
    ·exact ite_t (dect h1) (hJ _ _ ⟨(dect (.inr ⟨by omega, .inl h1⟩)).symm, rfl⟩)
    refine ite_f (decf h1) (hJ _ _ ⟨?_, rfl⟩)
    by_cases h2 : 1023 < B.getD i 0
    ·exact (dect h2).trans (dect (.inr ⟨by omega, .inr h2⟩)).symm
    ·exact (decf h2).trans (decf (by omega)).symm
  rintro _ _ ⟨rfl, rfl⟩
  by_cases hbad : i = 0 ∧ (B.getD i 0 < -1024 ∨ 1023 < B.getD i 0) ∨ 0 < i ∧ (B.getD i 0 < -1023 ∨ 1023 < B.getD i 0)
  ·refine ite_t (dect hbad) (h false ⟨fun e => (by cases e), fun e => ?_⟩)
   rcases hbad with ⟨h0, h1⟩ | ⟨h0, h1⟩
   ·subst h0
    have := e.1
    omega
   ·have := e.2 i h0 hil
    omega
  ·refine ite_f (decf hbad) ?_
   rw [show (i : Int) + 1 = ((i + 1 : Nat) : Int) from by omega, w64n (by omega)]
   refine hrec _ _ ⟨i + 1, rfl, by omega, fun _ => ?_, fun k h1 h2 => ?_, rfl⟩ (by simp; omega)
   ·by_cases h0 : i = 0
    ·subst h0; omega
    ·exact p0 (by omega)
   ·by_cases hk : k < i
    ·exact pk k h1 hk
    ·obtain rfl : k = i := by omega
     omega
 ·obtain rfl : i = 64 := by omega
  exact ite_f (decf (by omega)) (h true ⟨fun _ => ⟨p0 (by omega), pk⟩, fun _ => rfl⟩)
end
theorem vF_valF {b w : Nat} (h : b < 2 ^ w) : vF b w = valF (b : Int) w := by
 unfold vF valF
 by_cases h0 : w = 0
 ·subst h0
  have : b = 0 := by simpa using h
  subst this
  simp
 ·rw [if_neg h0]
  by_cases h1 : 2 ^ (w - 1) ≤ b
  ·rw [if_pos (.inr h1), if_neg (by omega)]
  ·rw [if_neg (by omega), if_pos (by omega)]; omega
theorem vF_back {v : Int} (h : bln v.natAbs ≤ 11) : vF (bitsF v).toNat (bln v.natAbs) = v ∧ (bitsF v).toNat < 2 ^ bln v.natAbs := by
 have hr := bitsF_range (v := v) (by omega)
 have hlt : (bitsF v).toNat < 2 ^ bln v.natAbs := by omega
 refine ⟨?_, hlt⟩
 rw [vF_valF hlt, Int.toNat_of_nonneg hr.1]
 exact valF_bitsF (by omega)
def ex0 (B : List Int) (k : Nat) : List Int := B.take k ++ List.replicate (64 - k) 0
section
variable {B : List Int} {pred : Int}
theorem ex0_zero (hB : B.length = 64) {k : Nat} (hk : k < 64) (h : B.getD k 0 = 0) : ex0 B (k + 1) = ex0 B k := by
 unfold ex0
 rw [take_snoc' (getD_at (by omega)), h, List.append_assoc, show 64 - k = (64 - (k + 1)) + 1 from by omega, List.replicate_succ]
 rfl
theorem ex0_set (hB : B.length = 64) {k : Nat} (hk : k < 64) : (ex0 B k).set k (B.getD k 0) = ex0 B (k + 1) := by
 unfold ex0
 have hl : (B.take k).length = k := by simp; omega
 rw [List.set_append_right _ _ (by omega), hl, Nat.sub_self, show 64 - k = (64 - (k + 1)) + 1 from by omega, List.replicate_succ, List.set_cons_zero, take_snoc' (getD_at (by omega)), List.append_assoc]
 rfl
theorem ex0_all (hB : B.length = 64) : ex0 B 64 = B := by
 unfold ex0
 rw [List.take_of_length_le (by omega)]
 simp
theorem tF_f0 {X : List Int} {n : Nat} (h1 : 1 ≤ n) (h2 : n + 16 ≤ 63) : tF pred X n 240 0 0 = (0, X, n + 16) := by
 have hw : wF n 240 = (0, 0) := by
  unfold wF
  rw [if_neg (by omega), if_neg (by omega), if_neg (by omega), if_pos rfl, if_neg (by omega)]
 unfold tF
 rw [hw]
 simp
 omega
theorem tF_end {X : List Int} {n : Nat} (h1 : 1 ≤ n) (h2 : n ≤ 63) : tF pred X n 0 0 0 = (0, X, 64) := by
 have hw : wF n 0 = (0, 0) := by
  unfold wF
  rw [if_neg (by omega), if_neg (by omega), if_pos rfl]
 unfold tF
 rw [hw]
 simp
 omega
theorem tF_sm {X : List Int} {n z : Nat} {v : Int} (h1 : 1 ≤ n) (hz : z ≤ 15) (h2 : n + z ≤ 63) (hv : v ≠ 0) (hv2 : -1023 ≤ v ∧ v ≤ 1023) : tF pred X n (smF z v).1 (smF z v).2.1 (smF z v).2.2 = (0, X.set (n + z) v, n + z + 1) := by
 have h10 : bln v.natAbs ≤ 10 := (bln_le _ _).2 (by have : (2 : Nat) ^ 10 = 1024 := rfl; omega)
 have h0 := bln_pos (n := v.natAbs) (by omega)
 obtain ⟨q1, q2⟩ := vF_back (v := v) (by omega)
 have e1 : (16 * z + bln v.natAbs) % 16 = bln v.natAbs := by omega
 have e2 : (16 * z + bln v.natAbs) / 16 = z := by omega
 have hw : wF n (16 * z + bln v.natAbs) = (bln v.natAbs, 0) := by
  unfold wF
  rw [if_neg (by omega), if_neg (by omega), if_neg (by omega), if_neg (by omega), e1, e2, if_neg (by omega), if_neg (by omega)]
 unfold smF tF
 simp only
 rw [hw]
 simp only
 rw [if_neg (by omega), if_neg (by omega), if_neg (by omega), if_neg (by omega), if_neg (by omega), e2, q1]
theorem bF_cons {X : List Int} {n m : Nat} {Y : List Int} {x : Sy} {r : List Sy} (h : tF pred X n x.1 x.2.1 x.2.2 = (0, Y, m)) : bF pred X n (x :: r) = bF pred Y m r := by
 rw [bF, h, if_neg (by simp)]
theorem back_wk (hB : B.length = 64) (hm : mayB B) : ∀ m k n, 64 - k = m → k ≤ 64 → 1 ≤ n → n ≤ k → bF pred (ex0 B k) n (wk (k - n) (B.drop k)) = (B, 0) := by
 intro m
 induction m with
 | zero =>
  intro k n h1 h2 h3 h4
  obtain rfl : k = 64 := by omega
  rw [List.drop_eq_nil_of_le (by omega), wk, ex0_all hB]
  by_cases hn : 0 < 64 - n
  ·rw [if_pos hn, bF_cons (tF_end h3 (by omega)), bF, if_pos rfl]
  ·rw [if_neg hn, bF, if_pos (by omega)]
 | succ m ih =>
  intro k n h1 h2 h3 h4
  have hk : k < 64 := by omega
  rw [drop_cons (getD_at (by omega) : B[k]? = some (B.getD k 0))]
  by_cases hv : B.getD k 0 = 0
  ·rw [wk, if_pos hv, ← ex0_zero hB hk hv, show k - n + 1 = k + 1 - n from by omega]
   exact ih (k + 1) n (by omega) (by omega) h3 (by omega)
  ·have key : ∀ d n, k - n = d → 1 ≤ n → n ≤ k → bF pred (ex0 B k) n (wk (k - n) (B.getD k 0 :: B.drop (k + 1))) = (B, 0) := by
    intro d
    induction d using Nat.strongRecOn with
    | ind d ih2 =>
     intro n q1 q2 q3
     by_cases h16 : 16 ≤ k - n
     ·rw [wk_16 h16 hv, bF_cons (tF_f0 q2 (by omega)), show k - n - 16 = k - (n + 16) from by omega]
      exact ih2 (k - (n + 16)) (by omega) (n + 16) rfl (by omega) (by omega)
     ·have hr := hm.2 k (by omega) hk
      rw [wk_small (by omega) hv, bF_cons (tF_sm q2 (by omega) (by omega) hv hr), show n + (k - n) = k from by omega, ex0_set hB hk]
      have := ih (k + 1) (k + 1) (by omega) (by omega) (by omega) (Nat.le_refl _)
      rw [Nat.sub_self] at this
      exact this
   exact key (k - n) n rfl h3 h4
theorem blk_back (hB : B.length = 64) (hm : mayB B) (hd : bln (B.getD 0 0 - pred).natAbs ≤ 11) : blkF pred (syF B pred) = (B, 0) := by
 obtain ⟨q1, q2⟩ := vF_back hd
 have e : 16 * 0 + bln (B.getD 0 0 - pred).natAbs = bln (B.getD 0 0 - pred).natAbs := by omega
 have hw : wF 0 (bln (B.getD 0 0 - pred).natAbs) = (bln (B.getD 0 0 - pred).natAbs, 0) := by
  unfold wF
  rw [if_neg (by omega), if_pos rfl, if_neg (by omega)]
 have h1 : tF pred zB 0 (smF 0 (B.getD 0 0 - pred)).1 (smF 0 (B.getD 0 0 - pred)).2.1 (smF 0 (B.getD 0 0 - pred)).2.2 = (0, ex0 B 1, 1) := by
  unfold smF tF
  simp only
  rw [e, hw]
  simp only
  have hs := ex0_set (B := B) hB (k := 0) (by omega)
  have hz : ex0 B 0 = zB := rfl
  rw [hz] at hs
  have h0 := hm.1
  rw [if_neg (by omega), if_neg (by omega), if_pos trivial, q1, show pred + (B.getD 0 0 - pred) = B.getD 0 0 from by omega, if_neg (by omega), hs]
 unfold blkF syF
 rw [bF_cons h1]
 have := back_wk (pred := pred) hB hm 63 1 1 rfl (by omega) (by omega) (by omega)
 rw [Nat.sub_self] at this
 exact this
theorem wk_mem : ∀ (r : List Int) (z : Nat), (∀ v ∈ r, -1023 ≤ v ∧ v ≤ 1023) → ∀ x ∈ wk z r, x.2.1 = ((x.1 % 16 : Nat) : Int) ∧ x.1 % 16 ≤ 10 ∧ x.2.2 < 2 ^ (x.1 % 16) ∧ smOk x
 | [], z, _, x, h => by
  unfold wk at h
  split at h
  ·simp at h; subst h
   refine ⟨rfl, by omega, by decide, ?_⟩
   unfold smOk; simp
  ·simp at h
 | v :: r, z, hv, x, h => by
  have hr : ∀ v ∈ r, -1023 ≤ v ∧ v ≤ 1023 := fun u hu => hv u (by simp [hu])
  unfold wk at h
  split at h
  ·exact wk_mem r (z + 1) hr x h
  ·rename_i hv0
   rcases List.mem_append.1 h with h | h
   ·have := List.eq_of_mem_replicate h
    subst this
    refine ⟨rfl, by decide, by decide, ?_⟩
    unfold smOk; simp
   ·rcases List.mem_cons.1 h with rfl | h
    ·have hb := hv v (by simp)
     have h10 : bln v.natAbs ≤ 10 := (bln_le _ _).2 (by have : (2 : Nat) ^ 10 = 1024 := rfl; omega)
     obtain ⟨q1, q2⟩ := vF_back (v := v) (by omega)
     have e1 : (16 * (z % 16) + bln v.natAbs) % 16 = bln v.natAbs := by omega
     refine ⟨?_, ?_, ?_, (smF_ok (by omega) (by omega)).2⟩
     ·show (bln v.natAbs : Int) = (((16 * (z % 16) + bln v.natAbs) % 16 : Nat) : Int)
      rw [e1]
     ·show (16 * (z % 16) + bln v.natAbs) % 16 ≤ 10
      omega
     ·show (bitsF v).toNat < 2 ^ ((16 * (z % 16) + bln v.natAbs) % 16)
      rw [e1]; exact q2
    ·exact wk_mem r 0 hr x h
theorem may_mem (hB : B.length = 64) (hm : mayB B) : ∀ v ∈ B.drop 1, -1023 ≤ v ∧ v ≤ 1023 := fun v hv => by
 obtain ⟨i, hi⟩ := List.mem_iff_getElem?.1 hv
 rw [List.getElem?_drop] at hi
 have hlt := (List.getElem?_eq_some_iff.1 hi).1
 have := hm.2 (1 + i) (by omega) (by omega)
 rw [List.getD_eq_getElem?_getD, hi] at this
 exact this
theorem syF_ok (hB : B.length = 64) (hm : mayB B) (hp : -32768 ≤ pred ∧ pred ≤ 32767) (hd : bln (B.getD 0 0 - pred).natAbs ≤ 11) : ∀ x ∈ syF B pred, smOk x := by
 intro x hx
 rcases List.mem_cons.1 hx with rfl | hx
 ·have h1 := (bln_le _ _).1 hd
  have p11 : (2 : Nat) ^ 11 = 2048 := rfl
  exact (smF_ok (by omega) (by omega)).2
 ·exact (wk_mem _ _ (may_mem hB hm) x hx).2.2.2
end
end Go.Proofs.Ytmnoecpnoofdjaa.G
