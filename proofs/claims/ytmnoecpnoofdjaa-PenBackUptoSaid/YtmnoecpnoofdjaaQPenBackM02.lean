/- Of this text what the row needs. -/
import Derived.Test.YtmnoecpnoofdjaaQPenBackZA
import Derived.Test.YtmnoecpnoofdjaaQPenBackKmarker
import Derived.Lib.ReplaceLaws
import Derived.Test.YtmnoecpnoofdjaaQPenBackGT
namespace Go.Proofs.Ytmnoecpnoofdjaa.G
open Go.RowKit
set_option linter.unusedVariables false
set_option linter.unusedSimpArgs false
set_option maxRecDepth 20000
section
variable {H : Hp}
end
def isMark (s : ByteArray) (k : Nat) : Prop := k + 1 < s.size ∧ bt s (k : Int) = 255 ∧ bt s ((k + 1 : Nat) : Int) ≠ 0 ∧ bt s ((k + 1 : Nat) : Int) ≠ 255
def Mx (H : Hp) : Prop := ∃ m, cellAt H ⟨0, 0, none⟩ = some (.int .i64 m)
theorem Mx.keep {H H' : Hp} (h : Mx H) (k : Keep H H') : Mx H' := by
 obtain ⟨m, hm⟩ := h
 refine ⟨m, ?_⟩
 have h0 : 0 < H.size := by
  rcases Nat.lt_or_ge 0 H.size with h | h
  ·exact h
  ·unfold cellAt at hm
   rw [Array.getElem?_eq_none (by simpa using h)] at hm
   simp at hm
 unfold cellAt at hm ⊢
 rw [k.block 0 h0]
 exact hm
instance (s : ByteArray) (k : Nat) : Decidable (isMark s k) := by unfold isMark; infer_instance
abbrev By (s : ByteArray) : List UInt8 := s.data.toList
def bL (l : List UInt8) : ByteArray := ⟨l.toArray⟩
def frL : List UInt8 → Bool
 | [] => true
 | b :: l => (if b = 255 then l[0]? == some 0 else true) && frL l
theorem index_cons_miss {b : UInt8} {l sub : List UInt8} (h : sub.isPrefixOf (b :: l) = false) : Lib.index (b :: l) sub = if Lib.index l sub == -1 then -1 else Lib.index l sub + 1 := by
 rw [Lib.index, h]; simp
theorem count_cons_miss {b : UInt8} {l sub : List UInt8} (hs : sub ≠ []) (h : sub.isPrefixOf (b :: l) = false) : Lib.count (b :: l) sub = Lib.count l sub := by
 have hix := index_cons_miss h
 by_cases hm : Lib.index l sub = -1
 ·rw [Lib.count_miss hm, Lib.count_miss (by rw [hix, if_pos (beq_iff_eq.2 hm)])]
 ·have hge := Lib.index_ge l sub
  obtain ⟨j, hj⟩ : ∃ j : Nat, Lib.index l sub = j := ⟨(Lib.index l sub).toNat, by omega⟩
  have hix' : Lib.index (b :: l) sub = ((j + 1 : Nat) : Int) := by rw [hix, if_neg (fun e => hm (beq_iff_eq.1 e)), hj]; omega
  rw [Lib.count_hit hs hj, Lib.count_hit hs hix', show j + 1 + sub.length = (j + sub.length) + 1 from by omega, List.drop_succ_cons]
theorem count_cons_hit {l sub : List UInt8} (hs : sub ≠ []) (h : sub.isPrefixOf l = true) : Lib.count l sub = 1 + Lib.count (l.drop sub.length) sub := by
 have hix : Lib.index l sub = ((0 : Nat) : Int) := by
  cases l with
  | nil =>
   cases sub with
   | nil => exact absurd rfl hs
   | cons a t => simp at h
  | cons b l => rw [Lib.index, if_pos h]; rfl
 rw [Lib.count_hit hs hix, Nat.zero_add]
theorem cnt_fr : ∀ (n : Nat) (l : List UInt8), l.length ≤ n → Lib.count l [255, 0] ≤ l.count 255 ∧ (l.count 255 = Lib.count l [255, 0] ↔ frL l = true)
 | _, [], _ => by
  rw [Lib.count_miss (by rfl)]
  simp [frL]
 | 0, b :: l, h => by simp at h
 | n + 1, b :: l, h => by
  have hl : l.length ≤ n := by simpa using h
  obtain ⟨h1, h2⟩ := cnt_fr n l hl
  by_cases e : b = 255
  ·subst e
   rw [List.count_cons_self]
   cases l with
   | nil =>
    rw [count_cons_miss (by simp) (by rfl)]
    refine ⟨by omega, ?_⟩
    rw [Lib.count_miss (by rfl)]
    simp [frL]
   | cons c l =>
    by_cases e0 : c = 0
    ·subst e0
     obtain ⟨h3, h4⟩ := cnt_fr n l (by simp at hl; omega)
     rw [count_cons_hit (sub := [255, 0]) (by simp) (by rfl)]
     have e1 : List.count (255 : UInt8) (0 :: l) = l.count 255 := List.count_cons_of_ne (by decide)
     rw [e1]
     show 1 + Lib.count l [255, 0] ≤ _ ∧ (_ = 1 + Lib.count l [255, 0] ↔ _)
     refine ⟨by omega, ?_⟩
     have : frL (255 :: 0 :: l) = frL l := by simp [frL]
     rw [this, ← h4]
     omega
    ·rw [count_cons_miss (by simp) (by simp [List.isPrefixOf, Ne.symm e0])]
     refine ⟨by omega, ?_⟩
     have : frL (255 :: c :: l) = false := by simp [frL, e0]
     rw [this]
     constructor
     ·intro h; omega
     ·intro h; cases h
  ·rw [count_cons_miss (by simp) (by simp [List.isPrefixOf, Ne.symm e]), List.count_cons_of_ne (by simpa using e)]
   refine ⟨h1, ?_⟩
   have : frL (b :: l) = frL l := by simp [frL, e]
   rw [this]
   exact h2
theorem cnt_eq (l : List UInt8) : decide (l.count 255 = Lib.count l [255, 0]) = frL l := by
 have := (cnt_fr l.length l (Nat.le_refl _)).2
 cases h : frL l with
 | true => exact dect (this.2 h)
 | false => exact decf fun e => by rw [this.1 e] at h; cases h
def stL (l : List UInt8) : List UInt8 := l.flatMap fun b => if b = 255 then [255, 0] else [b]
theorem stL_cons (b : UInt8) (l : List UInt8) : stL (b :: l) = (if b = 255 then [255, 0] else [b]) ++ stL l := by simp [stL]
theorem stL_free : ∀ l : List UInt8, frL (stL l) = true
 | [] => rfl
 | b :: l => by
  rw [stL_cons]
  by_cases e : b = 255
  ·rw [if_pos e]; simp [frL, stL_free l]
  ·rw [if_neg e]; simp [frL, e, stL_free l]
section
variable {H : Hp}
theorem Free_ok {s : ByteArray} {Q : Bool → Hp → Prop} (hm : Mx H) (hs : s.size < 4294967281) (h : Q (frL (By s)) H) : marker_Free.s s H Q := by
 unfold marker_Free.s strings_Count.s
 refine ⟨hs, by decide, hm, hs, by decide, hm, ?_⟩
 have e1 : Lib.countB s (⟨#[255]⟩ : ByteArray) = (By s).count 255 := Lib.count_one 255 _
 have e2 : Lib.countB s (⟨#[255, 0]⟩ : ByteArray) = Lib.count (By s) [255, 0] := rfl
 rw [e1, e2]
 have e3 : ((((By s).count 255 : Nat) : Int) == ((Lib.count (By s) [255, 0] : Nat) : Int)) = frL (By s) := by
  rw [← cnt_eq]
  by_cases q : (By s).count 255 = Lib.count (By s) [255, 0]
  ·rw [dect q]; exact beqi (by rw [q])
  ·rw [decf q]; exact beqf (by omega)
 dsimp only
 rw [e3]
 exact h
end
end Go.Proofs.Ytmnoecpnoofdjaa.G
