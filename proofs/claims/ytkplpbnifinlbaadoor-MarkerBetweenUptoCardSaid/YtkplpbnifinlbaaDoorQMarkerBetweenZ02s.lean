/- Of this text what the row needs. -/
import Derived.Test.YtkplpbnifinlbaaDoorQMarkerBetweenZ02r
import Derived.Test.YtkplpbnifinlbaaDoorQMarkerBetweenKMarkerStuffs
import Derived.Lib.ReplaceLaws
namespace Go.Proofs.YtkplpbnifinlbaaDoor.G
open Go.RowKit
set_option linter.unusedVariables false
set_option linter.unusedSimpArgs false
abbrev By (s : ByteArray) : List UInt8 := s.data.toList
def bL (l : List UInt8) : ByteArray := ⟨l.toArray⟩
theorem By_bL (l : List UInt8) : By (bL l) = l := by simp [By, bL]
theorem bL_By (s : ByteArray) : bL (By s) = s := by
  apply ByteArray.ext
  simp [bL]
theorem size_By (s : ByteArray) : s.size = (By s).length := (Array.length_toList (xs := s.data)).symm
theorem bL_size (l : List UInt8) : (bL l).size = l.length := by rw [size_By, By_bL]
theorem bL_app (a b : List UInt8) : bL a ++ bL b = bL (a ++ b) := by
  apply ByteArray.ext
  simp [bL, ByteArray.data_append]
theorem By_app (a b : ByteArray) : By (a ++ b) = By a ++ By b := by simp [By, ByteArray.data_append]
theorem ext_one {s : ByteArray} {i : Nat} (h : i < (By s).length) : s.extract i (i + 1) = bL [(By s)[i]] := by
  apply ByteArray.ext
  rw [ByteArray.data_extract]
  apply Array.toList_inj.1
  simp only [Array.toList_extract, List.extract_eq_take_drop, bL]
  rw [show i + 1 - i = 1 from by omega, List.drop_eq_getElem_cons h]
  simp
theorem bt_iff {s : ByteArray} {k : Nat} (h : k < s.size) (c : UInt8) : bt s (k : Int) = (c.toNat : Int) ↔ (By s)[k]? = some c := by
  rw [bt_nat h, List.getElem?_eq_getElem (by rw [← size_By]; exact h)]
  constructor
  · intro e
    exact congrArg some (UInt8.toNat_inj.1 (by exact_mod_cast e))
  · intro e
    rw [Option.some.inj e]
theorem bt_255 {s : ByteArray} {k : Nat} (h : k < s.size) : bt s (k : Int) = 255 ↔ (By s)[k]? = some 255 := bt_iff h 255
theorem bt_0 {s : ByteArray} {k : Nat} (h : k < s.size) : bt s (k : Int) = 0 ↔ (By s)[k]? = some 0 := bt_iff h 0
def frL : List UInt8 → Bool
  | [] => true
  | b :: l => (if b = 255 then l[0]? == some 0 else true) && frL l
theorem frL_iff : ∀ l : List UInt8, frL l = true ↔ ∀ k : Nat, l[k]? = some 255 → l[k + 1]? = some 0
  | [] => by simp [frL]
  | b :: l => by
    unfold frL
    rw [Bool.and_eq_true, frL_iff l]
    constructor
    · rintro ⟨h1, h2⟩ k hk
      cases k with
      | zero =>
        have e : b = 255 := by simpa using hk
        rw [if_pos e] at h1
        simpa using h1
      | succ k => exact h2 k (by simpa using hk)
    · intro h
      refine ⟨?_, fun k hk => by simpa using h (k + 1) (by simpa using hk)⟩
      by_cases e : b = 255
      · rw [if_pos e]
        have := h 0 (by simp [e])
        simpa using this
      · rw [if_neg e]
theorem index_cons_miss {b : UInt8} {l sub : List UInt8} (h : sub.isPrefixOf (b :: l) = false) : Lib.index (b :: l) sub = if Lib.index l sub == -1 then -1 else Lib.index l sub + 1 := by
  rw [Lib.index, h]; simp
theorem count_cons_miss {b : UInt8} {l sub : List UInt8} (hs : sub ≠ []) (h : sub.isPrefixOf (b :: l) = false) : Lib.count (b :: l) sub = Lib.count l sub := by
  have hix := index_cons_miss h
  by_cases hm : Lib.index l sub = -1
  · rw [Lib.count_miss hm, Lib.count_miss (by rw [hix, if_pos (beq_iff_eq.2 hm)])]
  · have hge := Lib.index_ge l sub
    obtain ⟨j, hj⟩ : ∃ j : Nat, Lib.index l sub = j := ⟨(Lib.index l sub).toNat, by omega⟩
    have hix' : Lib.index (b :: l) sub = ((j + 1 : Nat) : Int) := by rw [hix, if_neg (fun e => hm (beq_iff_eq.1 e)), hj]; omega
    rw [Lib.count_hit hs hj, Lib.count_hit hs hix', show j + 1 + sub.length = (j + sub.length) + 1 from by omega, List.drop_succ_cons]
theorem count_cons_hit {l sub : List UInt8} (hs : sub ≠ []) (h : sub.isPrefixOf l = true) : Lib.count l sub = 1 + Lib.count (l.drop sub.length) sub := by
  have hix : Lib.index l sub = ((0 : Nat) : Int) := by
    cases l with
    | nil =>
      cases sub with
      | nil => exact absurd rfl hs
      | cons a t => simp at h
    | cons b l => rw [Lib.index, if_pos h]; rfl
  rw [Lib.count_hit hs hix, Nat.zero_add]
theorem cnt_fr : ∀ (n : Nat) (l : List UInt8), l.length ≤ n → Lib.count l [255, 0] ≤ l.count 255 ∧ (l.count 255 = Lib.count l [255, 0] ↔ frL l = true)
  | _, [], _ => by
    rw [Lib.count_miss (by rfl)]
    simp [frL]
  | 0, b :: l, h => by simp at h
  | n + 1, b :: l, h => by
    have hl : l.length ≤ n := by simpa using h
    obtain ⟨h1, h2⟩ := cnt_fr n l hl
    by_cases e : b = 255
    · subst e
      rw [List.count_cons_self]
      cases l with
      | nil =>
        rw [count_cons_miss (by simp) (by rfl)]
        refine ⟨by omega, ?_⟩
        rw [Lib.count_miss (by rfl)]
        simp [frL]
      | cons c l =>
        by_cases e0 : c = 0
        · subst e0
          obtain ⟨h3, h4⟩ := cnt_fr n l (by simp at hl; omega)
          rw [count_cons_hit (sub := [255, 0]) (by simp) (by rfl)]
          have e1 : List.count (255 : UInt8) (0 :: l) = l.count 255 := List.count_cons_of_ne (by decide)
          rw [e1]
          show 1 + Lib.count l [255, 0] ≤ _ ∧ (_ = 1 + Lib.count l [255, 0] ↔ _)
          refine ⟨by omega, ?_⟩
          have : frL (255 :: 0 :: l) = frL l := by simp [frL]
          rw [this, ← h4]
          omega
        · rw [count_cons_miss (by simp) (by simp [List.isPrefixOf, Ne.symm e0])]
          refine ⟨by omega, ?_⟩
          have : frL (255 :: c :: l) = false := by simp [frL, e0]
          rw [this]
          constructor
          · intro h; omega
          · intro h; cases h
    · rw [count_cons_miss (by simp) (by simp [List.isPrefixOf, Ne.symm e]), List.count_cons_of_ne (by simpa using e)]
      refine ⟨h1, ?_⟩
      have : frL (b :: l) = frL l := by simp [frL, e]
      rw [this]
      exact h2
theorem cnt_eq (l : List UInt8) : decide (l.count 255 = Lib.count l [255, 0]) = frL l := by
  have := (cnt_fr l.length l (Nat.le_refl _)).2
  cases h : frL l with
  | true => exact dect (this.2 h)
  | false => exact decf fun e => by rw [this.1 e] at h; cases h
def stL (l : List UInt8) : List UInt8 := l.flatMap fun b => if b = 255 then [255, 0] else [b]
theorem stL_cons (b : UInt8) (l : List UInt8) : stL (b :: l) = (if b = 255 then [255, 0] else [b]) ++ stL l := by simp [stL]
theorem stL_len (l : List UInt8) : (stL l).length = l.length + l.count 255 := by
  induction l with
  | nil => rfl
  | cons b l ih =>
    rw [stL_cons, List.length_append, ih]
    by_cases e : b = 255
    · subst e; rw [if_pos rfl, List.count_cons_self]; simp; omega
    · rw [if_neg e, List.count_cons_of_ne (by simpa using e)]; simp; omega
theorem stL_free : ∀ l : List UInt8, frL (stL l) = true
  | [] => rfl
  | b :: l => by
    rw [stL_cons]
    by_cases e : b = 255
    · rw [if_pos e]; simp [frL, stL_free l]
    · rw [if_neg e]; simp [frL, e, stL_free l]
theorem repK_ne {b : UInt8} (hb : b ≠ 255) (new : List UInt8) : ∀ (k : Nat) (l : List UInt8), Lib.replaceK [255] new k (b :: l) = b :: Lib.replaceK [255] new k l
  | 0, l => rfl
  | k + 1, l => by
    have hix := index_cons_miss (b := b) (l := l) (sub := [255]) (by simp [List.isPrefixOf, Ne.symm hb])
    by_cases hm : Lib.index l [255] = -1
    · rw [Lib.replaceK, Lib.replaceK, hix, hm]; rfl
    · have hge := Lib.index_ge l [255]
      obtain ⟨j, hj⟩ : ∃ j : Nat, Lib.index l [255] = j := ⟨(Lib.index l [255]).toNat, by omega⟩
      have hix' : Lib.index (b :: l) [255] = ((j + 1 : Nat) : Int) := by rw [hix, if_neg (fun e => hm (beq_iff_eq.1 e)), hj]; omega
      rw [Lib.replaceK_hit _ _ _ _ _ hj, Lib.replaceK_hit _ _ _ _ _ hix']
      simp
theorem repK_st : ∀ l : List UInt8, Lib.replaceK [255] [255, 0] (l.count 255) l = stL l
  | [] => rfl
  | b :: l => by
    rw [stL_cons]
    by_cases e : b = 255
    · subst e
      have hix : Lib.index (255 :: l) [255] = ((0 : Nat) : Int) := by rw [Lib.index]; simp [List.isPrefixOf]
      rw [List.count_cons_self, Lib.replaceK_hit _ _ _ _ _ hix]
      simp [repK_st l]
    · rw [List.count_cons_of_ne (by simpa using e), repK_ne e, repK_st l, if_neg e]; rfl
theorem rep_st (l : List UInt8) : Lib.replaceAll l [255] [255, 0] = stL l := by
  unfold Lib.replaceAll Lib.replace Lib.replaceNum
  rw [if_neg (by decide), if_pos (.inl (by decide)), Lib.count_one, repK_st]
section
variable {H : Hp}
theorem Free_ok {s : ByteArray} {Q : Bool → Hp → Prop} (hm : Mx H) (hs : s.size < 4294967281) (h : Q (frL (By s)) H) : marker_Free.s s H Q := by
  unfold marker_Free.s strings_Count.s
  refine ⟨hs, by decide, hm, hs, by decide, hm, ?_⟩
  have e1 : Lib.countB s (⟨#[255]⟩ : ByteArray) = (By s).count 255 := Lib.count_one 255 _
  have e2 : Lib.countB s (⟨#[255, 0]⟩ : ByteArray) = Lib.count (By s) [255, 0] := rfl
  rw [e1, e2]
  have e3 : ((((By s).count 255 : Nat) : Int) == ((Lib.count (By s) [255, 0] : Nat) : Int)) = frL (By s) := by
    rw [← cnt_eq]
    by_cases q : (By s).count 255 = Lib.count (By s) [255, 0]
    · rw [dect q]; exact beqi (by rw [q])
    · rw [decf q]; exact beqf (by omega)
  dsimp only
  rw [e3]
  exact h
theorem Stuff_ok {s : ByteArray} {Q : ByteArray → Hp → Prop} (hm : Mx H) (hs : s.size ≤ 1048576) (h : ∀ H', Keep H H' → Q (bL (stL (By s))) H') : marker_Stuff.s s H Q := by
  unfold marker_Stuff.s strings_ReplaceAll.s
  have hc := Lib.countB_le (⟨#[255]⟩ : ByteArray) (by decide) s.size s (Nat.le_refl _)
  have h2 : (⟨#[255, 0]⟩ : ByteArray).size = 2 := rfl
  refine ⟨by omega, by decide, by rw [h2]; omega, hm, fun H1 c1 => ?_⟩
  have e : Lib.replaceAll s.data.toList (⟨#[255]⟩ : ByteArray).data.toList (⟨#[255, 0]⟩ : ByteArray).data.toList = stL (By s) := rep_st _
  have hf := h H1 (c1.keep (by simp))
  unfold bL at hf
  rw [← e] at hf
  exact hf
theorem stL_take {l : List UInt8} {i : Nat} (h : i < l.length) : stL (l.take (i + 1)) = stL (l.take i) ++ if l[i] = 255 then [255, 0] else [l[i]] := by
  unfold stL
  rw [List.take_succ_eq_append_getElem h, List.flatMap_append]
  simp only [List.flatMap_cons, List.flatMap_nil, List.append_nil]
theorem stL_le (l : List UInt8) : (stL l).length ≤ 2 * l.length := by
  have := stL_len l
  have := List.count_le_length (a := (255 : UInt8)) (l := l)
  omega
end
end Go.Proofs.YtkplpbnifinlbaaDoor.G
