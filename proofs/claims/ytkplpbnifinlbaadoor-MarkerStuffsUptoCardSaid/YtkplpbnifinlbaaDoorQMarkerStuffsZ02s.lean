/- Of this text what the row needs. -/
import Derived.Test.YtkplpbnifinlbaaDoorQMarkerStuffsZ02r
import Derived.Test.YtkplpbnifinlbaaDoorQMarkerStuffsKMarkerStuffs
import Derived.Lib.ReplaceLaws
namespace Go.Proofs.YtkplpbnifinlbaaDoor.G
open Go.RowKit
set_option linter.unusedVariables false
set_option linter.unusedSimpArgs false
abbrev By (s : ByteArray) : List UInt8 := s.data.toList
def bL (l : List UInt8) : ByteArray := ⟨l.toArray⟩
theorem By_bL (l : List UInt8) : By (bL l) = l := by simp [By, bL]
theorem size_By (s : ByteArray) : s.size = (By s).length := (Array.length_toList (xs := s.data)).symm
theorem bL_size (l : List UInt8) : (bL l).size = l.length := by rw [size_By, By_bL]
theorem bL_app (a b : List UInt8) : bL a ++ bL b = bL (a ++ b) := by
  apply ByteArray.ext
  simp [bL, ByteArray.data_append]
theorem ext_one {s : ByteArray} {i : Nat} (h : i < (By s).length) : s.extract i (i + 1) = bL [(By s)[i]] := by
  apply ByteArray.ext
  rw [ByteArray.data_extract]
  apply Array.toList_inj.1
  simp only [Array.toList_extract, List.extract_eq_take_drop, bL]
  rw [show i + 1 - i = 1 from by omega, List.drop_eq_getElem_cons h]
  simp
theorem bt_iff {s : ByteArray} {k : Nat} (h : k < s.size) (c : UInt8) : bt s (k : Int) = (c.toNat : Int) ↔ (By s)[k]? = some c := by
  rw [bt_nat h, List.getElem?_eq_getElem (by rw [← size_By]; exact h)]
  constructor
  · intro e
    exact congrArg some (UInt8.toNat_inj.1 (by exact_mod_cast e))
  · intro e
    rw [Option.some.inj e]
theorem bt_255 {s : ByteArray} {k : Nat} (h : k < s.size) : bt s (k : Int) = 255 ↔ (By s)[k]? = some 255 := bt_iff h 255
theorem bt_0 {s : ByteArray} {k : Nat} (h : k < s.size) : bt s (k : Int) = 0 ↔ (By s)[k]? = some 0 := bt_iff h 0
def frL : List UInt8 → Bool
  | [] => true
  | b :: l => (if b = 255 then l[0]? == some 0 else true) && frL l
theorem index_cons_miss {b : UInt8} {l sub : List UInt8} (h : sub.isPrefixOf (b :: l) = false) : Lib.index (b :: l) sub = if Lib.index l sub == -1 then -1 else Lib.index l sub + 1 := by
  rw [Lib.index, h]; simp
theorem count_cons_miss {b : UInt8} {l sub : List UInt8} (hs : sub ≠ []) (h : sub.isPrefixOf (b :: l) = false) : Lib.count (b :: l) sub = Lib.count l sub := by
  have hix := index_cons_miss h
  by_cases hm : Lib.index l sub = -1
  · rw [Lib.count_miss hm, Lib.count_miss (by rw [hix, if_pos (beq_iff_eq.2 hm)])]
  · have hge := Lib.index_ge l sub
    obtain ⟨j, hj⟩ : ∃ j : Nat, Lib.index l sub = j := ⟨(Lib.index l sub).toNat, by omega⟩
    have hix' : Lib.index (b :: l) sub = ((j + 1 : Nat) : Int) := by rw [hix, if_neg (fun e => hm (beq_iff_eq.1 e)), hj]; omega
    rw [Lib.count_hit hs hj, Lib.count_hit hs hix', show j + 1 + sub.length = (j + sub.length) + 1 from by omega, List.drop_succ_cons]
theorem count_cons_hit {l sub : List UInt8} (hs : sub ≠ []) (h : sub.isPrefixOf l = true) : Lib.count l sub = 1 + Lib.count (l.drop sub.length) sub := by
  have hix : Lib.index l sub = ((0 : Nat) : Int) := by
    cases l with
    | nil =>
      cases sub with
      | nil => exact absurd rfl hs
      | cons a t => simp at h
    | cons b l => rw [Lib.index, if_pos h]; rfl
  rw [Lib.count_hit hs hix, Nat.zero_add]
theorem cnt_fr : ∀ (n : Nat) (l : List UInt8), l.length ≤ n → Lib.count l [255, 0] ≤ l.count 255 ∧ (l.count 255 = Lib.count l [255, 0] ↔ frL l = true)
  | _, [], _ => by
    rw [Lib.count_miss (by rfl)]
    simp [frL]
  | 0, b :: l, h => by simp at h
  | n + 1, b :: l, h => by
    have hl : l.length ≤ n := by simpa using h
    obtain ⟨h1, h2⟩ := cnt_fr n l hl
    by_cases e : b = 255
    · subst e
      rw [List.count_cons_self]
      cases l with
      | nil =>
        rw [count_cons_miss (by simp) (by rfl)]
        refine ⟨by omega, ?_⟩
        rw [Lib.count_miss (by rfl)]
        simp [frL]
      | cons c l =>
        by_cases e0 : c = 0
        · subst e0
          obtain ⟨h3, h4⟩ := cnt_fr n l (by simp at hl; omega)
          rw [count_cons_hit (sub := [255, 0]) (by simp) (by rfl)]
          have e1 : List.count (255 : UInt8) (0 :: l) = l.count 255 := List.count_cons_of_ne (by decide)
          rw [e1]
          show 1 + Lib.count l [255, 0] ≤ _ ∧ (_ = 1 + Lib.count l [255, 0] ↔ _)
          refine ⟨by omega, ?_⟩
          have : frL (255 :: 0 :: l) = frL l := by simp [frL]
          rw [this, ← h4]
          omega
        · rw [count_cons_miss (by simp) (by simp [List.isPrefixOf, Ne.symm e0])]
          refine ⟨by omega, ?_⟩
          have : frL (255 :: c :: l) = false := by simp [frL, e0]
          rw [this]
          constructor
          · intro h; omega
          · intro h; cases h
    · rw [count_cons_miss (by simp) (by simp [List.isPrefixOf, Ne.symm e]), List.count_cons_of_ne (by simpa using e)]
      refine ⟨h1, ?_⟩
      have : frL (b :: l) = frL l := by simp [frL, e]
      rw [this]
      exact h2
theorem cnt_eq (l : List UInt8) : decide (l.count 255 = Lib.count l [255, 0]) = frL l := by
  have := (cnt_fr l.length l (Nat.le_refl _)).2
  cases h : frL l with
  | true => exact dect (this.2 h)
  | false => exact decf fun e => by rw [this.1 e] at h; cases h
def stL (l : List UInt8) : List UInt8 := l.flatMap fun b => if b = 255 then [255, 0] else [b]
theorem stL_cons (b : UInt8) (l : List UInt8) : stL (b :: l) = (if b = 255 then [255, 0] else [b]) ++ stL l := by simp [stL]
theorem stL_len (l : List UInt8) : (stL l).length = l.length + l.count 255 := by
  induction l with
  | nil => rfl
  | cons b l ih =>
    rw [stL_cons, List.length_append, ih]
    by_cases e : b = 255
    · subst e; rw [if_pos rfl, List.count_cons_self]; simp; omega
    · rw [if_neg e, List.count_cons_of_ne (by simpa using e)]; simp; omega
theorem repK_ne {b : UInt8} (hb : b ≠ 255) (new : List UInt8) : ∀ (k : Nat) (l : List UInt8), Lib.replaceK [255] new k (b :: l) = b :: Lib.replaceK [255] new k l
  | 0, l => rfl
  | k + 1, l => by
    have hix := index_cons_miss (b := b) (l := l) (sub := [255]) (by simp [List.isPrefixOf, Ne.symm hb])
    by_cases hm : Lib.index l [255] = -1
    · rw [Lib.replaceK, Lib.replaceK, hix, hm]; rfl
    · have hge := Lib.index_ge l [255]
      obtain ⟨j, hj⟩ : ∃ j : Nat, Lib.index l [255] = j := ⟨(Lib.index l [255]).toNat, by omega⟩
      have hix' : Lib.index (b :: l) [255] = ((j + 1 : Nat) : Int) := by rw [hix, if_neg (fun e => hm (beq_iff_eq.1 e)), hj]; omega
      rw [Lib.replaceK_hit _ _ _ _ _ hj, Lib.replaceK_hit _ _ _ _ _ hix']
      simp
theorem repK_st : ∀ l : List UInt8, Lib.replaceK [255] [255, 0] (l.count 255) l = stL l
  | [] => rfl
  | b :: l => by
    rw [stL_cons]
    by_cases e : b = 255
    · subst e
      have hix : Lib.index (255 :: l) [255] = ((0 : Nat) : Int) := by rw [Lib.index]; simp [List.isPrefixOf]
      rw [List.count_cons_self, Lib.replaceK_hit _ _ _ _ _ hix]
      simp [repK_st l]
    · rw [List.count_cons_of_ne (by simpa using e), repK_ne e, repK_st l, if_neg e]; rfl
theorem rep_st (l : List UInt8) : Lib.replaceAll l [255] [255, 0] = stL l := by
  unfold Lib.replaceAll Lib.replace Lib.replaceNum
  rw [if_neg (by decide), if_pos (.inl (by decide)), Lib.count_one, repK_st]
section
variable {H : Hp}
theorem Free_ok {s : ByteArray} {Q : Bool → Hp → Prop} (hm : Mx H) (hs : s.size < 4294967281) (h : Q (frL (By s)) H) : marker_Free.s s H Q := by
  unfold marker_Free.s strings_Count.s
  refine ⟨hs, by decide, hm, hs, by decide, hm, ?_⟩
  have e1 : Lib.countB s (⟨#[255]⟩ : ByteArray) = (By s).count 255 := Lib.count_one 255 _
  have e2 : Lib.countB s (⟨#[255, 0]⟩ : ByteArray) = Lib.count (By s) [255, 0] := rfl
  rw [e1, e2]
  have e3 : ((((By s).count 255 : Nat) : Int) == ((Lib.count (By s) [255, 0] : Nat) : Int)) = frL (By s) := by
    rw [← cnt_eq]
    by_cases q : (By s).count 255 = Lib.count (By s) [255, 0]
    · rw [dect q]; exact beqi (by rw [q])
    · rw [decf q]; exact beqf (by omega)
  dsimp only
  rw [e3]
  exact h
theorem Stuff_ok {s : ByteArray} {Q : ByteArray → Hp → Prop} (hm : Mx H) (hs : s.size ≤ 1048576) (h : ∀ H', Keep H H' → Q (bL (stL (By s))) H') : marker_Stuff.s s H Q := by
  unfold marker_Stuff.s strings_ReplaceAll.s
  have hc := Lib.countB_le (⟨#[255]⟩ : ByteArray) (by decide) s.size s (Nat.le_refl _)
  have h2 : (⟨#[255, 0]⟩ : ByteArray).size = 2 := rfl
  refine ⟨by omega, by decide, by rw [h2]; omega, hm, fun H1 c1 => ?_⟩
  have e : Lib.replaceAll s.data.toList (⟨#[255]⟩ : ByteArray).data.toList (⟨#[255, 0]⟩ : ByteArray).data.toList = stL (By s) := rep_st _
  have hf := h H1 (c1.keep (by simp))
  unfold bL at hf
  rw [← e] at hf
  exact hf
theorem fr_drop {s : ByteArray} {i : Nat} (h : i < (By s).length) : frL ((By s).drop i) = ((if (By s)[i] = 255 then ((By s)[i + 1]? == some 0) else true) && frL ((By s).drop (i + 1))) := by
  rw [List.drop_eq_getElem_cons h, frL]
  simp
theorem rFree_ok {s : ByteArray} {Q : Bool → Hp → Prop} (hs : s.size < 140737488355328) (h : Q (frL (By s)) H) : mosaicref02_Free.s s H Q := by
  unfold mosaicref02_Free.s
  have hz := size_By s
  refine Fix.intro (fun (x : Int) H' => ∃ i : Nat, x = (i : Int) ∧ i ≤ s.size ∧ frL ((By s).drop i) = frL (By s) ∧ H = H') (fun x _ => s.size - x.toNat) ⟨0, rfl, by omega, rfl, rfl⟩ ?_
  rintro _ _ ⟨i, rfl, hi, he, rfl⟩ rec hrec
  by_cases hil : i < s.size
  · have e1 : IntKind.wrap .i64 ((i : Int) + 1) = ((i + 1 : Nat) : Int) := by rw [w64 (by omega)]; omega
    rw [e1]
    have hl : i < (By s).length := by omega
    have hf := fr_drop hl
    rw [he] at hf
    have hb := bt_255 hil
    rw [List.getElem?_eq_getElem hl] at hb
    refine ite_t (dect (by omega)) (Join.intro (fun (x : Bool) H' => x = !(if (By s)[i] = 255 then ((By s)[i + 1]? == some 0) else true) ∧ H = H') ?_ fun J hJ => ?_)
    · rintro _ _ ⟨rfl, rfl⟩
      cases hx : (if (By s)[i] = 255 then ((By s)[i + 1]? == some 0) else true) with
      | true =>
        rw [hx, Bool.true_and] at hf
        exact ite_f rfl (hrec _ _ ⟨i + 1, rfl, by omega, hf.symm, rfl⟩ (by simp only [Int.toNat_natCast]; omega))
      | false =>
        rw [hx, Bool.false_and] at hf
        rw [hf] at h
        exact ite_t rfl h
    · refine ⟨by omega, by omega, ?_⟩
      by_cases h1 : (By s)[i] = 255
      · rw [if_pos h1] at hJ
        refine ite_t (beqi (hb.2 (by rw [h1]))) ?_
        by_cases h2 : i + 1 = s.size
        · refine ite_t (beqi (by omega)) (hJ _ _ ⟨?_, rfl⟩)
          rw [List.getElem?_eq_none (by omega)]; rfl
        · refine ite_f (beqf (by omega)) ⟨by omega, by omega, hJ _ _ ⟨?_, rfl⟩⟩
          have h3 := bt_0 (s := s) (k := i + 1) (by omega)
          by_cases h4 : (By s)[i + 1]? = some 0
          · rw [h4, bnei (h3.2 h4)]; rfl
          · rw [bnet fun e => h4 (h3.1 e), beq_eq_false_iff_ne.2 h4]; rfl
      · rw [if_neg h1] at hJ
        exact ite_f (beqf fun e => h1 (by simpa using hb.1 e)) (hJ _ _ ⟨rfl, rfl⟩)
  · refine ite_f (decf (by omega)) ?_
    rw [List.drop_eq_nil_of_le (by omega)] at he
    rw [← he] at h
    exact h
theorem stL_take {l : List UInt8} {i : Nat} (h : i < l.length) : stL (l.take (i + 1)) = stL (l.take i) ++ if l[i] = 255 then [255, 0] else [l[i]] := by
  unfold stL
  rw [List.take_succ_eq_append_getElem h, List.flatMap_append]
  simp only [List.flatMap_cons, List.flatMap_nil, List.append_nil]
theorem stL_le (l : List UInt8) : (stL l).length ≤ 2 * l.length := by
  have := stL_len l
  have := List.count_le_length (a := (255 : UInt8)) (l := l)
  omega
theorem rStuff_ok {s : ByteArray} {Q : ByteArray → Hp → Prop} (hs : s.size ≤ 1048576) (h : Q (bL (stL (By s))) H) : mosaicref02_Stuff.s s H Q := by
  unfold mosaicref02_Stuff.s
  have hz := size_By s
  refine Fix.intro (fun (x : ByteArray × Int) H' => ∃ i : Nat, x = (bL (stL ((By s).take i)), (i : Int)) ∧ i ≤ s.size ∧ H = H') (fun x _ => s.size - x.2.toNat) ⟨0, rfl, by omega, rfl⟩ ?_
  rintro _ _ ⟨i, rfl, hi, rfl⟩ rec hrec
  dsimp only
  by_cases hil : i < s.size
  · have e1 : IntKind.wrap .i64 ((i : Int) + 1) = ((i + 1 : Nat) : Int) := by rw [w64 (by omega)]; omega
    have hl : i < (By s).length := by omega
    have hb := bt_255 hil
    rw [List.getElem?_eq_getElem hl] at hb
    have q1 := stL_le ((By s).take i)
    have q2 := List.length_take_le i (By s)
    rw [e1, Int.toNat_natCast, Int.toNat_natCast, ext_one hl, bL_app]
    refine ite_t (dect (by omega)) (Join.intro (fun (x : ByteArray) H' => x = bL (stL ((By s).take (i + 1))) ∧ H = H') ?_ fun J hJ => ?_)
    · rintro _ _ ⟨rfl, rfl⟩
      exact hrec _ _ ⟨i + 1, rfl, by omega, rfl⟩ (by simp only [Int.toNat_natCast]; omega)
    · rw [stL_take hl] at hJ
      refine ⟨by omega, by omega, by omega, by rw [bL_size, bL_size]; simp only [List.length_cons, List.length_nil]; omega, Lt.of ⟨by omega, by omega, ?_⟩⟩
      by_cases h1 : (By s)[i] = 255
      · rw [if_pos h1] at hJ
        refine ite_t (beqi (hb.2 (by rw [h1]))) ⟨?_, hJ _ _ ⟨?_, rfl⟩⟩
        · rw [bL_size, List.length_append, show (⟨#[0]⟩ : ByteArray).size = 1 from rfl]; simp only [List.length_cons, List.length_nil]; omega
        · rw [h1, show (⟨#[0]⟩ : ByteArray) = bL [0] from rfl, bL_app, List.append_assoc]; rfl
      · rw [if_neg h1] at hJ
        exact ite_f (beqf fun e => h1 (by simpa using hb.1 e)) (hJ _ _ ⟨rfl, rfl⟩)
  · refine ite_f (decf (by omega)) ?_
    rw [List.take_of_length_le (by omega)]
    exact h
end
theorem MarkerStuffs_row (s : ByteArray) (W : World) (hs : s.size ≤ 1048576) (hm : Mx W.heap) : mosaiclaw02_MarkerStuffs.s s W.heap (fun r H' => r = true ∧ Keep W.heap H') := by
  unfold mosaiclaw02_MarkerStuffs.s
  refine Free_ok hm (by omega) (rFree_ok (by omega) (ite_t (by simp) (Stuff_ok hm hs fun H6 k6 => rStuff_ok hs ⟨by simp, k6⟩)))
end Go.Proofs.YtkplpbnifinlbaaDoor.G
