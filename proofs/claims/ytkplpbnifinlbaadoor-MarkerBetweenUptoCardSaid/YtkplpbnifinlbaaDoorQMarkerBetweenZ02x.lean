/- Of this text what the row needs. -/
import Derived.Test.YtkplpbnifinlbaaDoorQMarkerBetweenZ02s
import Derived.Test.YtkplpbnifinlbaaDoorQMarkerBetweenKMarkerFree
namespace Go.Proofs.YtkplpbnifinlbaaDoor.G
open Go.RowKit
set_option linter.unusedVariables false
set_option linter.unusedSimpArgs false
def Fr (s : ByteArray) : Prop := ∀ k, k < s.size → bt s (k : Int) = 255 → k + 1 < s.size ∧ bt s ((k + 1 : Nat) : Int) = 0
theorem Fr_iff {s : ByteArray} : frL (By s) = true ↔ Fr s := by
  have hz := size_By s
  rw [frL_iff]
  constructor
  · intro h k hk h1
    have h2 := h k ((bt_255 hk).1 h1)
    have h3 := (List.getElem?_eq_some_iff.1 h2).1
    exact ⟨by omega, (bt_0 (by omega)).2 h2⟩
  · intro h k h1
    have h3 := (List.getElem?_eq_some_iff.1 h1).1
    obtain ⟨h4, h5⟩ := h k (by omega) ((bt_255 (by omega)).2 h1)
    exact (bt_0 h4).1 h5
theorem bt_l {a b : ByteArray} {k : Nat} (h : k < a.size) : bt (a ++ b) (k : Int) = bt a (k : Int) := by
  have hz := size_By a
  have hz2 := size_By b
  have h2 : k < (a ++ b).size := by rw [ByteArray.size_append]; omega
  have e : (By (a ++ b))[k]? = (By a)[k]? := by rw [By_app, List.getElem?_append_left (by omega)]
  rw [List.getElem?_eq_getElem (by rw [← size_By]; exact h2), List.getElem?_eq_getElem (by omega)] at e
  rw [bt_nat h2, bt_nat h, Option.some.inj e]
theorem bt_r {a b : ByteArray} {k : Nat} (h : k < b.size) : bt (a ++ b) ((a.size + k : Nat) : Int) = bt b (k : Int) := by
  have hz := size_By a
  have hz2 := size_By b
  have h2 : a.size + k < (a ++ b).size := by rw [ByteArray.size_append]; omega
  have e : (By (a ++ b))[a.size + k]? = (By b)[k]? := by rw [By_app, List.getElem?_append_right (by omega)]; congr 1; omega
  rw [List.getElem?_eq_getElem (by rw [← size_By]; exact h2), List.getElem?_eq_getElem (by omega)] at e
  rw [bt_nat h2, bt_nat h, Option.some.inj e]
theorem Fr.no {a b : ByteArray} (ha : Fr a) {k : Nat} (h : k < a.size) : ¬ isMark (a ++ b) k := by
  rintro ⟨h1, h2, h3, h4⟩
  rw [bt_l h] at h2
  obtain ⟨h5, h6⟩ := ha k h h2
  rw [bt_l h5] at h3
  exact h3 h6
theorem mark_r {a b : ByteArray} {k : Nat} : isMark (a ++ b) (a.size + k) ↔ isMark b k := by
  unfold isMark
  rw [ByteArray.size_append]
  constructor
  · rintro ⟨h1, h2, h3, h4⟩
    rw [bt_r (by omega)] at h2
    rw [show a.size + k + 1 = a.size + (k + 1) from by omega, bt_r (by omega)] at h3 h4
    exact ⟨by omega, h2, h3, h4⟩
  · rintro ⟨h1, h2, h3, h4⟩
    rw [bt_r (by omega), show a.size + k + 1 = a.size + (k + 1) from by omega, bt_r (by omega)]
    exact ⟨by omega, h2, h3, h4⟩
theorem ffs_ok {s : ByteArray} {H : Hp} {Q : Int → Hp → Prop} (hs : s.size < 140737488355328) (h : Q (((By s).count 255 : Nat) : Int) H) : mosaiclaw02_ffs.s s H Q := by
  unfold mosaiclaw02_ffs.s
  have hz := size_By s
  have hle := List.count_le_length (a := (255 : UInt8)) (l := By s)
  refine Fix.intro (fun (x : Int × Int) H' => ∃ i : Nat, x = (((((By s).take i).count 255 : Nat) : Int), (i : Int)) ∧ i ≤ s.size ∧ H = H') (fun x _ => s.size - x.2.toNat) ⟨0, rfl, by omega, rfl⟩ ?_
  rintro _ _ ⟨i, rfl, hi, rfl⟩ rec hrec
  dsimp only
  by_cases hil : i < s.size
  · have e1 : IntKind.wrap .i64 ((i : Int) + 1) = ((i + 1 : Nat) : Int) := by rw [w64 (by omega)]; omega
    have hl : i < (By s).length := by omega
    have hb := bt_255 hil
    rw [List.getElem?_eq_getElem hl] at hb
    have q1 := List.count_le_length (a := (255 : UInt8)) (l := (By s).take i)
    have q2 := List.length_take_le i (By s)
    have e2 : ((By s).take (i + 1)).count 255 = ((By s).take i).count 255 + if (By s)[i] = 255 then 1 else 0 := by
      rw [List.take_succ_eq_append_getElem hl, List.count_append, List.count_singleton]
      by_cases q : (By s)[i] = 255
      · rw [if_pos q, q]; rfl
      · rw [if_neg q, if_neg (by simpa using q)]
    rw [e1]
    refine ite_t (dect (by omega)) (Join.intro (fun (x : Int) H' => x = ((((By s).take (i + 1)).count 255 : Nat) : Int) ∧ H = H') ?_ fun J hJ => ⟨by omega, by omega, ?_⟩)
    · rintro _ _ ⟨rfl, rfl⟩
      exact hrec _ _ ⟨i + 1, rfl, by omega, rfl⟩ (by simp only [Int.toNat_natCast]; omega)
    · rw [e2] at hJ
      by_cases h1 : (By s)[i] = 255
      · rw [if_pos h1] at hJ
        exact ite_t (beqi (hb.2 (by rw [h1]))) (hJ _ _ ⟨by rw [w64 (by omega)]; omega, rfl⟩)
      · rw [if_neg h1] at hJ
        exact ite_f (beqf fun e => h1 (by simpa using hb.1 e)) (hJ _ _ ⟨rfl, rfl⟩)
  · refine ite_f (decf (by omega)) ?_
    rw [List.take_of_length_le (by omega)]
    exact h
end Go.Proofs.YtkplpbnifinlbaaDoor.G
