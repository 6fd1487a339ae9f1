/- Of this text what the row needs. -/
import Derived.Test.YtkplpbnifinlbaaDoorQMarkerFreeZ02s
import Derived.Test.YtkplpbnifinlbaaDoorQMarkerFreeKMarkerFree
namespace Go.Proofs.YtkplpbnifinlbaaDoor.G
open Go.RowKit
set_option linter.unusedVariables false
set_option linter.unusedSimpArgs false
def Fr (s : ByteArray) : Prop := ∀ k, k < s.size → bt s (k : Int) = 255 → k + 1 < s.size ∧ bt s ((k + 1 : Nat) : Int) = 0
theorem Fr_iff {s : ByteArray} : frL (By s) = true ↔ Fr s := by
  have hz := size_By s
  rw [frL_iff]
  constructor
  · intro h k hk h1
    have h2 := h k ((bt_255 hk).1 h1)
    have h3 := (List.getElem?_eq_some_iff.1 h2).1
    exact ⟨by omega, (bt_0 (by omega)).2 h2⟩
  · intro h k h1
    have h3 := (List.getElem?_eq_some_iff.1 h1).1
    obtain ⟨h4, h5⟩ := h k (by omega) ((bt_255 (by omega)).2 h1)
    exact (bt_0 h4).1 h5
theorem bt_l {a b : ByteArray} {k : Nat} (h : k < a.size) : bt (a ++ b) (k : Int) = bt a (k : Int) := by
  have hz := size_By a
  have hz2 := size_By b
  have h2 : k < (a ++ b).size := by rw [ByteArray.size_append]; omega
  have e : (By (a ++ b))[k]? = (By a)[k]? := by rw [By_app, List.getElem?_append_left (by omega)]
  rw [List.getElem?_eq_getElem (by rw [← size_By]; exact h2), List.getElem?_eq_getElem (by omega)] at e
  rw [bt_nat h2, bt_nat h, Option.some.inj e]
theorem bt_r {a b : ByteArray} {k : Nat} (h : k < b.size) : bt (a ++ b) ((a.size + k : Nat) : Int) = bt b (k : Int) := by
  have hz := size_By a
  have hz2 := size_By b
  have h2 : a.size + k < (a ++ b).size := by rw [ByteArray.size_append]; omega
  have e : (By (a ++ b))[a.size + k]? = (By b)[k]? := by rw [By_app, List.getElem?_append_right (by omega)]; congr 1; omega
  rw [List.getElem?_eq_getElem (by rw [← size_By]; exact h2), List.getElem?_eq_getElem (by omega)] at e
  rw [bt_nat h2, bt_nat h, Option.some.inj e]
theorem Fr.app {a b : ByteArray} (ha : Fr a) (hb : Fr b) : Fr (a ++ b) := by
  intro k hk h1
  rw [ByteArray.size_append] at hk ⊢
  rcases Nat.lt_or_ge k a.size with h | h
  · rw [bt_l h] at h1
    obtain ⟨h2, h3⟩ := ha k h h1
    exact ⟨by omega, by rw [bt_l h2]; exact h3⟩
  · obtain ⟨j, rfl⟩ : ∃ j, k = a.size + j := ⟨k - a.size, by omega⟩
    rw [bt_r (by omega)] at h1
    obtain ⟨h2, h3⟩ := hb j (by omega) h1
    exact ⟨by omega, by rw [show a.size + j + 1 = a.size + (j + 1) from by omega, bt_r h2]; exact h3⟩
theorem Fr.no {a b : ByteArray} (ha : Fr a) {k : Nat} (h : k < a.size) : ¬ isMark (a ++ b) k := by
  rintro ⟨h1, h2, h3, h4⟩
  rw [bt_l h] at h2
  obtain ⟨h5, h6⟩ := ha k h h2
  rw [bt_l h5] at h3
  exact h3 h6
theorem Fr.none {a : ByteArray} (ha : Fr a) (k : Nat) : ¬ isMark a k := by
  rintro ⟨h1, h2, h3, h4⟩
  exact h3 (ha k (by omega) h2).2
theorem mark_r {a b : ByteArray} {k : Nat} : isMark (a ++ b) (a.size + k) ↔ isMark b k := by
  unfold isMark
  rw [ByteArray.size_append]
  constructor
  · rintro ⟨h1, h2, h3, h4⟩
    rw [bt_r (by omega)] at h2
    rw [show a.size + k + 1 = a.size + (k + 1) from by omega, bt_r (by omega)] at h3 h4
    exact ⟨by omega, h2, h3, h4⟩
  · rintro ⟨h1, h2, h3, h4⟩
    rw [bt_r (by omega), show a.size + k + 1 = a.size + (k + 1) from by omega, bt_r (by omega)]
    exact ⟨by omega, h2, h3, h4⟩
theorem ffs_ok {s : ByteArray} {H : Hp} {Q : Int → Hp → Prop} (hs : s.size < 140737488355328) (h : Q (((By s).count 255 : Nat) : Int) H) : mosaiclaw02_ffs.s s H Q := by
  unfold mosaiclaw02_ffs.s
  have hz := size_By s
  have hle := List.count_le_length (a := (255 : UInt8)) (l := By s)
  refine Fix.intro (fun (x : Int × Int) H' => ∃ i : Nat, x = (((((By s).take i).count 255 : Nat) : Int), (i : Int)) ∧ i ≤ s.size ∧ H = H') (fun x _ => s.size - x.2.toNat) ⟨0, rfl, by omega, rfl⟩ ?_
  rintro _ _ ⟨i, rfl, hi, rfl⟩ rec hrec
  dsimp only
  by_cases hil : i < s.size
  · have e1 : IntKind.wrap .i64 ((i : Int) + 1) = ((i + 1 : Nat) : Int) := by rw [w64 (by omega)]; omega
    have hl : i < (By s).length := by omega
    have hb := bt_255 hil
    rw [List.getElem?_eq_getElem hl] at hb
    have q1 := List.count_le_length (a := (255 : UInt8)) (l := (By s).take i)
    have q2 := List.length_take_le i (By s)
    have e2 : ((By s).take (i + 1)).count 255 = ((By s).take i).count 255 + if (By s)[i] = 255 then 1 else 0 := by
      rw [List.take_succ_eq_append_getElem hl, List.count_append, List.count_singleton]
      by_cases q : (By s)[i] = 255
      · rw [if_pos q, q]; rfl
      · rw [if_neg q, if_neg (by simpa using q)]
    rw [e1]
    refine ite_t (dect (by omega)) (Join.intro (fun (x : Int) H' => x = ((((By s).take (i + 1)).count 255 : Nat) : Int) ∧ H = H') ?_ fun J hJ => ⟨by omega, by omega, ?_⟩)
    · rintro _ _ ⟨rfl, rfl⟩
      exact hrec _ _ ⟨i + 1, rfl, by omega, rfl⟩ (by simp only [Int.toNat_natCast]; omega)
    · rw [e2] at hJ
      by_cases h1 : (By s)[i] = 255
      · rw [if_pos h1] at hJ
        exact ite_t (beqi (hb.2 (by rw [h1]))) (hJ _ _ ⟨by rw [w64 (by omega)]; omega, rfl⟩)
      · rw [if_neg h1] at hJ
        exact ite_f (beqf fun e => h1 (by simpa using hb.1 e)) (hJ _ _ ⟨rfl, rfl⟩)
  · refine ite_f (decf (by omega)) ?_
    rw [List.take_of_length_le (by omega)]
    exact h
theorem not_free_ffs {l : List UInt8} (h : frL l = false) : l.count 255 ≠ 0 := by
  intro e
  have : frL l = true := (frL_iff l).2 fun k hk => absurd (List.count_pos_iff.2 (List.mem_of_getElem? hk)) (by omega)
  rw [this] at h; cases h
theorem MarkerFree_row (a b : ByteArray) (W : World) (ha : a.size ≤ 1048576) (hb : b.size ≤ 1048576) (hm : Mx W.heap) : mosaiclaw02_MarkerFree.s a b W.heap (fun r H' => r = true ∧ Keep W.heap H') := by
  unfold mosaiclaw02_MarkerFree.s
  have hsz := ByteArray.size_append (a := a) (b := b)
  refine alive_ok hm fun H2 k2 => Free_ok (hm.keep k2) (by omega) (Free_ok (hm.keep k2) (by omega) ?_)
  refine Join.intro (fun (x : Bool) H' => x = false ∧ H2 = H') ?_ fun J hJ => ite_f rfl ?_
  · rintro _ _ ⟨rfl, rfl⟩
    refine ite_f rfl ?_
    cases hx : frL (By a) with
    | false => exact ite_t rfl ⟨rfl, k2⟩
    | true =>
      have fa := Fr_iff.1 hx
      refine ite_f rfl (Next_ok (by omega) (by omega) fun r H11 hr k11 => ?_)
      intro b12 H14 c12 g12 g12'
      refine Next_ok (by omega) (by omega) fun q H16 hq k16 => ?_
      intro b17 H19 c17 g17 g17'
      refine ⟨by omega, Next_ok (by omega) (by omega) fun p H22 hp k22 => ⟨Pv.keep k22 (by simp; omega), ?_⟩⟩
      intro b24 H26 c24 g24 g24'
      have kk : Keep W.heap H26 := ((((k2.trans k11).trans (c12.keep (by simp))).trans k16).trans (c17.keep (by simp))).trans (k22.trans (c24.keep (by simp)))
      obtain rfl := hr.uniq (q := (0, 0, 0, false)) (.inr ⟨fun k _ => fa.none k, rfl⟩)
      refine ite_t rfl ?_
      rcases hq with ⟨j, h1, h2, h3, rfl⟩ | ⟨h1, rfl⟩
      · have hno : ∀ k, Int.toNat 0 ≤ k → k < a.size + j → ¬ isMark (a ++ b) k := by
          intro k _ q2
          rcases Nat.lt_or_ge k a.size with h | h
          · exact fa.no h
          · obtain ⟨i, rfl⟩ : ∃ i, k = a.size + i := ⟨k - a.size, by omega⟩
            exact fun q => h3 i (by simp) (by omega) (mark_r.1 q)
        obtain rfl := hp.uniq (q := (((a.size + j : Nat) : Int), ((a.size + j + 2 : Nat) : Int), bt (a ++ b) ((a.size + j + 1 : Nat) : Int), true)) (.inl ⟨a.size + j, by simp, mark_r.2 h2, hno, rfl⟩)
        have h21 := h2.1
        refine ite_t rfl (ite_f rfl (ite_t (beqi ?_) ⟨beqi ?_, kk⟩))
        · dsimp only; rw [w64 (by omega)]; omega
        · dsimp only; rw [show a.size + j + 1 = a.size + (j + 1) from by omega, bt_r h21]
      · have hno : ∀ k, Int.toNat 0 ≤ k → ¬ isMark (a ++ b) k := by
          intro k _
          rcases Nat.lt_or_ge k a.size with h | h
          · exact fa.no h
          · obtain ⟨i, rfl⟩ : ∃ i, k = a.size + i := ⟨k - a.size, by omega⟩
            exact fun q => h1 i (by simp) (mark_r.1 q)
        obtain rfl := hp.uniq (q := (0, 0, 0, false)) (.inr ⟨hno, rfl⟩)
        exact ite_t rfl (ite_t rfl ⟨rfl, kk⟩)
  · cases hx : frL (By a) with
    | false =>
      have hc := not_free_ffs hx
      exact ite_f rfl (ite_t rfl (ffs_ok (by omega) (hJ _ _ ⟨beqf (by omega), rfl⟩)))
    | true =>
      refine ite_t rfl ?_
      cases hy : frL (By b) with
      | false => exact ite_f rfl (ite_f rfl (hJ _ _ ⟨rfl, rfl⟩))
      | true =>
        refine ite_t rfl ⟨by omega, Free_ok (hm.keep k2) (by omega) ?_⟩
        rw [Fr_iff.2 ((Fr_iff.1 hx).app (Fr_iff.1 hy))]
        exact ite_f rfl (ite_f rfl (hJ _ _ ⟨rfl, rfl⟩))
end Go.Proofs.YtkplpbnifinlbaaDoor.G
