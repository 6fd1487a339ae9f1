/- Of this text what the row needs. -/
import Derived.Test.YtkplpbnifinlbaaDoorQMarkerBetweenZ02t
import Derived.Test.YtkplpbnifinlbaaDoorQMarkerBetweenKMarkerApart
import Derived.Test.YtkplpbnifinlbaaDoorQMarkerBetweenKMarkerRises
namespace Go.Proofs.YtkplpbnifinlbaaDoor.G
open Go.RowKit
set_option linter.unusedVariables false
set_option linter.unusedSimpArgs false
set_option maxRecDepth 20000
theorem idx_list (c : UInt8) : ∀ l : List UInt8, (Lib.indexByte l c = -1 ∧ ∀ k (h : k < l.length), l[k] ≠ c) ∨ (∃ n : Nat, Lib.indexByte l c = n ∧ ∃ h : n < l.length, l[n] = c ∧ ∀ k (hk : k < n), l[k]'(by omega) ≠ c)
  | [] => .inl ⟨rfl, fun k h => by simp at h⟩
  | b :: l => by
    unfold Lib.indexByte
    by_cases hb : b = c
    · subst hb
      exact .inr ⟨0, by simp, by simp, by simp, fun k hk => by omega⟩
    · rw [if_neg (by simpa using hb)]
      rcases idx_list c l with ⟨h1, h2⟩ | ⟨n, h1, h3, h4, h5⟩
      · refine .inl ⟨by rw [h1]; rfl, fun k hk => ?_⟩
        cases k with
        | zero => exact hb
        | succ k => exact h2 k (by simpa using hk)
      · refine .inr ⟨n + 1, ?_, by simpa using h3, by simpa using h4, fun k hk => ?_⟩
        · rw [h1, if_neg (by simp)]
          simp
        · cases k with
          | zero => exact hb
          | succ k => exact h5 k (by omega)
theorem bt_nat {s : ByteArray} {k : Nat} (h : k < s.size) : bt s (k : Int) = (s.data.toList[k]'(by simpa using h)).toNat := by
  unfold bt
  rw [dif_pos (by simpa using h)]
  rfl
theorem idx_ok (s : ByteArray) (i : Nat) (hi : i ≤ s.size) :
    (Lib.indexByte (s.extract i s.size).data.toList (255 : Int).toNat.toUInt8 = -1 ∧ ∀ k, i ≤ k → k < s.size → bt s (k : Int) ≠ 255) ∨
    (∃ n : Nat, Lib.indexByte (s.extract i s.size).data.toList (255 : Int).toNat.toUInt8 = n ∧ i + n < s.size ∧ bt s ((i + n : Nat) : Int) = 255 ∧ ∀ k, i ≤ k → k < i + n → bt s (k : Int) ≠ 255) := by
  have e : (s.extract i s.size).data.toList = s.data.toList.drop i := by
    rw [ByteArray.data_extract]
    simp only [Array.toList_extract, List.extract_eq_take_drop]
    exact List.take_of_length_le (by simp)
  have hc : (255 : Int).toNat.toUInt8 = (255 : UInt8) := rfl
  have hl : s.data.toList.length = s.size := by simp
  have h255 : ∀ k (h : k < s.size), bt s (k : Int) ≠ 255 ↔ (s.data.toList[k]'(by omega)) ≠ 255 := by
    intro k h
    rw [bt_nat h]
    constructor
    · intro a b; rw [b] at a; exact a rfl
    · intro a b; exact a (UInt8.toNat_inj.1 (by have : (255 : UInt8).toNat = 255 := rfl; omega))
  rw [e, hc]
  rcases idx_list 255 (s.data.toList.drop i) with ⟨h1, h2⟩ | ⟨n, h1, h3, h4, h5⟩
  · refine .inl ⟨h1, fun k h h' => (h255 k h').2 ?_⟩
    have := h2 (k - i) (by simp; omega)
    rw [List.getElem_drop] at this
    simpa [show i + (k - i) = k from by omega] using this
  · have h3' : i + n < s.size := by simp at h3; omega
    refine .inr ⟨n, h1, h3', ?_, fun k h h' => (h255 k (by omega)).2 ?_⟩
    · rw [List.getElem_drop] at h4
      rw [bt_nat h3', h4]; rfl
    · have := h5 (k - i) (by omega)
      rw [List.getElem_drop] at this
      simpa [show i + (k - i) = k from by omega] using this
def isMark (s : ByteArray) (k : Nat) : Prop := k + 1 < s.size ∧ bt s (k : Int) = 255 ∧ bt s ((k + 1 : Nat) : Int) ≠ 0 ∧ bt s ((k + 1 : Nat) : Int) ≠ 255
def IsNext (s : ByteArray) (i : Nat) (r : Int × Int × Int × Bool) : Prop :=
  (∃ j, i ≤ j ∧ isMark s j ∧ (∀ k, i ≤ k → k < j → ¬ isMark s k) ∧ r = ((j : Int), ((j + 2 : Nat) : Int), bt s ((j + 1 : Nat) : Int), true)) ∨ ((∀ k, i ≤ k → ¬ isMark s k) ∧ r = (0, 0, 0, false))
theorem IsNext.uniq {s : ByteArray} {i : Nat} {r q : Int × Int × Int × Bool} (h : IsNext s i r) (k : IsNext s i q) : r = q := by
  rcases h with ⟨j, h1, h2, h3, rfl⟩ | ⟨h1, rfl⟩ <;> rcases k with ⟨j', k1, k2, k3, rfl⟩ | ⟨k1, rfl⟩
  · have : j = j' := by
      rcases Nat.lt_trichotomy j j' with x | x | x
      · exact absurd h2 (k3 j h1 x)
      · exact x
      · exact absurd k2 (h3 j' k1 x)
    subst this; rfl
  · exact absurd h2 (k1 j h1)
  · exact absurd k2 (h1 j' k1)
  · rfl
def Mx (H : Hp) : Prop := ∃ m, cellAt H ⟨0, 0, none⟩ = some (.int .i64 m)
theorem Mx.keep {H H' : Hp} (h : Mx H) (k : Keep H H') : Mx H' := by
  obtain ⟨m, hm⟩ := h
  refine ⟨m, ?_⟩
  have h0 : 0 < H.size := by
    rcases Nat.lt_or_ge 0 H.size with h | h
    · exact h
    · unfold cellAt at hm
      rw [Array.getElem?_eq_none (by simpa using h)] at hm
      simp at hm
  unfold cellAt at hm ⊢
  rw [k.block 0 h0]
  exact hm
theorem Next_ok {s : ByteArray} {a : Int} {H : Hp} {Q : (Int × Int × Int × Bool) → Hp → Prop} (hs : s.size < 140737488355328) (ha : -9223372036854775808 ≤ a ∧ a ≤ 9223372036854775807)
    (h : ∀ r H', IsNext s a.toNat r → Keep H H' → Q r H') : marker_Next.s s a H Q := by
  unfold marker_Next.s
  intro b1 H2 c2 g1 g1' hb
  have hk : Keep H H2 := c2.keep (by simp)
  refine Join.intro (fun s' H' => (∀ k, a.toNat ≤ k → ¬ isMark s k) ∧ H2 = H') ?_ ?_
  · rintro ⟨⟩ _ ⟨hn, rfl⟩
    refine stA_full hb rfl fun H3 hb3 s3 => ⟨_, _, _, ldA_full hb3, h _ _ (.inr ⟨hn, rfl⟩) (hk.same s3 g1)⟩
  · intro J hJ
    refine Fix.intro (fun (x : Int) H' => ∃ i : Nat, x = i ∧ a.toNat ≤ i ∧ (∀ k, a.toNat ≤ k → k < i → ¬ isMark s k) ∧ H2 = H') (fun x _ => s.size - x.toNat) ⟨a.toNat, ?_, Nat.le_refl _, fun k h1 h2 => by omega, rfl⟩ ?_
    · split <;> omega
    · rintro _ _ ⟨i, rfl, hi, hno, rfl⟩ rec hrec
      rw [w64 (x := (s.size : Int) - 1) (by omega)]
      by_cases hc : (i : Int) < (s.size : Int) - 1
      · refine ite_t (by simpa using hc) ⟨by omega, by omega, ?_⟩
        unfold strings_IndexByte.s
        rw [Int.toNat_natCast]
        rcases idx_ok s i (by omega) with ⟨e, hnot⟩ | ⟨n, e, hlt, h255, hnot⟩
        · rw [e]
          refine Join.intro (fun b H' => b = true ∧ H2 = H') ?_ ?_
          · rintro _ _ ⟨rfl, rfl⟩
            refine ite_t rfl (hJ _ _ ⟨fun k h1 h2 => ?_, rfl⟩)
            by_cases hki : k < i
            · exact hno k h1 hki h2
            · exact hnot k (by omega) (by have := h2.1; omega) h2.2.1
          · intro J2 hJ2
            exact ite_t rfl (hJ2 _ _ ⟨rfl, rfl⟩)
        · rw [e]
          have e1 : IntKind.wrap .i64 ((i : Int) + (n : Int)) = ((i + n : Nat) : Int) := by rw [w64 (by omega)]; omega
          have e2 : IntKind.wrap .i64 (((i + n : Nat) : Int) + 1) = ((i + n + 1 : Nat) : Int) := by rw [w64 (by omega)]; omega
          have e3 : IntKind.wrap .i64 (((i + n : Nat) : Int) + 2) = ((i + n + 2 : Nat) : Int) := by rw [w64 (by omega)]; omega
          rw [e1, e2, e3]
          by_cases hend : i + n + 1 < s.size
          · refine Join.intro (fun b H' => b = false ∧ H2 = H') ?_ ?_
            · rintro _ _ ⟨rfl, rfl⟩
              refine ite_f rfl ⟨by omega, by omega, Lt.of ?_⟩
              refine Join.intro (fun b H' => b = decide (bt s ((i + n + 1 : Nat) : Int) ≠ 0 ∧ bt s ((i + n + 1 : Nat) : Int) ≠ 255) ∧ H2 = H') ?_ ?_
              · rintro _ _ ⟨rfl, rfl⟩
                by_cases hm : bt s ((i + n + 1 : Nat) : Int) ≠ 0 ∧ bt s ((i + n + 1 : Nat) : Int) ≠ 255
                · refine ite_t (decide_eq_true hm) ?_
                  refine stA_full hb rfl fun H3 hb3 s3 => ⟨_, _, _, ldA_full hb3, h _ _ (.inl ⟨i + n, by omega, ⟨hend, h255, hm.1, hm.2⟩, fun k h1 h2 h3 => ?_, rfl⟩) (hk.same s3 g1)⟩
                  by_cases hki : k < i
                  · exact hno k h1 hki h3
                  · exact hnot k (by omega) h2 h3.2.1
                · refine ite_f (decide_eq_false hm) (Lt.of (hrec _ _ ⟨i + n + 1, rfl, by omega, fun k h1 h2 h3 => ?_, rfl⟩ (by simp only [Int.toNat_natCast]; omega)))
                  by_cases hki : k < i
                  · exact hno k h1 hki h3
                  · by_cases hkn : k < i + n
                    · exact hnot k (by omega) hkn h3.2.1
                    · have : k = i + n := by omega
                      subst this
                      exact hm ⟨h3.2.2.1, h3.2.2.2⟩
              · intro J2 hJ2
                by_cases h0 : bt s ((i + n + 1 : Nat) : Int) = 0
                · exact ite_f (bnei h0) (hJ2 _ _ ⟨(decf fun x => x.1 h0).symm, rfl⟩)
                · refine ite_t (bnet h0) (hJ2 _ _ ⟨?_, rfl⟩)
                  by_cases h1 : bt s ((i + n + 1 : Nat) : Int) = 255
                  · rw [bnei h1]; exact (decf fun x => x.2 h1).symm
                  · rw [bnet h1]; exact (dect ⟨h0, h1⟩).symm
            · intro J2 hJ2
              exact ite_f (decf (by omega)) (hJ2 _ _ ⟨decf (by omega), rfl⟩)
          · refine Join.intro (fun b H' => b = true ∧ H2 = H') ?_ ?_
            · rintro _ _ ⟨rfl, rfl⟩
              refine ite_t rfl (hJ _ _ ⟨fun k h1 h2 => ?_, rfl⟩)
              by_cases hki : k < i
              · exact hno k h1 hki h2
              · have := h2.1
                exact hnot k (by omega) (by omega) h2.2.1
            · intro J2 hJ2
              exact ite_f (decf (by omega)) (hJ2 _ _ ⟨dect (by omega), rfl⟩)
      · refine ite_f (by simpa using hc) (hJ _ _ ⟨fun k h1 h2 => ?_, rfl⟩)
        by_cases hki : k < i
        · exact hno k h1 hki h2
        · have := h2.1; omega
instance (s : ByteArray) (k : Nat) : Decidable (isMark s k) := by unfold isMark; infer_instance
def exA : ByteArray := ⟨#[97, 255, 255, 218]⟩
theorem exA0 : IsNext exA 0 (2, 4, 218, true) := by
  refine .inl ⟨2, by omega, by decide +kernel, fun k h1 h2 => ?_, by decide +kernel⟩
  have : ∀ k : Fin 2, ¬ isMark exA k.val := by decide +kernel
  exact this ⟨k, h2⟩
theorem nm218 : nmP 218 = ⟨#[83, 79, 83]⟩ := by decide +kernel
theorem alive_ok {H : Hp} {Q : Bool → Hp → Prop} (hm : Mx H) (h : ∀ H', Keep H H' → Q true H') : mosaiclaw02_alive.s H Q := by
  unfold mosaiclaw02_alive.s
  refine Next_ok (s := exA) (by decide) (by omega) fun r H2 hr k2 => ?_
  obtain rfl := hr.uniq exA0
  intro b3 H5 c5 g3 g3'
  have k5 : Keep H2 H5 := c5.keep (by simp)
  refine ite_t rfl (ite_t rfl (ite_t rfl ?_))
  refine Name_ok (c := 218) (by omega) fun H7 k7 => ?_
  have kk := (k2.trans k5).trans k7
  refine ite_t (by rw [baL]; exact dect nm218) ?_
  unfold marker_Stuff.s strings_ReplaceAll.s
  refine ⟨by decide, by decide, by decide +kernel, hm.keep kk, fun H1 c1 => ?_⟩
  have e : ((⟨(Lib.replaceAll (⟨#[255]⟩ : ByteArray).data.toList (⟨#[255]⟩ : ByteArray).data.toList (⟨#[255, 0]⟩ : ByteArray).data.toList).toArray⟩ : ByteArray).toList == (⟨#[255, 0]⟩ : ByteArray).toList) = true := by
    rw [baL]; decide +kernel
  have hf := h _ (kk.trans (c1.keep (by simp)))
  rw [← e] at hf
  exact hf
end Go.Proofs.YtkplpbnifinlbaaDoor.G
