/- Of this text what the row needs. -/
import Derived.Test.YtkplpbnifinlbaaDoorQMarkerBetweenZA
import Derived.Test.YtkplpbnifinlbaaDoorQMarkerBetweenKmarker
import Derived.Test.YtkplpbnifinlbaaDoorQMarkerBetweenKmosaicref02
namespace Go.Proofs.YtkplpbnifinlbaaDoor.G
open Go.RowKit
set_option linter.unusedVariables false
set_option linter.unusedSimpArgs false
set_option maxRecDepth 20000
def d16 (n : Nat) : ByteArray := str7943071a.extract n (n + 1)
def ita (n : Nat) : ByteArray := if n < 10 then strbbb1b764.extract n (n + 1) else str3c6f1267.extract (n * 2) (n * 2 + 2)
def nms : List ByteArray := [⟨#[83, 79, 73]⟩, ⟨#[69, 79, 73]⟩, ⟨#[83, 79, 83]⟩, ⟨#[68, 81, 84]⟩, ⟨#[68, 78, 76]⟩, ⟨#[68, 82, 73]⟩, ⟨#[68, 72, 80]⟩, ⟨#[69, 88, 80]⟩]
def nmP (c : Nat) : ByteArray :=
  if c = 0 ∨ c = 255 then ⟨#[]⟩ else if c = 1 then ⟨#[84, 69, 77]⟩ else if c < 192 then (⟨#[82, 69, 83]⟩ : ByteArray) ++ d16 (c / 16) ++ d16 (c % 16) else
  if c = 196 then ⟨#[68, 72, 84]⟩ else if c = 200 then ⟨#[74, 80, 71]⟩ else if c = 204 then ⟨#[68, 65, 67]⟩ else if c < 208 then (⟨#[83, 79, 70]⟩ : ByteArray) ++ ita (c - 192) else
  if c < 216 then (⟨#[82, 83, 84]⟩ : ByteArray) ++ ita (c - 208) else if c < 224 then nms.getD (c - 216) ⟨#[]⟩ else if c < 240 then (⟨#[65, 80, 80]⟩ : ByteArray) ++ ita (c - 224) else
  if c < 254 then (⟨#[74, 80, 71]⟩ : ByteArray) ++ ita (c - 240) else ⟨#[67, 79, 77]⟩
theorem ext_le (b : ByteArray) (i j : Nat) : (b.extract i j).size ≤ b.size := by rw [ByteArray.size_extract]; omega
theorem and15u {y : Nat} (hy : y < 256) : Go.bits .and .u8 (y : Int) 15 = ((y % 16 : Nat) : Int) := by
  have e : y &&& 15 = y % 16 := Nat.and_two_pow_sub_one_eq_mod y 4
  have := gand (k := .u8) (x := y) (y := 15) hy (by decide) (wu8n (by rw [e]; omega))
  rw [e] at this
  exact this
theorem d16_le (n : Nat) : (d16 n).size ≤ 16 := ext_le _ _ _
theorem ita_le (n : Nat) : (ita n).size ≤ 1000 := by
  unfold ita
  split
  · exact Nat.le_trans (ext_le _ _ _) (by decide +kernel)
  · exact Nat.le_trans (ext_le _ _ _) (by decide +kernel)
section
variable {H : Hp}
theorem itoa_ok {n : Nat} {Q : ByteArray → Hp → Prop} (hn : n < 100) (h : Q (ita n) H) : strconv_Itoa_34.s (n : Int) H Q := by
  have z1 : strbbb1b764.size = 36 := by decide +kernel
  have z2 : str3c6f1267.size = 200 := by decide +kernel
  unfold strconv_Itoa_34.s strconv_Itoa_40.s strconv_FormatInt.s
  refine ite_t rfl (Join.intro (fun (b : Bool) H' => b = true ∧ H = H') ?_ fun J hJ => ite_t (dect (by omega)) (hJ _ _ ⟨dect (by omega), rfl⟩))
  rintro _ _ ⟨rfl, rfl⟩
  refine ite_t rfl ?_
  unfold strconv_small.s
  unfold ita at h
  by_cases h10 : n < 10
  · rw [if_pos h10] at h
    have e : IntKind.wrap .i64 ((n : Int) + 1) = ((n + 1 : Nat) : Int) := by rw [w64 (by omega)]; omega
    rw [e]
    refine ite_t (dect (by omega)) ⟨by omega, by omega, by omega, Lt.of ?_⟩
    rw [Int.toNat_natCast, Int.toNat_natCast]
    exact h
  · rw [if_neg h10] at h
    have e : IntKind.wrap .i64 ((n : Int) * 2) = ((n * 2 : Nat) : Int) := by rw [w64 (by omega)]; omega
    have e2 : IntKind.wrap .i64 (((n * 2 : Nat) : Int) + 2) = ((n * 2 + 2 : Nat) : Int) := by rw [w64 (by omega)]; omega
    rw [e, e2]
    refine ite_f (decf (by omega)) ⟨by omega, by omega, by omega, Lt.of ?_⟩
    rw [Int.toNat_natCast, Int.toNat_natCast]
    exact h
theorem numbered_ok {hd : ByteArray} {n : Nat} {Q : ByteArray → Hp → Prop} (hn : n < 100) (hs : hd.size ≤ 1000) (h : Q (hd ++ ita n) H) : marker_numbered.s hd (n : Int) H Q := by
  unfold marker_numbered.s
  rw [w64n (by omega)]
  have := ita_le n
  exact itoa_ok hn ⟨by omega, h⟩
theorem Name_ok {c : Nat} {Q : ByteArray → Hp → Prop} (hc : c < 256) (h : ∀ H', Keep H H' → Q (nmP c) H') : marker_Name.s (c : Int) H Q := by
  have zd : str7943071a.size = 16 := by decide +kernel
  have hk : ∀ {b : Nat}, b ≤ c → IntKind.wrap .u8 ((c : Int) - (b : Int)) = ((c - b : Nat) : Int) := fun {b} hb => by rw [wu8 (by omega)]; omega
  unfold nmP at h
  unfold marker_Name.s
  refine Join.intro (fun (b : Bool) H' => b = decide (c = 0 ∨ c = 255) ∧ H = H') ?_ fun J hJ => ?_
  rotate_left
  · by_cases h0 : c = 0
    · exact ite_t (beqi (by omega)) (hJ _ _ ⟨(dect (.inl h0)).symm, rfl⟩)
    · refine ite_f (beqf (by omega)) (hJ _ _ ⟨?_, rfl⟩)
      by_cases h1 : c = 255
      · rw [dect (.inr h1)]; exact beqi (by omega)
      · rw [decf (by omega)]; exact beqf (by omega)
  rintro _ _ ⟨rfl, rfl⟩
  by_cases h0 : c = 0 ∨ c = 255
  · rw [if_pos h0] at h
    exact ite_t (dect h0) (h _ (Keep.refl _))
  rw [if_neg h0] at h
  refine ite_f (decf h0) ?_
  by_cases h1 : c = 1
  · rw [if_pos h1] at h
    exact ite_t (beqi (by omega)) (h _ (Keep.refl _))
  rw [if_neg h1] at h
  refine ite_f (beqf (by omega)) ?_
  by_cases h2 : c < 192
  · rw [if_pos h2] at h
    have e1 : shrI .u8 (c : Int) 4 = ((c / 16 : Nat) : Int) := shrn (k := .u8) (n := 4) (by decide)
    have e3 : ∀ {m : Nat}, m < 255 → IntKind.wrap .u8 ((m : Int) + 1) = ((m + 1 : Nat) : Int) := fun {m} hm => by rw [wu8 (by omega)]; omega
    rw [e1, and15u hc, e3 (by omega), e3 (by omega)]
    have q1 := d16_le (c / 16)
    have q2 := d16_le (c % 16)
    unfold d16 at h q1 q2
    have q3 : (⟨#[82, 69, 83]⟩ : ByteArray).size = 3 := rfl
    rw [Int.toNat_natCast, Int.toNat_natCast, Int.toNat_natCast, Int.toNat_natCast]
    refine ite_t (dect (by omega)) ⟨by omega, by omega, by omega, by omega, by omega, by omega, by omega, by rw [ByteArray.size_append]; omega, h _ (Keep.refl _)⟩
  rw [if_neg h2] at h
  refine ite_f (decf (by omega)) ?_
  by_cases h3 : c = 196
  · rw [if_pos h3] at h
    exact ite_t (beqi (by omega)) (h _ (Keep.refl _))
  rw [if_neg h3] at h
  refine ite_f (beqf (by omega)) ?_
  by_cases h4 : c = 200
  · rw [if_pos h4] at h
    exact ite_t (beqi (by omega)) (h _ (Keep.refl _))
  rw [if_neg h4] at h
  refine ite_f (beqf (by omega)) ?_
  by_cases h5 : c = 204
  · rw [if_pos h5] at h
    exact ite_t (beqi (by omega)) (h _ (Keep.refl _))
  rw [if_neg h5] at h
  refine ite_f (beqf (by omega)) ?_
  by_cases h6 : c < 208
  · rw [if_pos h6] at h
    refine ite_t (dect (by omega)) ?_
    rw [show ((c : Int) - 192) = (c : Int) - ((192 : Nat) : Int) from rfl, hk (by omega)]
    exact numbered_ok (by omega) (by decide) (h _ (Keep.refl _))
  rw [if_neg h6] at h
  refine ite_f (decf (by omega)) ?_
  by_cases h7 : c < 216
  · rw [if_pos h7] at h
    refine ite_t (dect (by omega)) ?_
    rw [show ((c : Int) - 208) = (c : Int) - ((208 : Nat) : Int) from rfl, hk (by omega)]
    exact numbered_ok (by omega) (by decide) (h _ (Keep.refl _))
  rw [if_neg h7] at h
  refine ite_f (decf (by omega)) ?_
  by_cases h8 : c < 224
  · rw [if_pos h8] at h
    refine ite_t (dect (by omega)) ?_
    intro b17 H19 c19 g17 g17' hb
    rw [show ((c : Int) - 216) = (c : Int) - ((216 : Nat) : Int) from rfl, hk (by omega), Int.toNat_natCast]
    have hq : c - 216 = 0 ∨ c - 216 = 1 ∨ c - 216 = 2 ∨ c - 216 = 3 ∨ c - 216 = 4 ∨ c - 216 = 5 ∨ c - 216 = 6 ∨ c - 216 = 7 := by omega
    have hh := h H19 (c19.keep (by simp))
    generalize c - 216 = m at hq hh
    refine ⟨by omega, by omega, ?_⟩
    rcases hq with rfl | rfl | rfl | rfl | rfl | rfl | rfl | rfl <;> exact ldS_a hb rfl hh
  rw [if_neg h8] at h
  refine ite_f (decf (by omega)) ?_
  by_cases h9 : c < 240
  · rw [if_pos h9] at h
    refine ite_t (dect (by omega)) ?_
    rw [show ((c : Int) - 224) = (c : Int) - ((224 : Nat) : Int) from rfl, hk (by omega)]
    exact numbered_ok (by omega) (by decide) (h _ (Keep.refl _))
  rw [if_neg h9] at h
  refine ite_f (decf (by omega)) ?_
  by_cases h10 : c < 254
  · rw [if_pos h10] at h
    refine ite_t (dect (by omega)) ?_
    rw [show ((c : Int) - 240) = (c : Int) - ((240 : Nat) : Int) from rfl, hk (by omega)]
    exact numbered_ok (by omega) (by decide) (h _ (Keep.refl _))
  rw [if_neg h10] at h
  exact ite_f (decf (by omega)) (h _ (Keep.refl _))
theorem ba_loop2 (b : ByteArray) : ∀ (n i : Nat) (r : List UInt8), b.size - i ≤ n → i ≤ b.size → ByteArray.toList.loop b i r = r.reverse ++ b.data.toList.drop i := by
  intro n
  induction n with
  | zero =>
    intro i r h hi
    rw [ByteArray.toList.loop, if_neg (by omega), List.drop_eq_nil_of_le (by have e : b.data.size = b.size := rfl; simp; omega), List.append_nil]
  | succ n ih =>
    intro i r h hi
    rw [ByteArray.toList.loop]
    split
    · rename_i hlt
      have hl : i < b.data.toList.length := by simpa [← ByteArray.size_data] using hlt
      rw [ih (i + 1) _ (by omega) (by omega), List.drop_eq_getElem_cons hl]
      simp [ByteArray.get!, getElem!_pos, hlt]
    · rename_i hlt
      rw [List.drop_eq_nil_of_le (by have e : b.data.size = b.size := rfl; simp; omega), List.append_nil]
theorem ba_toList2 (b : ByteArray) : b.toList = b.data.toList := by
  unfold ByteArray.toList
  rw [ba_loop2 b b.size 0 [] (by omega) (by omega)]
  simp
theorem ba_inj2 {a b : ByteArray} (h : a.toList = b.toList) : a = b := by
  rw [ba_toList2, ba_toList2] at h
  exact ByteArray.ext (Array.toList_inj.1 h)
theorem baL (a b : ByteArray) : (a.toList == b.toList) = decide (a = b) := by
  by_cases h : a = b
  · subst h; simp
  · rw [decf h]
    cases hh : (a.toList == b.toList) with
    | false => rfl
    | true => exact absurd (ba_inj2 (by simpa using hh)) h
end
end Go.Proofs.YtkplpbnifinlbaaDoor.G
