/- Layer 4: a value's code is written, of the program and of the document. -/
import Derived.Test.YtbefacccdaafeaaZ04h
namespace Go.Proofs.Ytbefacccdaafeaa.G
open Go.RowKit
set_option linter.unusedVariables false
set_option linter.unusedSimpArgs false

/-! ### strings are equal -/
theorem ba_loop (b : ByteArray) : ∀ (n i : Nat) (r : List UInt8), b.size - i ≤ n → i ≤ b.size → ByteArray.toList.loop b i r = r.reverse ++ b.data.toList.drop i := by
  intro n
  induction n with
  | zero =>
    intro i r h hi
    rw [ByteArray.toList.loop, if_neg (by omega), List.drop_eq_nil_of_le (by have e : b.data.size = b.size := rfl; simp; omega), List.append_nil]
  | succ n ih =>
    intro i r h hi
    rw [ByteArray.toList.loop]
    split
    · rename_i hlt
      have hl : i < b.data.toList.length := by simpa [← ByteArray.size_data] using hlt
      rw [ih (i + 1) _ (by omega) (by omega), List.drop_eq_getElem_cons hl]
      simp [ByteArray.get!, getElem!_pos, hlt]
    · rename_i hlt
      rw [List.drop_eq_nil_of_le (by have e : b.data.size = b.size := rfl; simp; omega), List.append_nil]
theorem ba_toList (b : ByteArray) : b.toList = b.data.toList := by
  unfold ByteArray.toList
  rw [ba_loop b b.size 0 [] (by omega) (by omega)]
  simp
theorem ba_inj {a b : ByteArray} (h : a.toList = b.toList) : a = b := by
  rw [ba_toList, ba_toList] at h
  exact ByteArray.ext (Array.toList_inj.1 h)
theorem ba_eq (a b : ByteArray) : (a.toList == b.toList) = decide (a = b) := by
  by_cases h : a = b
  · subst h; simp
  · rw [decide_eq_false h, beq_eq_false_iff_ne]
    exact fun e => h (ba_inj e)
theorem tx_eq (a b : List Bool) : ((tx a).toList == (tx b).toList) = decide (a = b) := by
  rw [ba_eq]
  by_cases h : a = b
  · subst h; simp
  · rw [decide_eq_false h, decide_eq_false]
    exact fun e => h (tx_inj e)
theorem low_nat (v n : Nat) : low (v : Int) n = v % 2 ^ n := by
  unfold low
  rw [← Int.natCast_emod, Int.toNat_natCast]
theorem bl_nil {n v : Nat} : bl n v = [] ↔ n = 0 := by
  constructor
  · intro h
    have := congrArg List.length h
    rwa [bl_len] at this
  · rintro rfl; rfl

/-! ### a code is written -/
section
variable {H : Hp} {c : Cn} {vs : List Nat}
theorem Write_ok4 {t k v : Nat} {s sk : Sl} {l : List Bool} {Q : Bool → Hp → Prop} (T : Tab H t s c vs) (hm : May4 c vs) (K : Snk H k sk l) (hv : v < 256) (hl : l.length ≤ 562949953420000)
    (h0 : (lkp (prs c vs) v).1 = 0 → Q false H)
    (h : (lkp (prs c vs) v).1 ≠ 0 → ∀ s' H', Snk H' k s' (l ++ bl (lkp (prs c vs) v).1 (lkp (prs c vs) v).2) → Ch (k :: fp sk) H H' → (∀ b ∈ fp s', b ∈ fp sk ∨ H.size ≤ b) → Q true H') : huff_Table_Write.s (some ⟨t, 0, none⟩) (some ⟨k, 0, none⟩) (v : Int) H Q := by
  obtain ⟨⟨cs, h1, h2⟩, _⟩ := T
  obtain ⟨g1, g2⟩ := h2.code v hv
  obtain ⟨f1, f2, f3⟩ := lkp_fit hm v
  have f4 := pow_lt f1
  have p16 : (2 : Nat) ^ 16 = 65536 := rfl
  unfold huff_Table_Write.s
  refine Join.intro (fun b H' => b = decide ((lkp (prs c vs) v).1 = 0) ∧ H = H') ?_ fun J hJ => ?_
  · rintro _ _ ⟨rfl, rfl⟩
    by_cases e : (lkp (prs c vs) v).1 = 0
    · exact ite_t (dect e) (h0 e)
    · refine ite_f (decf e) ⟨_, rfl, by omega, by omega, by omega, by omega, ?_⟩
      rw [add_mk, add_mk, add_mk, add_mk, Int.toNat_natCast]
      refine ldI_i h1 (by rw [show 0 + 0 + v * 1 = v from by omega]; exact g1) (ldI_i h1 (by rw [show 0 + 256 + v * 1 = 256 + v from by omega]; exact g2) ?_)
      rw [w64n (by omega), w64n (by omega)]
      refine Put_ok K hl (by omega) fun _ _ s' H' K' c' f' => h e s' H' ?_ c' f'
      rw [Int.toNat_natCast, low_nat, Nat.mod_eq_of_lt f2] at K'
      exact K'
  · refine ite_f rfl ⟨_, rfl, by omega, by omega, ?_⟩
    rw [add_mk, add_mk, Int.toNat_natCast]
    refine ldI_i h1 (by rw [show 0 + 256 + v * 1 = 256 + v from by omega]; exact g2) (hJ _ _ ⟨?_, rfl⟩)
    by_cases e : (lkp (prs c vs) v).1 = 0
    · rw [dect e]; exact beqi (by omega)
    · rw [decf e]; exact beqf (by omega)
theorem rWrite_ok4 {r k v : Nat} {sv sc sk : Sl} {l : List Bool} {Q : Bool → Hp → Prop} (T : Rtb H r sv sc c vs) (hm : May4 c vs) (K : Rsn H k sk l) (hl : l.length ≤ 140737488355000)
    (h0 : (lkp (prs c vs) v).1 = 0 → Q false H)
    (h : (lkp (prs c vs) v).1 ≠ 0 → ∀ s' H', Rsn H' k s' (l ++ bl (lkp (prs c vs) v).1 (lkp (prs c vs) v).2) → Ch (k :: fp sk) H H' → (∀ b ∈ fp s', b ∈ fp sk ∨ H.size ≤ b) → Q true H') : mosaicref04_Table_Write.s (some ⟨r, 0, none⟩) (some ⟨k, 0, none⟩) (v : Int) H Q := by
  obtain ⟨f1, f2, f3⟩ := lkp_fit hm v
  unfold mosaicref04_Table_Write.s
  refine rText_ok4 T hm (Join.intro (fun b H' => b = decide ((lkp (prs c vs) v).1 = 0) ∧ H = H') ?_ fun J hJ => ?_)
  · rintro _ _ ⟨rfl, rfl⟩
    by_cases e : (lkp (prs c vs) v).1 = 0
    · exact ite_t (dect e) (h0 e)
    · refine ite_f (decf e) (Number_ok (by rw [bl_len]; omega) ?_)
      rw [num_bl, Nat.mod_eq_of_lt f2, tx_size, bl_len]
      refine rPut_ok K hl (by omega) fun _ _ s' H' K' c' f' => h e s' H' ?_ c' f'
      rw [Int.toNat_natCast, low_nat, Nat.mod_eq_of_lt f2] at K'
      exact K'
  · refine ite_f rfl (hJ _ _ ⟨?_, rfl⟩)
    rw [tx_nil, tx_eq]
    simp [bl_nil]
end
end Go.Proofs.Ytbefacccdaafeaa.G
