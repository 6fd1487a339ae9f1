/- Layer 4: a small table has its codes; HuffNames. -/
import Derived.Test.YtbefacccdaafeaaZ04j
import Derived.Test.YtbefacccdaafeaaKHuffNames
namespace Go.Proofs.Ytbefacccdaafeaa.G
open Go.RowKit
set_option linter.unusedVariables false
set_option linter.unusedSimpArgs false
set_option maxRecDepth 20000

def smC : Cn := mkI (n := 16) [0, 1, 2, 0, 0, 0, 0, 0, 0, 0, 0, 0, 0, 0, 0, 0] (by rfl)
def smV : List Nat := [5, 7, 9]
theorem smOk : cOk smC := by
  show ∀ v ∈ [0, 1, 2, 0, 0, 0, 0, 0, 0, 0, 0, 0, 0, 0, 0, (0 : Int)], 0 ≤ v ∧ v ≤ 255
  decide
theorem smN : wN smC 16 = 3 := by decide
theorem smS : wS smC 16 = 32768 := by decide
theorem smChk : Chk4 smC smV = 0 := by
  unfold Chk4
  rw [smN, smS, if_neg (by decide), if_neg (by decide), if_pos (by decide)]
theorem smRoom : Room4 smC smV = 32768 := by
  unfold Room4
  rw [smChk, smS]
  rfl
theorem sm_small {H : Hp} {Q : Cn × Sl → Hp → Prop} (h : ∀ s H', SlV H' s 1 cB smV → Keep H H' → Q (smC, s) H') : mosaiclaw04_small.s H Q := by
  unfold mosaiclaw04_small.s
  intro b1 H2 c2 g1 g1'
  refine nw_i fun H4 b4 k4 z4 => ⟨Pv.keep k4 (by simp; omega), fun H8 c8 => ?_⟩
  have k2 : Keep H H2 := c2.keep (by simp)
  refine h ⟨some ⟨H2.size, 0, none⟩, 3, 3⟩ H8 ⟨rfl, Nat.le_refl _, fun i x hx => ⟨H2.size, 0, rfl, ?_⟩⟩ (((k2.trans k4).ch (F := [])).trans c8 (by simp; omega) |>.keep (by simp))
  have b8 := b4.ch c8 (by simp; omega)
  refine ldA_i b8 fun j v hv => ?_
  have hj : j = 0 := by
    have := (List.getElem?_eq_some_iff.1 hv).1
    simp at this
    exact this
  subst hj
  simp at hv
  subst hv
  have hi := (List.getElem?_eq_some_iff.1 hx).1
  simp [smV] at hi
  have : i = 0 ∨ i = 1 ∨ i = 2 := by omega
  rcases this with rfl | rfl | rfl <;> (simp [smV] at hx; subst hx; rfl)
theorem sm_cd : (cds (cnt smC) 16)[2]? = some (3, 3) := by
  have h2 : plq (cnt smC) 2 = 1 := by rw [plq_wN]; decide
  have h3 : fcq (cnt smC) 2 = 2 := by
    rw [fcq, fcq, fcq]; decide
  have := cds_get (q := cnt smC) (l := 2) (k := 1) (by decide) (m := 16) (by omega)
  rw [h2, h3] at this
  exact this
theorem sm_lkp (hm : May4 smC smV) : lkp (prs smC smV) 9 = (3, 3) :=
  lkp_at (by rw [prs_keys hm]; exact hm.nodup) (prs_get (i := 2) rfl sm_cd)
def lvS : ByteArray := ⟨#[96]⟩
theorem lv_cut : Cut lvS (hiOf lvS.size 0 1) (loOf lvS.size 0) [96] 1 := by
  refine ⟨by decide, by decide, by decide, by decide, ?_⟩
  exact .inl (by decide)
theorem alive_ok4 {H : Hp} {Q : Bool → Hp → Prop} (h : ∀ H', Keep H H' → Q true H') : mosaiclaw04_alive.s H Q := by
  unfold mosaiclaw04_alive.s
  refine sm_small fun s H2 v2 k2 => ?_
  show huff_New.s smC s H2 _
  refine New_ok4 (c := smC) (vs := smV) smOk v2 (by decide) (by simp [smV]) (fun h => (h smChk).elim) fun _ t tv H4 T4 k4 f4 => ?_
  have hm : May4 smC smV := may4 smChk
  have lT := T4.lts
  refine Join.intro (fun b H' => b = false ∧ H4 = H') ?_ fun J hJ => ite_f rfl (hJ _ _ ⟨rfl, rfl⟩)
  rintro _ _ ⟨rfl, rfl⟩
  refine ite_f rfl (Code_ok (v := 9) T4 hm (by decide) ?_)
  rw [sm_lkp hm]
  refine Open_ok (f := lvS) (by have : lvS.size = 1 := rfl; omega) lv_cut fun k H11 S11 k11 f11 => ite_f rfl ?_
  have T11 := T4.keep k11
  refine Read_ok4 T11 hm S11 (fun hh => by have := lT k hh; omega) fun H13 S13 c13 => ?_
  have er : rd4 smC smV (bts (remB (loOf lvS.size 0) 7 [96])) = (9, 0, 3) := rd4_hit hm (i := 2) (n := 3) (v := 3) ⟨sm_cd, by decide, by decide⟩ rfl
  rw [er]
  have k13 : Keep H H13 := (((k2.trans k4).trans k11).ch (F := [])).trans c13 (fun b hb => .inr (by have := k2.size; have := k4.size; simp at hb; omega)) |>.keep (by simp)
  refine ite_t rfl (ite_t rfl (ite_t rfl (ite_t rfl (sm_small fun s' H15 v15 k15 => Room_ok smOk v15 (by decide) (by simp [smV]) fun H17 k17 => ?_))))
  rw [smRoom]
  have zOk : cOk (zInts 16) := by
    intro v hv
    unfold zInts at hv
    have := List.eq_of_mem_replicate hv
    omega
  have zv : SlV H17 ⟨none, 0, 0⟩ 1 cB [] := ⟨rfl, Nat.le_refl _, fun i x hx => by simp at hx⟩
  refine ite_t rfl (Check_ok zOk zv (by simp) (by simp) fun H19 k19 => ?_)
  have z0 : wN (zInts 16) 16 = 0 := by decide
  have e : (Chk4 (zInts 16) [] == 40) = true := by
    unfold Chk4
    rw [z0, if_pos (.inl rfl)]
    rfl
  rw [e]
  exact h _ (((k13.trans k15).trans k17).trans k19)
theorem HuffNames_row (W : World) : mosaiclaw04_HuffNames.s W.heap (fun r H' => r = true ∧ Keep W.heap H') := by
  unfold mosaiclaw04_HuffNames.s
  exact alive_ok4 fun H' k => ⟨rfl, k⟩
end Go.Proofs.Ytbefacccdaafeaa.G
