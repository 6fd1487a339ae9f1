/- Layer 4: New, of the program and of the document. -/
import Derived.Test.YtbefacccdaafeaaZ04e
namespace Go.Proofs.Ytbefacccdaafeaa.G
open Go.RowKit
set_option linter.unusedVariables false
set_option linter.unusedSimpArgs false

theorem TabC.rowset {q : Nat → Nat} {P : List Cd} {s : Sl} {cs : List Value} {i : Nat} (h : TabC q P s cs i) (hi : i < 16) :
    TabC q P s (((cs.set (512 + (i + 1)) (.int .i64 (fcq q i : Int))).set (529 + (i + 1)) (.int .i64 (q i : Int))).set (546 + (i + 1)) (.int .i64 (plq q i : Int))) (i + 1) := by
  obtain ⟨h1, h2, h3, h4⟩ := h
  refine ⟨by simp [h1], fun v hv => ?_, fun l hl => ?_, ?_⟩
  · obtain ⟨g1, g2⟩ := h2 v hv
    simp only [List.getElem?_set]
    rw [if_neg (by omega), if_neg (by omega), if_neg (by omega), if_neg (by omega), if_neg (by omega), if_neg (by omega)]
    exact ⟨g1, g2⟩
  · simp only [List.getElem?_set, List.length_set, h1]
    by_cases e : l = i
    · subst e
      rw [if_neg (by omega), if_neg (by omega), if_pos rfl, if_pos (by omega), if_neg (by omega), if_pos rfl, if_pos (by omega), if_pos rfl, if_pos (by omega)]
      exact ⟨rfl, rfl, rfl⟩
    · rw [if_neg (by omega), if_neg (by omega), if_neg (by omega), if_neg (by omega), if_neg (by omega), if_neg (by omega), if_neg (by omega), if_neg (by omega), if_neg (by omega)]
      exact h3 l (by omega)
  · simp only [List.getElem?_set]
    rw [if_neg (by omega), if_neg (by omega), if_neg (by omega)]
    exact h4
theorem TabC.codeset {q : Nat → Nat} {P : List Cd} {s : Sl} {cs : List Value} {L x n v : Nat} (h : TabC q P s cs L) (hL : L ≤ 16) (hx : x < 256) (hn : x ∉ P.map (·.1)) :
    TabC q (P ++ [(x, (n, v))]) s ((cs.set x (.int .u16 (v : Int))).set (256 + x) (.int .u8 (n : Int))) L := by
  obtain ⟨h1, h2, h3, h4⟩ := h
  refine ⟨by simp [h1], fun w hw => ?_, fun l hl => ?_, ?_⟩
  · obtain ⟨g1, g2⟩ := h2 w hw
    rw [lkp_snoc hn]
    simp only [List.getElem?_set, List.length_set, h1]
    by_cases e : w = x
    · subst e
      simp [show ¬ 256 + w = w from by omega, show w < 564 from by omega, show 256 + w < 564 from by omega]
    · have e1 : ¬ x = w := fun h => e h.symm
      have e2 : ¬ 256 + x = w := by omega
      have e3 : ¬ x = 256 + w := by omega
      have e4 : ¬ 256 + x = 256 + w := by omega
      rw [if_neg e, if_neg e2, if_neg e1, if_neg e4, if_neg e3]
      exact ⟨g1, g2⟩
  · simp only [List.getElem?_set]
    rw [if_neg (by omega), if_neg (by omega), if_neg (by omega), if_neg (by omega), if_neg (by omega), if_neg (by omega)]
    exact h3 l hl
  · simp only [List.getElem?_set]
    rw [if_neg (by omega), if_neg (by omega)]
    exact h4
theorem at1 {A R : List Value} {v n : Nat} (hA : A.length = n) (h : v < n) : (A ++ R)[v]? = A[v]? := List.getElem?_append_left (by omega)
theorem at2 {A R : List Value} {n j : Nat} (hA : A.length = n) : (A ++ R)[n + j]? = R[j]? := by
  rw [List.getElem?_append_right (by omega)]
  congr 1
  omega
theorem zint_len {k : IntKind} {n : Nat} : (ints k (zInts n).1).length = n := by rw [ints_length]; exact (zInts n).2
theorem zint_get {k : IntKind} {n v : Nat} (h : v < n) : (ints k (zInts n).1)[v]? = some (.int k 0) := by
  unfold ints zInts
  rw [List.getElem?_map, List.getElem?_replicate, if_pos h]
  rfl
theorem TabC.zero (q : Nat → Nat) (s : Sl) : TabC q [] s (c79 (zInts 256) (zInts 256) (zInts 17) (zInts 17) (zInts 17) s) 0 := by
  refine ⟨len79 _ _ _ _ _ _, fun v hv => ⟨?_, ?_⟩, fun l hl => by omega, ?_⟩
  · exact (at1 zint_len hv).trans (zint_get hv)
  · exact (at2 zint_len).trans ((at1 zint_len hv).trans (zint_get hv))
  · exact (at2 (j := 307) zint_len).trans ((at2 (j := 51) zint_len).trans ((at2 (j := 34) zint_len).trans ((at2 (j := 17) zint_len).trans (at2 (j := 0) zint_len))))
section
variable {c : Cn} {s : Sl} {vs : List Nat} {H : Hp}
theorem Clone_ok {Q : Sl → Hp → Prop} (hs : SlV H s 1 cB vs) (hl : vs.length ≤ 140737488355328) (h : ∀ t H', Own H' 5 1 t (vs.flatMap cB) → Keep H H' → (∀ b ∈ fp t, H.size ≤ b) → Q t H') : slices_Clone_uint8_uint8.s s H Q := by
  unfold slices_Clone_uint8_uint8.s
  cases ha : s.a with
  | none =>
    have : vs = [] := by
      cases vs with
      | nil => rfl
      | cons v r =>
        obtain ⟨b, o, h1, _⟩ := hs.at_ 0 v rfl
        rw [ha] at h1
        cases h1
    subst this
    exact ite_t rfl (h _ H (Own.nil _ _ _) (Keep.refl _) (by simp [fp]))
  | some p =>
    refine ite_f rfl (nw_i fun H2 b2 k2 z2 => ?_)
    have hc := (hs.keep k2).cells cB_len cB_ones
    rw [ha] at hc
    have o2 : Own H2 5 1 ⟨some ⟨H.size, 0, none⟩, 0, 0⟩ (([] : List Nat).flatMap cB) := .inr ⟨H.size, [], rfl, b2, rfl, rfl, Nat.le_refl _⟩
    have hn := hs.n
    refine ⟨vs.flatMap cB, hc.1, hc.2, apS_list (xs := []) (ys := vs) o2 cB_len cB_ones rfl (by omega) (by omega) (by simp; omega) (by omega) fun t H7 o7 c7 f7 => h t H7 o7 ((k2.ch (F := [])).trans c7 (by simp [fp]) |>.keep (by simp)) fun b hb => ?_⟩
    have := k2.size
    rcases f7 b hb with h | h
    · simp [fp] at h; omega
    · omega
theorem New_ok4 {Q : Option Addr × Int → Hp → Prop} (hc : cOk c) (hs : SlV H s 1 cB vs) (hv : ∀ v ∈ vs, v < 256) (hl : vs.length ≤ 140737488355328)
    (h0 : Chk4 c vs ≠ 0 → ∀ H', Keep H H' → Q (none, Chk4 c vs) H')
    (h1 : Chk4 c vs = 0 → ∀ t tv H', Tab H' t tv c vs → Keep H H' → (∀ b ∈ t :: fp tv, H.size ≤ b) → Q (some ⟨t, 0, none⟩, 0) H') : huff_New.s c s H Q := by
  unfold huff_New.s
  intro b1 H2 c2 g1 g1'
  have k2 : Keep H H2 := c2.keep (by simp)
  refine Check_ok hc (hs.keep k2) hv hl fun H4 k4 => ⟨Pv.keep k4 (by simpa using g1'), ?_⟩
  by_cases hz : Chk4 c vs = 0
  rotate_left
  · exact ite_t (bnet hz) (h0 hz _ (k2.trans k4))
  have hm := may4 hz
  refine ite_f (bnei hz) ?_
  have k24 := k2.trans k4
  have y24 := k24.size
  refine Clone_ok (hs.keep k24) hl fun tv H7 o7 k7 f7 => ⟨Pv.keep k7 (by have := k4.size; simp at g1' ⊢; omega), ?_⟩
  intro b9 H10 c10 g9 g9' hbk
  have k10 : Keep H7 H10 := c10.keep (by simp)
  have kA := (k24.trans k7).trans k10
  have o10 := o7.ch (k10.ch (F := [])) (by simp)
  have hne : b9 ∉ fp tv := fun hb => by have := o7.fp_lt b9 hb; omega
  have y7 := k7.size
  have hb9 : H.size ≤ b9 := by omega
  have hp1 : ∀ j ∈ [b1], j ≠ b9 := fun j hj => by
    have := k4.size
    simp at hj
    omega
  refine Fix.intro (fun (x : Int × Int × Int) H' => ∃ (i : Nat) (cs : List Value), x = ((fcq (cnt c) i : Int), (plq (cnt c) i : Int), ((i + 1 : Nat) : Int)) ∧ i ≤ 16 ∧ Bk H' b9 79 cs ∧ TabC (cnt c) ((prs c vs).take (plq (cnt c) i)) tv cs i ∧ Own H' 5 1 tv (vs.flatMap cB) ∧ Keep H H') (fun x _ => 17 - x.2.2.toNat)
    ⟨0, _, by rw [fcq, plq]; rfl, by omega, hbk, by have := TabC.zero (cnt c) tv; simpa [plq] using this, o10, kA⟩ ?_
  rintro _ H14 ⟨i, cs, rfl, hi, b14, T14, o14, k14⟩ rec hrec
  simp only
  by_cases h16 : i < 16
  rotate_left
  · obtain rfl : i = 16 := by omega
    refine ite_f (decf (by omega)) (h1 hz b9 tv H14 ⟨⟨cs, b14, ?_⟩, o14, hne⟩ k14 fun b hb => ?_)
    · rw [List.take_of_length_le (by rw [prs_len hm, hm.len]; exact Nat.le_refl _)] at T14
      exact T14
    · rcases List.mem_cons.1 hb with rfl | hb
      · exact hb9
      · have := f7 b hb; omega
  obtain ⟨e1, e2⟩ := cnt_ok hc i
  have hfit := hm.fit i h16
  have hfit' := pow_lt (show i + 1 ≤ 16 by omega)
  have p16 : (2 : Nat) ^ 16 = 65536 := rfl
  have hplf := plq_far (q := cnt c) h16
  have hplen := hm.len
  have hmost := hm.most
  have e4 : IntKind.wrap .i64 (((i + 1 : Nat) : Int) - 1) = (i : Int) := by rw [show ((i + 1 : Nat) : Int) - 1 = (i : Int) from by omega, w64n (by omega)]
  rw [e4]
  refine ite_t (dect (by omega)) ⟨by omega, by omega, Lt.of ⟨by omega, by omega, ?_⟩⟩
  rw [e1, w64n (x := cnt c i) (by omega), Int.toNat_natCast, add_mk, add_mk, add_mk, Nat.mul_one]
  refine st_i b14 (by rw [T14.len]; omega) fun H24 b24 s24 => ⟨fun j hj => s24.block j (hp1 j hj), by omega, by omega, ?_⟩
  refine st_i b24 (by simp [T14.len]; omega) fun H28 b28 s28 => ⟨fun j hj => s28.block j (hp1 j hj), by omega, by omega, ?_⟩
  refine st_i b28 (by simp [T14.len]; omega) fun H32 b32 s32 => ⟨fun j hj => s32.block j (hp1 j hj), ?_⟩
  have hob : ∀ b ∈ fp tv, b ∉ [b9] := ni hne
  have o32 := ((o14.ch s24.ch hob).ch s28.ch hob).ch s32.ch hob
  have k32 := ((k14.same s24 hb9).same s28 hb9).same s32 hb9
  refine Fix.intro (fun (x : Int × Int × Int) H' => ∃ (k : Nat) (cs : List Value), x = (((fcq (cnt c) i + k : Nat) : Int), ((plq (cnt c) i + k : Nat) : Int), (k : Int)) ∧ k ≤ cnt c i ∧ Bk H' b9 79 cs ∧ TabC (cnt c) ((prs c vs).take (plq (cnt c) i + k)) tv cs (i + 1) ∧ Own H' 5 1 tv (vs.flatMap cB) ∧ Keep H H') (fun x _ => cnt c i - x.2.2.toNat)
    ⟨0, _, rfl, by omega, b32, T14.rowset h16, o32, k32⟩ ?_
  rintro _ H37 ⟨k, cs', rfl, hk, b37, T37, o37, k37⟩ rec2 hrec2
  simp only
  by_cases hkq : k < cnt c i
  · refine ite_t (dect (by omega)) ?_
    have hat : plq (cnt c) i + k < vs.length := by omega
    have hvw := o37.view cB_len (by omega)
    obtain ⟨b, o, ha, hA⟩ := hvw.get (List.getElem?_eq_getElem hat)
    have hvn := hvw.n
    have hx := hv _ (List.getElem_mem hat)
    refine ldL_i b37 T37.vals ⟨by omega, by omega, _, ha, ?_⟩
    rw [Int.toNat_natCast]
    refine ldI_of0 hA rfl ⟨by omega, by omega, ?_⟩
    rw [Int.toNat_natCast, add_mk, add_mk, Nat.mul_one, Nat.zero_add, wu16 (x := ((fcq (cnt c) i + k : Nat) : Int)) (by omega), wu8n (x := i + 1) (by omega)]
    refine st_i b37 (by rw [T37.len]; omega) fun H51 b51 s51 => ⟨fun j hj => s51.block j (hp1 j hj), by omega, by omega, ?_⟩
    refine st_i b51 (by simp [T37.len]; omega) fun H55 b55 s55 => ⟨fun j hj => s55.block j (hp1 j hj), ?_⟩
    have hget := cds_get (q := cnt c) hkq h16
    have hpr := prs_get (c := c) (vs := vs) (List.getElem?_eq_getElem hat) hget
    have hpl : plq (cnt c) i + k < (prs c vs).length := (List.getElem?_eq_some_iff.1 hpr).1
    have htk : (prs c vs).take (plq (cnt c) i + (k + 1)) = (prs c vs).take (plq (cnt c) i + k) ++ [(vs[plq (cnt c) i + k], i + 1, fcq (cnt c) i + k)] := by
      rw [← Nat.add_assoc, take_snoc hpl, (List.getElem?_eq_some_iff.1 hpr).2]
    have hnk : vs[plq (cnt c) i + k] ∉ ((prs c vs).take (plq (cnt c) i + k)).map (·.1) := by
      rw [List.map_take, prs_keys hm]
      have := nodup_take (plq (cnt c) i + k + 1) hm.nodup
      rw [take_snoc hat] at this
      exact (nodup_snoc.1 this).2
    rw [show ((fcq (cnt c) i + k : Nat) : Int) + 1 = ((fcq (cnt c) i + (k + 1) : Nat) : Int) from by omega, show ((plq (cnt c) i + k : Nat) : Int) + 1 = ((plq (cnt c) i + (k + 1) : Nat) : Int) from by omega, show (k : Int) + 1 = ((k + 1 : Nat) : Int) from by omega, w64n (by omega), w64n (by omega), w64n (by omega)]
    refine hrec2 _ _ ⟨k + 1, _, rfl, by omega, b55, ?_, (o37.ch s51.ch hob).ch s55.ch hob, (k37.same s51 hb9).same s55 hb9⟩ (by simp; omega)
    rw [htk]
    exact T37.codeset (by omega) hx hnk
  · obtain rfl : k = cnt c i := by omega
    refine ite_f (decf (by omega)) ?_
    have e5 : shlI .i64 ((fcq (cnt c) i + cnt c i : Nat) : Int) 1 = ((fcq (cnt c) (i + 1) : Nat) : Int) := by
      have := shln (k := .i64) (x := fcq (cnt c) i + cnt c i) (n := 1) (by decide) (w64n (by omega))
      rw [show ((1 : Nat) : Int) = (1 : Int) from rfl] at this
      rw [this, fcq]
      omega
    rw [e5, show ((i + 1 : Nat) : Int) + 1 = ((i + 1 + 1 : Nat) : Int) from by omega, w64n (by omega)]
    have ep : plq (cnt c) (i + 1) = plq (cnt c) i + cnt c i := by rw [plq]
    exact hrec _ _ ⟨i + 1, cs', by rw [ep], by omega, b37, by rw [ep]; exact T37, o37, k37⟩ (by simp; omega)
end
end Go.Proofs.Ytbefacccdaafeaa.G
