/- Of this text what the row needs. -/
import Derived.Test.YtmnoecpnoofdjaaQPenCostZ18f
namespace Go.Proofs.Ytmnoecpnoofdjaa.G
open Go.RowKit
set_option linter.unusedVariables false
set_option linter.unusedSimpArgs false
set_option maxRecDepth 20000
def zJ (n : Int) : Ints 64 := ⟨n :: List.replicate 63 0, by simp⟩
theorem z_may {n : Int} (h : -1023 ≤ n ∧ n ≤ 1023) : mayB (zJ n).1 := by
  refine ⟨?_, fun k h1 h2 => ?_⟩
  · show -1024 ≤ n ∧ n ≤ 1023
    omega
  · obtain ⟨k, rfl⟩ : ∃ q, k = q + 1 := ⟨k - 1, by omega⟩
    show -1023 ≤ (List.replicate 63 (0 : Int)).getD k 0 ∧ (List.replicate 63 (0 : Int)).getD k 0 ≤ 1023
    rw [List.getD_eq_getElem?_getD, List.getElem?_replicate]
    split <;> simp
theorem z6_sy : syF (zJ 6).1 0 = [(3, 3, 6), (0, 0, 0)] := by decide +kernel
theorem z2_sy : syF (zJ 2).1 0 = [(2, 2, 2), (0, 0, 0)] := by decide +kernel
section
variable {s t v w : Nat}
theorem e_och (tb : Bool) : oChk tb (eJ s t v w) eC eP eT = 0 := by
  have h1 : Prt (eJ s t v w).w (eJ s t v w).h eC eP = 0 := ePrt
  have h2 := eUni
  unfold oChk
  rw [if_neg (by rw [h1]; decide), if_neg (by rw [e_rdE]; simp), if_neg]
  show ¬ ((0 : Int) < 0 ∨ (1 : Int) < 0 ∨ (Uni 8 8 eC eP).1 * (Uni 8 8 eC eP).2 < 1 ∨ (Uni 8 8 eC eP).1 * (Uni 8 8 eC eP).2 - 1 < 0)
  omega
theorem e_wk : (walkL (eJ s t v w).w (eJ s t v w).h eC eP (eJ s t v w).f.toNat (eJ s t v w).u.toNat).map (fun x => x.1.toNat) = [0] := e_L (s := s) (t := t) (v := v) (w := w)
theorem e_wl : (walkL (eJ s t v w).w (eJ s t v w).h eC eP (eJ s t v w).f.toNat (eJ s t v w).u.toNat).length = 1 := by
  have := congrArg List.length (e_wk (s := s) (t := t) (v := v) (w := w))
  rw [List.length_map] at this
  exact this
theorem e_mJ {n : Int} (h : -1023 ≤ n ∧ n ≤ 1023) (hb : bln (n - 0).natAbs ≤ 11) : mJ (eJ s t v w) eC eP [zJ n] = (mkL 0 (syF (zJ n).1 0), 0) := by
  unfold mJ pbJ
  rw [e_wk]
  show mrk [0] [(0, (zJ n).1)] = _
  have he : sE (zJ n).1 (([0] : List Int).getD 0 0) = 0 := by
    unfold sE
    rw [if_neg (by simpa using z_may h), if_neg]
    show ¬ 11 < bln (n - 0).natAbs
    omega
  rw [mrk]
  dsimp only
  rw [if_neg (by rw [he]; decide), mrk]
  show (mkL 0 (syF (zJ n).1 0) ++ [], (0 : Int)) = _
  rw [List.append_nil]
theorem e_m6 : mJ (eJ s t v w) eC eP [zJ 6] = ([(0, true, (3, 3, 6)), (0, false, (0, 0, 0))], 0) := by
  rw [e_mJ (by omega) (by decide), z6_sy]; rfl
theorem e_m2 : mJ (eJ s t v w) eC eP [zJ 2] = ([(0, true, (2, 2, 2)), (0, false, (0, 0, 0))], 0) := by
  rw [e_mJ (by omega) (by decide), z2_sy]; rfl
theorem e_bits : bitsM (eJ s t v w) eT eP [(0, true, (3, 3, 6)), (0, false, (0, 0, 0))] = [true, false, true, true, false, false] := by
  have h1 : oneS tD (3, 3, 6) = [true, false, true, true, false] := by decide +kernel
  have h2 : oneS tA (0, 0, 0) = [false] := by decide +kernel
  show oneS tD (3, 3, 6) ++ (oneS tA (0, 0, 0) ++ []) = _
  rw [h1, h2]; rfl
theorem e_text : text ([true, false, true, true, false, false] ++ List.replicate ((8 - ([true, false, true, true, false, false] : List Bool).length % 8) % 8) true) = ⟨#[179]⟩ := by decide +kernel
end
section
variable {H : Hp}
theorem one_blk {b : Nat} {X : Ints 64} (h : Bk H b 57 (cBl X)) : SlV H ⟨some ⟨b, 0, none⟩, 1, 1⟩ 64 cBl [X] := by
  refine ⟨rfl, Nat.le_refl _, fun i x hx => ⟨b, 0, rfl, ?_⟩⟩
  match i, hx with
  | 0, hx =>
    obtain rfl : X = x := by simpa using hx
    exact ldA_full h
  | i + 1, hx => simp at hx
theorem z_rng {n : Int} (h : -32768 ≤ n ∧ n ≤ 32767) : ∀ X ∈ [zJ n], ∀ v ∈ X.1, -32768 ≤ v ∧ v ≤ 32767 := fun X hX v hv => by
  rw [List.mem_singleton] at hX
  subst hX
  rcases List.mem_cons.1 hv with rfl | hv
  · exact h
  · rw [List.mem_replicate] at hv; omega
set_option maxHeartbeats 1000000 in
theorem small_ok {Q : (Int × Int × Int × Sl × Sl × (Ints 16) × Sl × (Ints 16) × Sl × (Ints 16) × Sl × (Ints 16) × Sl × (Ints 16) × Sl × (Ints 16) × Sl × (Ints 16) × Sl × (Ints 16) × Sl × Int × Int) → Hp → Prop}
    (hQ : ∀ s t v w H', JV H' (eJ s t v w) eC eP eT → Keep H H' → Q (0, 8, 8, ⟨some ⟨s, 0, none⟩, 1, 1⟩, ⟨some ⟨t, 0, none⟩, 1, 1⟩, eD, ⟨some ⟨v, 0, none⟩, 2, 2⟩, zInts 16, ⟨none, 0, 0⟩, zInts 16, ⟨none, 0, 0⟩, zInts 16, ⟨none, 0, 0⟩, eA, ⟨some ⟨w, 0, none⟩, 1, 1⟩, zInts 16, ⟨none, 0, 0⟩, zInts 16, ⟨none, 0, 0⟩, zInts 16, ⟨none, 0, 0⟩, 0, 1) H') : mosaiclaw18_small.s H Q := by
  unfold mosaiclaw18_small.s
  intro b1 H2 c2 g1 g1'
  have y2 := c2.size
  refine nw_i fun H4 b4 k4 z4 => ⟨Pv.keep k4 (by simp; omega), nw_i fun H9 b9 k9 z9 => ⟨Pv.keep k9 (by simp; omega), ?_⟩⟩
  intro b13 H15 c15 g13 g13'
  have y15 := c15.size
  refine nw_i fun H17 b17 k17 z17 => ⟨Pv.keep k17 (by simp; omega), fun H21 c21 => ?_⟩
  have y21 := c21.size
  refine nw_i fun H23 b23 k23 z23 => ⟨Pv.keep k23 (by simp; omega), fun H28 c28 => ?_⟩
  have k9' : Keep H H9 := ((c2.keep (by simp)).trans k4).trans k9
  have cc : Ch [b13, b1] H9 H28 := (((c15.mono (G := [b13, b1]) (by simp)).trans (k17.ch (F := [])) (by simp)).trans c21 (by simp)).trans ((k23.ch (F := [b1, b13])).trans c28 (by simp)) (by simp)
  have d17 : Ch [b13, b1] H17 H28 := (c21.mono (G := [b13, b1]) (by simp)).trans ((k23.ch (F := [b1, b13])).trans c28 (by simp)) (by simp)
  refine hQ H2.size H4.size H15.size H21.size H28 (ex_jv ((b4.keep k9).ch cc (by simp; omega)) (b9.ch cc (by simp; omega)) (b17.ch d17 (by simp; omega)) (b23.ch c28 (by simp; omega))) ?_
  exact (k9'.ch (F := [])).trans cc (by simp; omega) |>.keep (by simp)
set_option maxHeartbeats 2000000 in
theorem awake18_ok {Q : Bool → Hp → Prop} (h : ∀ H', Keep H H' → Q true H') : mosaiclaw18_awake.s H Q := by
  unfold mosaiclaw18_awake.s
  refine small_ok fun s t v w H2 J2 k2 => nw_i fun H4 b4 k4 z4 => ?_
  have bk4 : Bk H4 H2.size 57 (cBl (zJ 6)) := b4
  refine Encode_ok (j := eJ s t v w) (BL := [zJ 6]) (J2.keep k4) (one_blk bk4) (by decide) (z_rng (by omega)) (fun hn => absurd (e_och true) hn) (fun _ hn => absurd (by rw [e_wl]; rfl) hn) (fun _ _ hex => ?_) (fun _ _ _ hne => absurd (by rw [e_m6]) hne) fun _ _ hall _ _ _ H8 k8 => ?_
  · obtain ⟨m, hm, hn⟩ := hex
    rw [e_m6] at hm
    simp only [List.mem_cons, List.mem_nil_iff, or_false] at hm
    rcases hm with rfl | rfl
    · exact absurd (show (3 : Nat) ∈ ([0, 3] : List Nat) by decide) hn
    · exact absurd (show (0 : Nat) ∈ ([0] : List Nat) by decide) hn
  have ht : text (bitsM (eJ s t v w) eT eP (mJ (eJ s t v w) eC eP [zJ 6]).1 ++ List.replicate ((8 - (bitsM (eJ s t v w) eT eP (mJ (eJ s t v w) eC eP [zJ 6]).1).length % 8) % 8) true) = ⟨#[179]⟩ := by
    rw [e_m6]
    dsimp only
    rw [e_bits]
    exact e_text
  rw [ht]
  refine small_ok fun s t v w H10 J10 k10 => nw_i fun H12 b12 k12 z12 => ?_
  have bk12 : Bk H12 H10.size 57 (cBl (zJ 2)) := b12
  have hno : ¬ hasM (eJ s t v w) eT eP (0, true, (2, 2, 2)) := by
    show ¬ (2 : Nat) ∈ ([0, 3] : List Nat)
    decide
  have hno' : ¬ ∀ m ∈ (mJ (eJ s t v w) eC eP [zJ 2]).1, hasM (eJ s t v w) eT eP m := fun hall => hno (hall _ (by rw [e_m2]; simp))
  refine Encode_ok (j := eJ s t v w) (BL := [zJ 2]) (J10.keep k12) (one_blk bk12) (by decide) (z_rng (by omega)) (fun hn => absurd (e_och true) hn) (fun _ hn => absurd (by rw [e_wl]; rfl) hn) (fun _ _ hex H16 k16 => ?_) (fun _ _ hall => absurd hall hno') fun _ _ hall => absurd hall hno'
  refine small_ok fun s t v w H18 J18 k18 => nw_i fun H20 b20 k20 z20 => ?_
  have bk20 : Bk H20 H18.size 57 (cBl (zJ 6)) := b20
  refine Count_ok (j := eJ s t v w) (BL := [zJ 6]) (J18.keep k20) (one_blk bk20) (by decide) (z_rng (by omega)) (fun hh => ?_) fun _ _ _ H24 k24 => ?_
  · rcases hh with hh | hh | hh
    · exact absurd (e_och false) hh
    · exact absurd (by rw [e_wl]; rfl) hh
    · exact absurd (by rw [e_m6]) hh
  intro b25 H26 c26 g25 g25' b27 H30 c30 g27 g27'
  have k30 : Keep H24 H30 := ((c26.keep (by simp)).ch (F := [])).trans c30 (by simp; omega) |>.keep (by simp)
  have kk : Keep H H30 := (((k2.trans k4).trans k8).trans ((k10.trans k12).trans k16)).trans (((k18.trans k20).trans k24).trans k30)
  refine ite_t (by simp) (ite_t rfl (ite_t rfl (ite_t rfl fun t25 => ?_)))
  rw [cn_cells] at t25
  have e3 : cnt18 (selD eP) (mJ (eJ s t v w) eC eP [zJ 6]).1 3 = 1 := by rw [e_m6]; decide
  have e0 : cnt18 (selD eP) (mJ (eJ s t v w) eC eP [zJ 6]).1 0 = 0 := by rw [e_m6]; decide
  have a0 : cnt18 (selA eP) (mJ (eJ s t v w) eC eP [zJ 6]).1 0 = 1 := by rw [e_m6]; decide
  refine ldI_i t25 (cntL_get (by omega)) ?_
  rw [e3]
  refine ite_t rfl (ldI_i t25 (cntL_get (by omega)) ?_)
  rw [e0]
  refine ite_t rfl fun t27 => ?_
  rw [cn_cells] at t27
  refine ldI_i t27 (cntL_get (by omega)) ?_
  rw [a0]
  exact h _ kk
end
end Go.Proofs.Ytmnoecpnoofdjaa.G
