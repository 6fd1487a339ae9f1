/- Layer 19: CutsPieces. -/
import Derived.Test.YtdcjjoihlnjpnaaZ19d
import Derived.Test.YtdcjjoihlnjpnaaZP
import Derived.Test.YtdcjjoihlnjpnaaKCutsPieces
namespace Go.Proofs.Ytdcjjoihlnjpnaa.G
open Go.RowKit
set_option linter.unusedVariables false
set_option linter.unusedSimpArgs false
set_option maxRecDepth 20000

theorem eq4 (a b c d : Int) : (!((a == a) && ((b == b) && ((c == c) && (d == d))))) = false := by simp
theorem apart_ok {a0 a1 : Sl} {gs ws : List Sl} {X : Nat → List Pc} {H : Hp} {Q : Bool → Hp → Prop} (vg : SlV H a0 1 cL gs) (vw : SlV H a1 1 cL ws) (hN : gs.length = ws.length) (hN' : gs.length ≤ 100)
    (hX : ∀ (i : Nat) (s : Sl), gs[i]? = some s → Own H 29 4 s ((X i).flatMap cP)) (hW : ∀ (i : Nat) (s : Sl), ws[i]? = some s → SlV H s 4 cP (X i))
    (dj : ∀ (i j : Nat) (s t : Sl), i ≠ j → gs[i]? = some s → gs[j]? = some t → ∀ b ∈ fp s, b ∉ fp t) (da : ∀ b ∈ gs.flatMap fp, b ∉ fp a0 ∧ b ∉ fp a1) (dw : ∀ b ∈ gs.flatMap fp, ∀ (i : Nat) (s : Sl), ws[i]? = some s → b ∉ fp s) (hal : ∀ b ∈ fp a0, b < H.size)
    (hL : ∀ i, i < gs.length → (X i).length ≤ 2000000) (hQ : ∀ H', Ch (gs.flatMap fp) H H' → Q true H') : mosaiclaw19_apart.s a0 a1 H Q := by
  have gn := vg.n
  have wn := vw.n
  unfold mosaiclaw19_apart.s
  refine Fix.intro (fun (x : Int) H' => ∃ i : Nat, x = (i : Int) ∧ i ≤ gs.length ∧ H = H') (fun x _ => gs.length - x.toNat) ⟨0, rfl, by omega, rfl⟩ ?_
  rintro _ _ ⟨i, rfl, hi, rfl⟩ rec hrec
  by_cases hil : i < gs.length
  · obtain ⟨g, hg⟩ : ∃ s, gs[i]? = some s := ⟨_, List.getElem?_eq_getElem hil⟩
    obtain ⟨w, hw⟩ : ∃ s, ws[i]? = some s := ⟨_, List.getElem?_eq_getElem (by omega)⟩
    obtain ⟨b1, o1, ha1, hA1⟩ := vg.get hg
    obtain ⟨b2, o2, ha2, hA2⟩ := vw.get hw
    refine ite_t (dect (by omega)) ⟨by omega, by omega, _, ha1, by omega, by omega, _, ha2, ?_⟩
    rw [Int.toNat_natCast]
    refine ldL_of0 hA1 (ldL_of0 hA2 (Same_ok ((hX i g hg).view cP_len (by omega)) (hW i w hw) (by have := hL i hil; omega) fun r hr => ite_f (by rw [hr.2 rfl]; rfl) ?_))
    rw [show (i : Int) + 1 = ((i + 1 : Nat) : Int) from by omega, w64n (by omega)]
    exact hrec _ _ ⟨i + 1, rfl, by omega, rfl⟩ (by simp; omega)
  refine ite_f (decf (by omega)) ?_
  clear hrec rec hi hil i
  have hm1 : ∀ i : Nat, i < gs.length → (fun (s24 : Int) => c29 (IntKind.wrap .i64 ((-100 : Int) - s24)) 0 0 0) (i : Int) = cP (-100 - (i : Int), 0, 0, 0) := fun i hi => by
    show c29 (IntKind.wrap .i64 ((-100 : Int) - (i : Int))) 0 0 0 = _
    rw [w64 (by omega)]; rfl
  have hm2 : ∀ i : Nat, i < gs.length → (fun (s24 : Int) => c29 (IntKind.wrap .i64 ((-1000 : Int) - s24)) 0 0 0) (i : Int) = cP (-1000 - (i : Int), 0, 0, 0) := fun i hi => by
    show c29 (IntKind.wrap .i64 ((-1000 : Int) - (i : Int))) 0 0 0 = _
    rw [w64 (by omega)]; rfl
  refine over2 (f := cP) (sz := 4) (X := X) (m1 := fun i => (-100 - (i : Int), 0, 0, 0)) (MARK := fun s24 => c29 (IntKind.wrap .i64 ((-100 : Int) - s24)) 0 0 0) cP_len (by omega) hm1 vg hX dj (fun b hb => (da b hb).1) hN' (fun i hi => by have := hL i hi; omega) fun H2 hO c2 => ?_
  have y2 := c2.size
  have vg2 := vg.ch c2 fun b hb hh => (da b hh).1 hb
  have vw2 := vw.ch c2 fun b hb hh => (da b hh).2 hb
  refine long3 (f := cP) (sz := 4) (bytes := 32) (T := 29) (TL := 22) (Y := fun i => if i % 2 = 0 then List.replicate (X i).length (-100 - (i : Int), 0, 0, 0) else X i) (m2 := fun i => (-1000 - (i : Int), 0, 0, 0)) (MARK := fun s24 => c29 (IntKind.wrap .i64 ((-1000 : Int) - s24)) 0 0 0) (CNT := 12) (cnt := 12) (z := z29.cells) (zL := z22.cells)
    cP_len cP_ones (by omega) rfl rfl (by omega) rfl (by omega) hm2 vg2 hO dj (fun b hb => (da b hb).1) (fun b hb => by have := hal b hb; omega) hN' (fun i hi => by have := hL i hi; show (if i % 2 = 0 then List.replicate (X i).length ((-100 - (i : Int), 0, 0, 0) : Pc) else X i).length ≤ 1000000000; split <;> first | omega | (simp; omega)) fun long ls H3 vl hls hE hOd c3 => ?_
  have c3' : Ch (gs.flatMap fp) H H3 := c2.same c3
  have vg3 := vg.ch c3' fun b hb hh => (da b hh).1 hb
  have vw3 := vw.ch c3' fun b hb hh => (da b hh).2 hb
  have ln := vl.n
  refine Fix.intro (fun (x : Int) H' => ∃ i : Nat, x = (i : Int) ∧ i ≤ gs.length ∧ H3 = H') (fun x _ => gs.length - x.toNat) ⟨0, rfl, by omega, rfl⟩ ?_
  rintro _ _ ⟨i, rfl, hi, rfl⟩ rec hrec
  by_cases hil : i < gs.length
  rotate_left
  · exact ite_f (decf (by omega)) (hQ _ c3')
  obtain ⟨g, hg⟩ : ∃ s, gs[i]? = some s := ⟨_, List.getElem?_eq_getElem hil⟩
  have hLi := hL i hil
  refine ite_t (dect (by omega)) (Join.intro (fun (_ : Unit) H' => H3 = H') (fun _ H92 k92 => ?_) fun J90 hJ90 => ?_)
  · subst k92
    rw [show (i : Int) + 1 = ((i + 1 : Nat) : Int) from by omega, w64n (by omega)]
    exact hrec _ _ ⟨i + 1, rfl, by omega, rfl⟩ (by simp; omega)
  have et : Int.tmod (i : Int) 2 = ((i % 2 : Nat) : Int) := rfl
  rw [et]
  obtain ⟨b2, o2, ha2, hA2⟩ := vg3.get hg
  by_cases h2 : i % 2 = 1
  · obtain ⟨w, hw⟩ : ∃ s, ws[i]? = some s := ⟨_, List.getElem?_eq_getElem (by omega)⟩
    obtain ⟨b3, o3, ha3, hA3⟩ := vw3.get hw
    have v1 := hOd i g hg h2
    rw [if_neg (by omega)] at v1
    have v2 := (hW i w hw).ch c3' fun b hb hh => dw b hh i w hw hb
    refine ite_t (beqi (by omega)) ⟨by omega, by omega, _, ha2, by omega, by omega, _, ha3, ?_⟩
    rw [Int.toNat_natCast]
    exact ldL_of0 hA2 (ldL_of0 hA3 (Same_ok v1 v2 (by omega) fun r hr => ite_f (by rw [hr.2 rfl]; rfl) (hJ90 _ _ rfl)))
  · refine ite_f (beqf (by omega)) ?_
    obtain ⟨l, hl, vll, vgg⟩ := hE i g hg (by omega)
    rw [if_pos (by omega)] at vll vgg
    have lln := vll.n
    have ggn := vgg.n
    simp at lln ggn
    obtain ⟨b1, o1, ha1, hA1⟩ := vl.get hl
    refine Fix.intro (fun (x : Int) H' => ∃ k : Nat, x = (k : Int) ∧ k ≤ (X i).length + 12 ∧ H3 = H') (fun x _ => (X i).length + 12 - x.toNat) ⟨0, rfl, by omega, rfl⟩ ?_
    rintro _ _ ⟨k, rfl, hk, rfl⟩ rec2 hrec2
    refine ⟨by omega, by show (i : Int) < (long.n : Int); omega, _, ha1, ?_⟩
    rw [Int.toNat_natCast]
    refine ldL_of0 hA1 ?_
    by_cases hkl : k < (X i).length + 12
    rotate_left
    · exact ite_f (decf (by omega)) (hJ90 _ _ rfl)
    refine ite_t (dect (by omega)) ⟨by omega, by omega, _, ha2, ldL_of0 hA2 (Join.intro (fun b H' => b = false ∧ H3 = H') ?_ fun J hJ => ?_)⟩
    · rintro _ _ ⟨rfl, rfl⟩
      refine ite_f rfl ?_
      rw [show (k : Int) + 1 = ((k + 1 : Nat) : Int) from by omega, w64n (by omega)]
      exact hrec2 _ _ ⟨k + 1, rfl, by omega, rfl⟩ (by simp; omega)
    · by_cases hkn : k < (X i).length
      · have e1 : (List.replicate (X i).length ((-100 - (i : Int), 0, 0, 0) : Pc))[k]? = some (-100 - (i : Int), 0, 0, 0) := by rw [List.getElem?_replicate, if_pos hkn]
        have e2 : (List.replicate (X i).length ((-100 - (i : Int), 0, 0, 0) : Pc) ++ List.replicate 12 (-1000 - (i : Int), 0, 0, 0))[k]? = some (-100 - (i : Int), 0, 0, 0) := by rw [List.getElem?_append_left (by simpa using hkn)]; exact e1
        obtain ⟨q1, p1, ha3, hA3⟩ := vgg.get e1
        obtain ⟨q2, p2, ha4, hA4⟩ := vll.get e2
        refine ite_t (dect (by omega)) ⟨by omega, by omega, ldL_of0 hA2 ⟨by omega, by omega, _, ha3, ?_⟩⟩
        rw [Int.toNat_natCast]
        refine ldI_of (by simpa using hA3) (j := 0) (v := -100 - (i : Int)) rfl (ite_f (bnei (by rw [w64 (by omega)])) ⟨by omega, by show (i : Int) < (long.n : Int); omega, by omega, by omega, ldL_of0 hA1 ⟨by omega, by omega, _, ha4, ?_⟩⟩)
        exact ⟨_, _, _, _, hA4, ldL_of0 hA2 ⟨by omega, by omega, _, ha3, _, _, _, _, hA3, ite_f (eq4 _ _ _ _) (ite_f (decf (by omega)) (hJ _ _ ⟨rfl, rfl⟩))⟩⟩
      · have e2 : (List.replicate (X i).length ((-100 - (i : Int), 0, 0, 0) : Pc) ++ List.replicate 12 (-1000 - (i : Int), 0, 0, 0))[k]? = some (-1000 - (i : Int), 0, 0, 0) := by rw [List.getElem?_append_right (by simp; omega), List.getElem?_replicate, if_pos (by simp; omega)]
        obtain ⟨q2, p2, ha4, hA4⟩ := vll.get e2
        refine ite_f (decf (by omega)) (ite_t (dect (by omega)) ⟨by omega, by show (i : Int) < (long.n : Int); omega, ldL_of0 hA1 ⟨by omega, by omega, _, ha4, ?_⟩⟩)
        rw [Int.toNat_natCast]
        exact ldI_of (by simpa using hA4) (j := 0) (v := -1000 - (i : Int)) rfl (hJ _ _ ⟨bnei (by rw [w64 (by omega)]), rfl⟩)
/-- The pieces, their last end, the error. -/
def pcR (l : List Pc) (most : Int) : List Pc × Int × Int := if most < l.length then ([], 0, 5) else (l, lastN l, 0)
theorem pcR_len (l : List Pc) (most : Int) : (pcR l most).1.length ≤ l.length := by unfold pcR; split <;> simp
theorem Pieces_x {s : ByteArray} {a a2 : Int} {l : List Pc} {H : Hp} {Q : Sl × Int × Int → Hp → Prop} (hs : s.size ≤ 1048576) (hl : Pcs s (fromOf s.size a) l)
    (h : ∀ t H', Own H' 29 4 t ((pcR l a2).1.flatMap cP) → Keep H H' → (∀ b ∈ fp t, H.size ≤ b) → Q (t, (pcR l a2).2) H') : cuts_Pieces.s s a a2 H Q := by
  have hll := hl.len (fromOf_le _ _)
  unfold pcR at h
  refine Pieces_ok (by omega) (by omega) hl (fun h0 H' k => ?_) fun h0 t H' o k f => ?_
  · rw [if_pos h0] at h
    exact h _ H' (Own.nil _ _ _) k (by simp [fp])
  · rw [if_neg (by omega)] at h
    exact h t H' o k f
theorem rPieces_x {s : ByteArray} {a a2 : Int} {l : List Pc} {H : Hp} {Q : Sl × Int × Int → Hp → Prop} (hs : s.size ≤ 1048576) (hl : Pcs s (fromOf s.size a) l)
    (h : ∀ t H', Own H' 29 4 t ((pcR l a2).1.flatMap cP) → Keep H H' → (∀ b ∈ fp t, H.size ≤ b) → Q (t, (pcR l a2).2) H') : mosaicref19_Pieces.s s a a2 H Q := by
  have hll := hl.len (fromOf_le _ _)
  unfold mosaicref19_Pieces.s
  unfold pcR at h
  refine rAll_ok hs hl fun t H2 o2 k2 f2 => ?_
  have v := o2.view cP_len (by omega)
  have n := v.n
  by_cases h0 : a2 < (l.length : Int)
  · rw [if_pos h0] at h
    exact ite_t (dect (by omega)) (h _ H2 (Own.nil _ _ _) k2 (by simp [fp]))
  · rw [if_neg h0] at h
    obtain ⟨p, hpl⟩ : ∃ p, l[l.length - 1]? = some p := ⟨_, List.getElem?_eq_getElem (by omega)⟩
    have hlast : lastN l = p.2.2.2 := by
      have := lastN_take hpl
      rwa [List.take_of_length_le (by omega)] at this
    obtain ⟨b, o, ha, hA⟩ := v.get hpl
    have e : IntKind.wrap .i64 ((t.n : Int) - 1) = ((l.length - 1 : Nat) : Int) := by rw [w64 (by omega)]; omega
    rw [e]
    refine ite_f (decf (by omega)) ⟨by omega, by omega, _, ha, ?_⟩
    refine ldI_of hA (j := 3) (v := p.2.2.2) rfl ?_
    rw [← hlast]
    exact h t H2 o2 k2 f2
set_option maxHeartbeats 1000000 in
theorem CutsPieces_row (s0 : ByteArray) (a a2 : Int) (s1 : ByteArray) (W : World) (hs0 : s0.size ≤ 1048576) (ha : -9223372036854775808 ≤ a ∧ a ≤ 9223372036854775807) (ha2 : -9223372036854775808 ≤ a2 ∧ a2 ≤ 9223372036854775807) (hs1 : s1.size ≤ 1048576) :
    mosaiclaw19_CutsPieces.s s0 a a2 s1 W.heap (fun r H' => r = true ∧ Keep W.heap H') := by
  obtain ⟨l, hl⟩ := Pcs.ex s0 s0.size (fromOf s0.size a) (by omega)
  have hll := hl.len (fromOf_le _ _)
  obtain ⟨m, hm⟩ := Pcs.ex s1 s1.size (fromOf s1.size a) (by omega)
  have hml := hm.len (fromOf_le _ _)
  unfold mosaiclaw19_CutsPieces.s
  refine rPieces_x hs0 hl fun t H6 oT k6 fT => rPieces_x hs1 hm fun u H9 oU k9 fU => ?_
  have y6 := k6.size
  have y9 := k9.size
  have lT := oT.fp_lt
  have lU := oU.fp_lt
  have oT9 := oT.kp k9
  have k9W := k6.trans k9
  have lA := pcR_len l a2
  have lD := pcR_len m 1048576
  have hPA : ∀ {H : Hp} {Q : Sl × Int × Int → Hp → Prop}, (∀ t H', Own H' 29 4 t ((pcR l a2).1.flatMap cP) → Keep H H' → (∀ b ∈ fp t, H.size ≤ b) → Q (t, (pcR l a2).2) H') → cuts_Pieces.s s0 a a2 H Q := fun h => Pieces_x hs0 hl h
  have hPD : ∀ {H : Hp} {Q : Sl × Int × Int → Hp → Prop}, (∀ t H', Own H' 29 4 t ((pcR m 1048576).1.flatMap cP) → Keep H H' → (∀ b ∈ fp t, H.size ≤ b) → Q (t, (pcR m 1048576).2) H') → cuts_Pieces.s s1 a 1048576 H Q := fun h => Pieces_x hs1 hm h
  generalize pcR l a2 = RA at oT oT9 lA hPA
  generalize pcR m 1048576 = RD at oU lD hPD
  let X : Nat → List Pc := fun j => if j = 2 ∨ j = 3 then RD.1 else RA.1
  let Wl : Nat → Sl := fun j => if j = 2 ∨ j = 3 then u else t
  refine Fix.intro (fun (x : Sl × Sl × Int) H' => ∃ (i : Nat) (gs ws : List Sl), x.2.2 = (i : Int) ∧ i ≤ 6 ∧ gs.length = i ∧ ws.length = i ∧ Own H' 22 1 x.1 (gs.flatMap cL) ∧ Own H' 22 1 x.2.1 (ws.flatMap cL) ∧ (∀ (j : Nat) (s : Sl), gs[j]? = some s → Own H' 29 4 s ((X j).flatMap cP)) ∧ (∀ (j : Nat) (s : Sl), ws[j]? = some s → s = Wl j) ∧
      (∀ (j j' : Nat) (s s' : Sl), j ≠ j' → gs[j]? = some s → gs[j']? = some s' → ∀ b ∈ fp s, b ∉ fp s') ∧ (∀ b ∈ gs.flatMap fp, b ∉ fp x.1 ∧ b ∉ fp x.2.1) ∧ (∀ b ∈ fp x.1, b ∉ fp x.2.1) ∧ (∀ b ∈ gs.flatMap fp ++ (fp x.1 ++ fp x.2.1), H9.size ≤ b) ∧ Keep H9 H') (fun x _ => 6 - x.2.2.toNat)
    ⟨0, [], [], rfl, by omega, rfl, rfl, Own.nil _ _ _, Own.nil _ _ _, by simp, by simp, by simp, by simp, by simp [fp], by simp [fp], Keep.refl _⟩ ?_
  rintro ⟨G, V, _⟩ H14 ⟨i, gs, ws, rfl, hi, hgl, hwl, oG, oV, hg, hw, dj, d2, d3, lo, k14⟩ rec hrec
  simp only at oG oV d2 d3 lo ⊢
  have y14 := k14.size
  by_cases h6 : i < 6
  rotate_left
  · obtain rfl : i = 6 := by omega
    refine ite_f (decf (by omega)) ?_
    have lG := oG.fp_lt
    refine apart_ok (X := X) (oG.view cL_len (by omega)) (oV.view cL_len (by omega)) (by omega) (by omega) hg (fun j s hs => ?_) dj (fun b hb => d2 b hb) (fun b hb j s hs hh => ?_) lG (fun j hj => ?_) fun H52 c52 => ?_
    · rw [hw j s hs]
      show SlV H14 (if j = 2 ∨ j = 3 then u else t) 4 cP (if j = 2 ∨ j = 3 then RD.1 else RA.1)
      split
      · exact (oU.kp k14).view cP_len (by omega)
      · exact (oT9.kp k14).view cP_len (by omega)
    · rw [hw j s hs] at hh
      have := lo b (by simp [List.mem_append]; exact .inl (by simpa using hb))
      have h2 : b < H9.size := by
        have : b ∈ fp (if j = 2 ∨ j = 3 then u else t) := hh
        split at this
        · exact lU b this
        · have := lT b this; omega
      omega
    · show (if j = 2 ∨ j = 3 then RD.1 else RA.1).length ≤ 2000000
      split <;> omega
    · have hFl : ∀ b ∈ gs.flatMap fp, H9.size ≤ b := fun b hb => lo b (by simp [List.mem_append]; exact .inl (by simpa using hb))
      have k52 : Keep H9 H52 := (k14.ch (F := [])).trans c52 (fun b hb => .inr (hFl b hb)) |>.keep (by simp)
      refine hPA fun t' H55 o55 k55 _ => ?_
      refine ite_t rfl (ite_t (beqi rfl) (ite_t (beqi rfl) (Same_ok (o55.view cP_len (by omega)) ((oT9.kp (k52.trans k55)).view cP_len (by omega)) (by omega) fun r hr => ⟨hr.2 rfl, (k9W.trans k52).trans k55⟩)))
  refine ite_t (dect (by omega)) ?_
  refine Join.intro (fun (x : ByteArray × Int × Sl × Int × Int) H' => x = (if i = 2 ∨ i = 3 then (s1, 1048576, u, RD.2.1, RD.2.2) else (s0, a2, t, RA.2.1, RA.2.2)) ∧ H14 = H') ?_ fun J hJ => ?_
  rotate_left
  · refine Join.intro (fun b H' => b = decide (i = 2 ∨ i = 3) ∧ H14 = H') ?_ fun J2 hJ2 => ?_
    rotate_left
    · by_cases h2 : i = 2
      · exact ite_t (beqi (by omega)) (hJ2 _ _ ⟨(dect (.inl h2)).symm, rfl⟩)
      · refine ite_f (beqf (by omega)) (hJ2 _ _ ⟨?_, rfl⟩)
        by_cases h3 : i = 3
        · exact (beqi (by omega)).trans (dect (.inr h3)).symm
        · exact (beqf (by omega)).trans (decf (by omega)).symm
    rintro _ _ ⟨rfl, rfl⟩
    by_cases h23 : i = 2 ∨ i = 3
    · exact ite_t (dect h23) (hJ _ _ ⟨by rw [if_pos h23], rfl⟩)
    · exact ite_f (decf h23) (hJ _ _ ⟨by rw [if_neg h23], rfl⟩)
  rintro _ _ ⟨rfl, rfl⟩
  have sy : ∀ {Q : Sl × Int × Int → Hp → Prop}, (∀ s H', Own H' 29 4 s ((X i).flatMap cP) → Keep H14 H' → (∀ b ∈ fp s, H14.size ≤ b) → Q (s, (if i = 2 ∨ i = 3 then RD.2 else RA.2)) H') → cuts_Pieces.s (if i = 2 ∨ i = 3 then (s1, 1048576, u, RD.2.1, RD.2.2) else (s0, a2, t, RA.2.1, RA.2.2)).1 a (if i = 2 ∨ i = 3 then (s1, (1048576 : Int), u, RD.2.1, RD.2.2) else (s0, a2, t, RA.2.1, RA.2.2)).2.1 H14 Q := by
    intro Q h
    have hXi : X i = if i = 2 ∨ i = 3 then RD.1 else RA.1 := rfl
    rw [hXi] at h
    by_cases h23 : i = 2 ∨ i = 3
    · simp only [if_pos h23] at h ⊢
      exact hPD h
    · simp only [if_neg h23] at h ⊢
      exact hPA h
  refine sy fun s H26 o26 k26 f26 => Join.intro (fun b H' => b = false ∧ H26 = H') ?_ fun J hJ => ite_f (bnei (by split <;> rfl)) (hJ _ _ ⟨bnei (by split <;> rfl), rfl⟩)
  rintro _ _ ⟨rfl, rfl⟩
  refine ite_f rfl ?_
  have y26 := k26.size
  have k26' : Keep H14 H26 := k26
  have hwi : (if i = 2 ∨ i = 3 then (s1, (1048576 : Int), u, RD.2.1, RD.2.2) else (s0, a2, t, RA.2.1, RA.2.2)).2.2.1 = Wl i := by show _ = (if i = 2 ∨ i = 3 then u else t); split <;> rfl
  rw [hwi]
  have lG := oG.fp_lt
  have lV := oV.fp_lt
  have ls := o26.fp_lt
  have hgs : ∀ b ∈ gs.flatMap fp, b < H14.size := fun b hb => by
    obtain ⟨s', hs', hb⟩ := List.mem_flatMap.1 hb
    obtain ⟨j, hj⟩ := List.mem_iff_getElem?.1 hs'
    exact (hg j s' hj).fp_lt b hb
  have loG : ∀ b ∈ fp G, H9.size ≤ b := fun b hb => lo b (by simp [hb])
  have loV : ∀ b ∈ fp V, H9.size ≤ b := fun b hb => lo b (by simp [hb])
  have log : ∀ b ∈ gs.flatMap fp, H9.size ≤ b := fun b hb => lo b (List.mem_append_left _ hb)
  refine nw_i fun H29 b29 k29 z29 => ?_
  have y29 := k29.size
  refine apS_list (f := cL) (ys := [s]) ((oG.kp k26').kp k29) cL_len cL_ones rfl (by omega) rfl (by simp; omega) (by omega) fun G' H35 oG' cG fG => ?_
  have y35 := cG.size
  refine nw_i fun H38 b38 k38 z38 => ?_
  have y38 := k38.size
  have oV35 := (((oV.kp k26').kp k29).ch cG fun b hb hh => d3 b hh hb).kp k38
  refine apS_list (f := cL) (ys := [Wl i]) oV35 cL_len cL_ones rfl (by omega) rfl (by simp; omega) (by omega) fun V' H44 oV' cV fV => ?_
  have y44 := cV.size
  have kk : Keep H9 H44 := ((((k14.trans k26').trans k29).ch (F := [])).trans cG (fun b hb => .inr (loG b hb)) |>.keep (by simp)).trans k38 |>.ch (F := []) |>.trans cV (fun b hb => .inr (loV b hb)) |>.keep (by simp)
  -- a list of its own stays
  have mv : ∀ {s' : Sl} {xs : List Pc}, Own H26 29 4 s' (xs.flatMap cP) → (∀ b ∈ fp s', b ∉ fp G ∧ b ∉ fp V) → Own H44 29 4 s' (xs.flatMap cP) := fun {s' xs} o h => (((o.kp k29).ch cG fun b hb => (h b hb).1).kp k38).ch cV fun b hb => (h b hb).2
  have sGV : ∀ b ∈ fp s, b ∉ fp G ∧ b ∉ fp V := fun b hb => ⟨fun hh => by have := f26 b hb; have := lG b hh; omega, fun hh => by have := f26 b hb; have := lV b hh; omega⟩
  rw [show (i : Int) + 1 = ((i + 1 : Nat) : Int) from by omega, w64n (by omega)]
  have memg : ∀ b ∈ (gs ++ [s]).flatMap fp, b ∈ gs.flatMap fp ∨ b ∈ fp s := fun b hb => by
    rw [List.flatMap_append] at hb
    rcases List.mem_append.1 hb with h | h
    · exact .inl h
    · exact .inr (by simpa using h)
  refine hrec _ _ ⟨i + 1, gs ++ [s], ws ++ [Wl i], rfl, by omega, by simp [hgl], by simp [hwl], ((oG'.kp k38).ch cV fun b hb hh => ?_), oV', fun j s' hj => ?_, fun j s' hj => ?_, fun j j' s1 s2 hjj h1 h2 b hb hh => ?_, fun b hb => ⟨fun hh => ?_, fun hh => ?_⟩, fun b hb hh => ?_, fun b hb => ?_, kk⟩ (by simp; omega)
  · rcases fG b hb with h | h
    · exact d3 b h hh
    · have := lV b hh; omega
  · by_cases hjl : j < gs.length
    · rw [List.getElem?_append_left hjl] at hj
      exact mv ((hg j s' hj).kp k26') fun b hb => d2 b (mem_all hj b hb)
    · rw [List.getElem?_append_right (by omega)] at hj
      have hj0 := (List.getElem?_eq_some_iff.1 hj).1
      simp at hj0
      obtain rfl : j = i := by omega
      rw [hgl, Nat.sub_self] at hj
      simp at hj
      subst hj
      exact mv o26 sGV
  · by_cases hjl : j < ws.length
    · rw [List.getElem?_append_left hjl] at hj
      exact hw j s' hj
    · rw [List.getElem?_append_right (by omega)] at hj
      have hj0 := (List.getElem?_eq_some_iff.1 hj).1
      simp at hj0
      obtain rfl : j = i := by omega
      rw [hwl, Nat.sub_self] at hj
      simp at hj
      exact hj.symm
  · by_cases hjl : j < gs.length
    · rw [List.getElem?_append_left hjl] at h1
      by_cases hjl' : j' < gs.length
      · rw [List.getElem?_append_left hjl'] at h2
        exact dj j j' s1 s2 hjj h1 h2 b hb hh
      · rw [List.getElem?_append_right (by omega)] at h2
        have hj0 := (List.getElem?_eq_some_iff.1 h2).1
        simp at hj0
        rw [show j' - gs.length = 0 from by omega] at h2
        simp at h2
        subst h2
        have := hgs b (mem_all h1 b hb)
        have := f26 b hh
        omega
    · rw [List.getElem?_append_right (by omega)] at h1
      have hj0 := (List.getElem?_eq_some_iff.1 h1).1
      simp at hj0
      rw [show j - gs.length = 0 from by omega] at h1
      simp at h1
      subst h1
      have hjl' : j' < gs.length := by
        have := (List.getElem?_eq_some_iff.1 h2).1
        simp at this
        omega
      rw [List.getElem?_append_left hjl'] at h2
      have := hgs b (mem_all h2 b hh)
      have := f26 b hb
      omega
  · rcases memg b hb with h | h
    · rcases fG b hh with h' | h'
      · exact (d2 b h).1 h'
      · have := hgs b h; omega
    · rcases fG b hh with h' | h'
      · exact (sGV b h).1 h'
      · have := ls b h; omega
  · rcases memg b hb with h | h
    · rcases fV b hh with h' | h'
      · exact (d2 b h).2 h'
      · have := hgs b h; omega
    · rcases fV b hh with h' | h'
      · exact (sGV b h).2 h'
      · have := ls b h; omega
  · have hbl : b < H35.size := oG'.fp_lt b hb
    rcases fV b hh with h' | h'
    · rcases fG b hb with h | h
      · exact d3 b h h'
      · have := lV b h'; omega
    · omega
  · rcases List.mem_append.1 hb with hb | hb
    · rcases memg b hb with h | h
      · exact log b h
      · have := f26 b h; omega
    · rcases List.mem_append.1 hb with hb | hb
      · rcases fG b hb with h | h
        · exact loG b h
        · omega
      · rcases fV b hb with h | h
        · exact loV b h
        · omega
end Go.Proofs.Ytdcjjoihlnjpnaa.G
