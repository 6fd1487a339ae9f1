/- Layer 7: RunsSymbols. -/
import Derived.Test.YthblohaffipkhaaZ07e
import Derived.Test.YthblohaffipkhaaZP
import Derived.Test.YthblohaffipkhaaKRunsSymbols
namespace Go.Proofs.Ythblohaffipkhaa.G
open Go.RowKit
set_option linter.unusedVariables false
set_option linter.unusedSimpArgs false
set_option maxRecDepth 20000

theorem eq3 (a b c : Int) : (!((a == a) && ((b == b) && (c == c)))) = false := by simp
theorem apart_ok {a0 a1 : Sl} {gs ws : List Sl} {X : Nat → List Sy} {H : Hp} {Q : Bool → Hp → Prop} (vg : SlV H a0 1 cL gs) (vw : SlV H a1 1 cL ws) (hN : gs.length = ws.length) (hN' : gs.length ≤ 100)
    (hX : ∀ (i : Nat) (s : Sl), gs[i]? = some s → Own H 42 3 s ((X i).flatMap cS)) (hW : ∀ (i : Nat) (s : Sl), ws[i]? = some s → SlV H s 3 cS (X i))
    (dj : ∀ (i j : Nat) (s t : Sl), i ≠ j → gs[i]? = some s → gs[j]? = some t → ∀ b ∈ fp s, b ∉ fp t) (da : ∀ b ∈ gs.flatMap fp, b ∉ fp a0 ∧ b ∉ fp a1) (dw : ∀ b ∈ gs.flatMap fp, ∀ (i : Nat) (s : Sl), ws[i]? = some s → b ∉ fp s) (hal : ∀ b ∈ fp a0, b < H.size)
    (hL : ∀ i, i < gs.length → (X i).length ≤ 1000000) (hQ : ∀ H', Ch (gs.flatMap fp) H H' → Q true H') : mosaiclaw07_apart.s a0 a1 H Q := by
  have gn := vg.n
  have wn := vw.n
  unfold mosaiclaw07_apart.s
  refine Fix.intro (fun (x : Int) H' => ∃ i : Nat, x = (i : Int) ∧ i ≤ gs.length ∧ H = H') (fun x _ => gs.length - x.toNat) ⟨0, rfl, by omega, rfl⟩ ?_
  rintro _ _ ⟨i, rfl, hi, rfl⟩ rec hrec
  by_cases hil : i < gs.length
  · obtain ⟨g, hg⟩ : ∃ s, gs[i]? = some s := ⟨_, List.getElem?_eq_getElem hil⟩
    obtain ⟨w, hw⟩ : ∃ s, ws[i]? = some s := ⟨_, List.getElem?_eq_getElem (by omega)⟩
    obtain ⟨b1, o1, ha1, hA1⟩ := vg.get hg
    obtain ⟨b2, o2, ha2, hA2⟩ := vw.get hw
    refine ite_t (dect (by omega)) ⟨by omega, by omega, _, ha1, by omega, by omega, _, ha2, ?_⟩
    rw [Int.toNat_natCast]
    refine ldL_of0 hA1 (ldL_of0 hA2 (rSame_ok7 ((hX i g hg).view cS_len (by omega)) (hW i w hw) (by have := hL i hil; omega) fun r hr => ite_f (by rw [hr.2 rfl]; rfl) ?_))
    rw [show (i : Int) + 1 = ((i + 1 : Nat) : Int) from by omega, w64n (by omega)]
    exact hrec _ _ ⟨i + 1, rfl, by omega, rfl⟩ (by simp; omega)
  refine ite_f (decf (by omega)) ?_
  clear hrec rec hi hil i
  have hm1 : ∀ i : Nat, i < gs.length → (fun (s24 : Int) => c42 77 0 (IntKind.wrap .u16 s24)) (i : Int) = cS (77, 0, i) := fun i hi => by
    show c42 77 0 (IntKind.wrap .u16 (i : Int)) = _
    rw [wu16 (by omega)]; rfl
  have hm2 : ∀ i : Nat, i < gs.length → (fun (s24 : Int) => c42 78 0 (IntKind.wrap .u16 s24)) (i : Int) = cS (78, 0, i) := fun i hi => by
    show c42 78 0 (IntKind.wrap .u16 (i : Int)) = _
    rw [wu16 (by omega)]; rfl
  refine over2 (f := cS) (sz := 3) (X := X) (m1 := fun i => (77, 0, i)) (MARK := fun s24 => c42 77 0 (IntKind.wrap .u16 s24)) cS_len (by omega) hm1 vg hX dj (fun b hb => (da b hb).1) hN' (fun i hi => by have := hL i hi; omega) fun H2 hO c2 => ?_
  have y2 := c2.size
  have vg2 := vg.ch c2 fun b hb hh => (da b hh).1 hb
  have vw2 := vw.ch c2 fun b hb hh => (da b hh).2 hb
  refine long3 (f := cS) (sz := 3) (bytes := 4) (T := 42) (TL := 25) (Y := fun i => if i % 2 = 0 then List.replicate (X i).length (77, 0, i) else X i) (m2 := fun i => (78, 0, i)) (MARK := fun s24 => c42 78 0 (IntKind.wrap .u16 s24)) (CNT := 70) (cnt := 70) (z := z42.cells) (zL := z25.cells)
    cS_len cS_ones (by omega) rfl rfl (by omega) rfl (by omega) hm2 vg2 hO dj (fun b hb => (da b hb).1) (fun b hb => by have := hal b hb; omega) hN' (fun i hi => by have := hL i hi; show (if i % 2 = 0 then List.replicate (X i).length ((77, 0, i) : Sy) else X i).length ≤ 1000000000; split <;> first | omega | (simp; omega)) fun long ls H3 vl hls hE hOd c3 => ?_
  have c3' : Ch (gs.flatMap fp) H H3 := c2.same c3
  have vg3 := vg.ch c3' fun b hb hh => (da b hh).1 hb
  have vw3 := vw.ch c3' fun b hb hh => (da b hh).2 hb
  have ln := vl.n
  refine Fix.intro (fun (x : Int) H' => ∃ i : Nat, x = (i : Int) ∧ i ≤ gs.length ∧ Keep H3 H') (fun x _ => gs.length - x.toNat) ⟨0, rfl, by omega, Keep.refl _⟩ ?_
  rintro _ H87 ⟨i, rfl, hi, k87⟩ rec hrec
  by_cases hil : i < gs.length
  rotate_left
  · exact ite_f (decf (by omega)) (hQ _ (c3'.trans (k87.ch (F := [])) (by simp)))
  obtain ⟨g, hg⟩ : ∃ s, gs[i]? = some s := ⟨_, List.getElem?_eq_getElem hil⟩
  have hLi := hL i hil
  refine ite_t (dect (by omega)) (Join.intro (fun (_ : Unit) H' => Keep H3 H') (fun _ H92 k92 => ?_) fun J90 hJ90 => ?_)
  · rw [show (i : Int) + 1 = ((i + 1 : Nat) : Int) from by omega, w64n (by omega)]
    exact hrec _ _ ⟨i + 1, rfl, by omega, k92⟩ (by simp; omega)
  have et : Int.tmod (i : Int) 2 = ((i % 2 : Nat) : Int) := rfl
  rw [et]
  by_cases h2 : i % 2 = 1
  · obtain ⟨w, hw⟩ : ∃ s, ws[i]? = some s := ⟨_, List.getElem?_eq_getElem (by omega)⟩
    obtain ⟨b1, o1, ha1, hA1⟩ := (vg3.keep k87).get hg
    obtain ⟨b2, o2, ha2, hA2⟩ := (vw3.keep k87).get hw
    have v1 := (hOd i g hg h2).keep k87
    rw [if_neg (by omega)] at v1
    have v2 := ((hW i w hw).ch c3' fun b hb hh => dw b hh i w hw hb).keep k87
    refine ite_t (beqi (by omega)) ⟨by omega, by omega, _, ha1, by omega, by omega, _, ha2, ?_⟩
    rw [Int.toNat_natCast]
    exact ldL_of0 hA1 (ldL_of0 hA2 (rSame_ok7 v1 v2 (by omega) fun r hr => ite_f (by rw [hr.2 rfl]; rfl) (hJ90 _ _ k87)))
  · refine ite_f (beqf (by omega)) ?_
    obtain ⟨l, hl, vll, vgg⟩ := hE i g hg (by omega)
    rw [if_pos (by omega)] at vll vgg
    have lln := vll.n
    have ggn := vgg.n
    simp at lln ggn
    have hi16 : IntKind.wrap .u16 (i : Int) = (i : Int) := wu16 (by omega)
    refine Fix.intro (fun (x : Int) H' => ∃ k : Nat, x = (k : Int) ∧ k ≤ (X i).length + 70 ∧ Keep H3 H') (fun x _ => (X i).length + 70 - x.toNat) ⟨0, rfl, by omega, k87⟩ ?_
    rintro _ H111 ⟨k, rfl, hk, k111⟩ rec2 hrec2
    obtain ⟨b1, o1, ha1, hA1⟩ := (vl.keep k111).get hl
    refine ⟨by omega, by show (i : Int) < (long.n : Int); omega, _, ha1, ?_⟩
    rw [Int.toNat_natCast]
    refine ldL_of0 hA1 ?_
    by_cases hkl : k < (X i).length + 70
    rotate_left
    · exact ite_f (decf (by omega)) (hJ90 _ _ k111)
    obtain ⟨b2, o2, ha2, hA2⟩ := (vg3.keep k111).get hg
    refine ite_t (dect (by omega)) ⟨by omega, by omega, _, ha2, ldL_of0 hA2 ?_⟩
    intro b126 H128 c128 g128 g128' hb126
    have k128 : Keep H3 H128 := k111.trans (c128.keep (by simp))
    have y111 := k111.size
    rw [hi16] at hb126
    refine Join.intro (fun (_ : Unit) H' => Bk H' b126 42 (cS (if k < (X i).length then 77 else 78, 0, i)) ∧ Keep H3 H') ?_ fun J hJ => ?_
    rotate_left
    · by_cases hkn : (X i).length ≤ k
      · refine ite_t (dect (by omega)) (st_i hb126 (by simp) fun H184 b184 s184 => hJ _ _ ⟨?_, k128.same s184 (by omega)⟩)
        rw [if_neg (by omega)]
        exact b184
      · refine ite_f (decf (by omega)) (hJ _ _ ⟨?_, k128⟩)
        rw [if_pos (by omega)]
        exact hb126
    rintro ⟨⟩ H131 ⟨bm, k131⟩
    obtain ⟨b1', o1', ha1', hA1'⟩ := (vl.keep k131).get hl
    obtain ⟨b2', o2', ha2', hA2'⟩ := (vg3.keep k131).get hg
    rw [ha1] at ha1'
    rw [ha2] at ha2'
    injection ha1' with ha1'
    injection ha1' with e1 e2
    injection ha2' with ha2'
    injection ha2' with e3 e4
    subst e1 e2 e3 e4
    refine Join.intro (fun b H' => b = false ∧ H131 = H') ?_ fun J hJ => ?_
    · rintro _ _ ⟨rfl, rfl⟩
      refine ite_f rfl ?_
      rw [show (k : Int) + 1 = ((k + 1 : Nat) : Int) from by omega, w64n (by omega)]
      exact hrec2 _ _ ⟨k + 1, rfl, by omega, k131⟩ (by simp; omega)
    · by_cases hkn : k < (X i).length
      · rw [if_pos hkn] at bm
        have e1 : (List.replicate (X i).length ((77, 0, i) : Sy))[k]? = some (77, 0, i) := by rw [List.getElem?_replicate, if_pos hkn]
        have e2 : (List.replicate (X i).length ((77, 0, i) : Sy) ++ List.replicate 70 (78, 0, i))[k]? = some (77, 0, i) := by rw [List.getElem?_append_left (by simpa using hkn)]; exact e1
        obtain ⟨q1, p1, ha3, hA3⟩ := (vgg.keep k131).get e1
        obtain ⟨q2, p2, ha4, hA4⟩ := (vll.keep k131).get e2
        refine ite_t (dect (by omega)) ⟨by omega, by omega, ldL_of0 hA2' ⟨by omega, by omega, _, ha3, ?_⟩⟩
        rw [Int.toNat_natCast]
        refine ⟨_, _, _, hA3, _, _, _, ldA_full bm, ite_f (eq3 _ _ _) ⟨by omega, by show (i : Int) < (long.n : Int); omega, ldL_of0 hA1' ⟨by omega, by omega, _, ha4, ?_⟩⟩⟩
        exact ⟨_, _, _, hA4, _, _, _, ldA_full bm, hJ _ _ ⟨eq3 _ _ _, rfl⟩⟩
      · rw [if_neg hkn] at bm
        have e2 : (List.replicate (X i).length ((77, 0, i) : Sy) ++ List.replicate 70 (78, 0, i))[k]? = some (78, 0, i) := by rw [List.getElem?_append_right (by simp; omega), List.getElem?_replicate, if_pos (by simp; omega)]
        obtain ⟨q2, p2, ha4, hA4⟩ := (vll.keep k131).get e2
        refine ite_f (decf (by omega)) ⟨by omega, by show (i : Int) < (long.n : Int); omega, ldL_of0 hA1' ⟨by omega, by omega, _, ha4, ?_⟩⟩
        rw [Int.toNat_natCast]
        exact ⟨_, _, _, hA4, _, _, _, ldA_full bm, hJ _ _ ⟨eq3 _ _ _, rfl⟩⟩

open Classical in
/-- The error and the symbols. -/
noncomputable def syR (B : List Int) (pred : Int) : Int × List Sy := if mayB B then (if 11 < bln (B.getD 0 0 - pred).natAbs then (60, []) else (0, syF B pred)) else (3, [])
theorem syR_len {B : List Int} {pred : Int} (hB : B.length = 64) : (syR B pred).2.length ≤ 64 := by
  have := syF_len (pred := pred) hB
  unfold syR
  split
  · split
    · simp
    · exact this.2
  · simp
section
variable {H : Hp} {B : Ints 64} {pred : Int}
theorem Symbols_x {Q : Sl × Int → Hp → Prop} (hp : -32768 ≤ pred ∧ pred ≤ 32767) (h : ∀ t H', Own H' 42 3 t ((syR B.1 pred).2.flatMap cS) → Keep H H' → (∀ b ∈ fp t, H.size ≤ b) → Q (t, (syR B.1 pred).1) H') : runs_Symbols.s B pred H Q := by
  unfold syR at h
  refine Symbols_ok hp (fun h0 H' k => ?_) (fun h0 h1 H' k => ?_) fun h0 h1 t H' o k f => ?_
  · rw [if_neg h0] at h
    exact h _ H' (Own.nil _ _ _) k (by simp [fp])
  · rw [if_pos h0, if_pos h1] at h
    exact h _ H' (Own.nil _ _ _) k (by simp [fp])
  · rw [if_pos h0, if_neg (by omega)] at h
    exact h t H' o k f
theorem rSymbols_x {Q : Sl × Int → Hp → Prop} (hp : -32768 ≤ pred ∧ pred ≤ 32767) (h : ∀ t H', Own H' 42 3 t ((syR B.1 pred).2.flatMap cS) → Keep H H' → (∀ b ∈ fp t, H.size ≤ b) → Q (t, (syR B.1 pred).1) H') : mosaicref07_Symbols.s B pred H Q := by
  unfold syR at h
  refine rSymbols_ok hp (fun h0 H' k => ?_) (fun h0 h1 H' k => ?_) fun h0 h1 t H' o k f => ?_
  · rw [if_neg h0] at h
    exact h _ H' (Own.nil _ _ _) k (by simp [fp])
  · rw [if_pos h0, if_pos h1] at h
    exact h _ H' (Own.nil _ _ _) k (by simp [fp])
  · rw [if_pos h0, if_neg (by omega)] at h
    exact h t H' o k f
end
set_option maxHeartbeats 1000000 in
theorem RunsSymbols_row (B : Ints 64) (p : Int) (C : Ints 64) (q : Int) (W : World) (hB : ∀ v ∈ B.1, -32768 ≤ v ∧ v ≤ 32767) (hp : -32768 ≤ p ∧ p ≤ 32767) (hC : ∀ v ∈ C.1, -32768 ≤ v ∧ v ≤ 32767) (hq : -32768 ≤ q ∧ q ≤ 32767) :
    mosaiclaw07_RunsSymbols.s B p C q W.heap (fun r H' => r = true ∧ Keep W.heap H') := by
  unfold mosaiclaw07_RunsSymbols.s
  intro b1 H2 c2 g1 g1' b3 H4 c4 g3 g3'
  have k4 : Keep W.heap H4 := (c2.keep (by simp)).trans (c4.keep (by simp))
  have y2 := c2.size
  have y4 := c4.size
  refine rSymbols_x hp fun t H6 oT k6 fT => ⟨Pv.keep k6 (by simp; omega), rSymbols_x hq fun u H9 oU k9 fU => ⟨Pv.keep k9 (by have := k6.size; simp; omega), ?_⟩⟩
  have y6 := k6.size
  have y9 := k9.size
  have lT := oT.fp_lt
  have lU := oU.fp_lt
  have oT9 := oT.kp k9
  have k9W := (k4.trans k6).trans k9
  generalize hA : syR B.1 p = RA at oT oT9
  generalize hD : syR C.1 q = RD at oU
  have lA : RA.2.length ≤ 64 := by rw [← hA]; exact syR_len B.2
  have lD : RD.2.length ≤ 64 := by rw [← hD]; exact syR_len C.2
  let X : Nat → List Sy := fun j => if j = 2 ∨ j = 3 then RD.2 else RA.2
  let Wl : Nat → Sl := fun j => if j = 2 ∨ j = 3 then u else t
  have hp3 : ∀ {A B : Hp} {G : List Nat}, Ch G A B → (∀ b ∈ G, H9.size ≤ b) → H9.size ≤ A.size → Pv [b1, b3] A B := fun {A B G} cc hG hA => Pv.ch cc fun b hb => ⟨by simp at hb; omega, fun hh => by have := hG b hh; simp at hb; omega⟩
  refine Fix.intro (fun (x : Sl × Sl × Int) H' => ∃ (i : Nat) (gs ws : List Sl), x.2.2 = (i : Int) ∧ i ≤ 6 ∧ gs.length = i ∧ ws.length = i ∧ Own H' 25 1 x.1 (gs.flatMap cL) ∧ Own H' 25 1 x.2.1 (ws.flatMap cL) ∧ (∀ (j : Nat) (s : Sl), gs[j]? = some s → Own H' 42 3 s ((X j).flatMap cS)) ∧ (∀ (j : Nat) (s : Sl), ws[j]? = some s → s = Wl j) ∧
      (∀ (j j' : Nat) (s s' : Sl), j ≠ j' → gs[j]? = some s → gs[j']? = some s' → ∀ b ∈ fp s, b ∉ fp s') ∧ (∀ b ∈ gs.flatMap fp, b ∉ fp x.1 ∧ b ∉ fp x.2.1) ∧ (∀ b ∈ fp x.1, b ∉ fp x.2.1) ∧ (∀ b ∈ gs.flatMap fp ++ (fp x.1 ++ fp x.2.1), H9.size ≤ b) ∧ Keep H9 H') (fun x _ => 6 - x.2.2.toNat)
    ⟨0, [], [], rfl, by omega, rfl, rfl, Own.nil _ _ _, Own.nil _ _ _, by simp, by simp, by simp, by simp, by simp [fp], by simp [fp], Keep.refl _⟩ ?_
  rintro ⟨G, V, _⟩ H14 ⟨i, gs, ws, rfl, hi, hgl, hwl, oG, oV, hg, hw, dj, d2, d3, lo, k14⟩ rec hrec
  simp only at oG oV d2 d3 lo ⊢
  have y14 := k14.size
  by_cases h6 : i < 6
  rotate_left
  · obtain rfl : i = 6 := by omega
    refine ite_f (decf (by omega)) ?_
    have lG := oG.fp_lt
    refine apart_ok (X := X) (oG.view cL_len (by omega)) (oV.view cL_len (by omega)) (by omega) (by omega) hg (fun j s hs => ?_) dj (fun b hb => d2 b hb) (fun b hb j s hs hh => ?_) lG (fun j hj => ?_) fun H52 c52 => ⟨?_, ?_⟩
    · rw [hw j s hs]
      show SlV H14 (if j = 2 ∨ j = 3 then u else t) 3 cS (if j = 2 ∨ j = 3 then RD.2 else RA.2)
      split
      · exact (oU.kp k14).view cS_len (by omega)
      · exact (oT9.kp k14).view cS_len (by omega)
    · rw [hw j s hs] at hh
      have := lo b (by simp [List.mem_append]; exact .inl (by simpa using hb))
      have h2 : b < H9.size := by
        have : b ∈ fp (if j = 2 ∨ j = 3 then u else t) := hh
        split at this
        · exact lU b this
        · have := lT b this; omega
      omega
    · show (if j = 2 ∨ j = 3 then RD.2 else RA.2).length ≤ 1000000
      split <;> omega
    · refine Pv.ch c52 fun b hb => ⟨by simp at hb; omega, fun hh => ?_⟩
      have := lo b (by simp [List.mem_append]; exact .inl (by simpa using hh))
      simp at hb; omega
    · have hFl : ∀ b ∈ gs.flatMap fp, H9.size ≤ b := fun b hb => lo b (by simp [List.mem_append]; exact .inl (by simpa using hb))
      have k52 : Keep H9 H52 := (k14.ch (F := [])).trans c52 (fun b hb => .inr (hFl b hb)) |>.keep (by simp)
      refine Symbols_x hp fun t' H55 o55 k55 _ => ?_
      rw [hA] at o55 ⊢
      refine ite_t rfl (ite_t (beqi rfl) (rSame_ok7 (o55.view cS_len (by omega)) ((oT9.kp (k52.trans k55)).view cS_len (by omega)) (by omega) fun r hr => ⟨hr.2 rfl, (k9W.trans k52).trans k55⟩))
  refine ite_t (dect (by omega)) ?_
  intro b17 H19 c19 g17 g17' hb17
  have k19 : Keep H14 H19 := c19.keep (by simp)
  have y19 := k19.size
  refine Join.intro (fun (x : Int × Sl × Int) H' => x = (if i = 2 ∨ i = 3 then (q, u, RD.1) else (p, t, RA.1)) ∧ Bk H' b17 24 (c24 (if i = 2 ∨ i = 3 then C else B)) ∧ Keep H14 H') ?_ fun J hJ => ?_
  rotate_left
  · refine Join.intro (fun b H' => b = decide (i = 2 ∨ i = 3) ∧ H19 = H') ?_ fun J2 hJ2 => ?_
    rotate_left
    · by_cases h2 : i = 2
      · exact ite_t (beqi (by omega)) (hJ2 _ _ ⟨(dect (.inl h2)).symm, rfl⟩)
      · refine ite_f (beqf (by omega)) (hJ2 _ _ ⟨?_, rfl⟩)
        by_cases h3 : i = 3
        · exact (beqi (by omega)).trans (dect (.inr h3)).symm
        · exact (beqf (by omega)).trans (decf (by omega)).symm
    rintro _ _ ⟨rfl, rfl⟩
    by_cases h23 : i = 2 ∨ i = 3
    · refine ite_t (dect h23) (stA_full hb17 (by rw [ints_length, ints_length, B.2, C.2]) fun H49 b49 s49 => ⟨fun j hj => s49.block j (by simp at hj; omega), hJ _ _ ⟨?_, ?_, k19.same s49 g17⟩⟩)
      · rw [if_pos h23]
      · rw [if_pos h23]; exact b49
    · refine ite_f (decf h23) (hJ _ _ ⟨?_, ?_, k19⟩)
      · rw [if_neg h23]
      · rw [if_neg h23]; exact hb17
  rintro _ H22 ⟨rfl, b22, k22⟩
  have y22 := k22.size
  -- the program's symbols of this round
  have sy : ∀ {Q : Sl × Int → Hp → Prop}, (∀ s H', Own H' 42 3 s ((X i).flatMap cS) → Keep H22 H' → (∀ b ∈ fp s, H22.size ≤ b) → Q (s, (if i = 2 ∨ i = 3 then RD.1 else RA.1)) H') → runs_Symbols.s (if i = 2 ∨ i = 3 then C else B) (if i = 2 ∨ i = 3 then (q, u, RD.1) else (p, t, RA.1)).1 H22 Q := by
    intro Q h
    have hXi : X i = if i = 2 ∨ i = 3 then RD.2 else RA.2 := rfl
    rw [hXi] at h
    by_cases h23 : i = 2 ∨ i = 3
    · simp only [if_pos h23] at h ⊢
      exact Symbols_x hq (by rw [hD]; exact h)
    · simp only [if_neg h23] at h ⊢
      exact Symbols_x hp (by rw [hA]; exact h)
  refine ⟨_, ldA_full b22, sy fun s H26 o26 k26 f26 => ⟨Pv.keep k26 (by simp; omega), ite_f (bnei (by split <;> rfl)) ?_⟩⟩
  have y26 := k26.size
  have k26' : Keep H14 H26 := k22.trans k26
  have hwi : (if i = 2 ∨ i = 3 then (q, u, RD.1) else (p, t, RA.1)).2.1 = Wl i := by show _ = (if i = 2 ∨ i = 3 then u else t); split <;> rfl
  rw [hwi]
  have lG := oG.fp_lt
  have lV := oV.fp_lt
  have ls := o26.fp_lt
  have hgs : ∀ b ∈ gs.flatMap fp, b < H14.size := fun b hb => by
    obtain ⟨s', hs', hb⟩ := List.mem_flatMap.1 hb
    obtain ⟨j, hj⟩ := List.mem_iff_getElem?.1 hs'
    exact (hg j s' hj).fp_lt b hb
  have loG : ∀ b ∈ fp G, H9.size ≤ b := fun b hb => lo b (by simp [hb])
  have loV : ∀ b ∈ fp V, H9.size ≤ b := fun b hb => lo b (by simp [hb])
  have log : ∀ b ∈ gs.flatMap fp, H9.size ≤ b := fun b hb => lo b (List.mem_append_left _ hb)
  refine nw_i fun H29 b29 k29 z29 => ⟨Pv.keep k29 (by simp; omega), ?_⟩
  refine apS_list (f := cL) (ys := [s]) ((oG.kp k26').kp k29) cL_len cL_ones rfl (by omega) rfl (by simp; omega) (by omega) fun G' H35 oG' cG fG => ⟨hp3 cG loG (by omega), ?_⟩
  have y35 := cG.size
  refine nw_i fun H38 b38 k38 z38 => ⟨Pv.keep k38 (by simp; omega), ?_⟩
  have y38 := k38.size
  have oV35 := (((oV.kp k26').kp k29).ch cG fun b hb hh => d3 b hh hb).kp k38
  refine apS_list (f := cL) (ys := [Wl i]) oV35 cL_len cL_ones rfl (by omega) rfl (by simp; omega) (by omega) fun V' H44 oV' cV fV => ⟨hp3 cV loV (by omega), ?_⟩
  have y44 := cV.size
  have kk : Keep H9 H44 := ((((k14.trans k26').trans k29).ch (F := [])).trans cG (fun b hb => .inr (loG b hb)) |>.keep (by simp)).trans k38 |>.ch (F := []) |>.trans cV (fun b hb => .inr (loV b hb)) |>.keep (by simp)
  -- a list of its own stays
  have mv : ∀ {s' : Sl} {xs : List Sy}, Own H26 42 3 s' (xs.flatMap cS) → (∀ b ∈ fp s', b ∉ fp G ∧ b ∉ fp V) → Own H44 42 3 s' (xs.flatMap cS) := fun {s' xs} o h => (((o.kp k29).ch cG fun b hb => (h b hb).1).kp k38).ch cV fun b hb => (h b hb).2
  have sGV : ∀ b ∈ fp s, b ∉ fp G ∧ b ∉ fp V := fun b hb => ⟨fun hh => by have := f26 b hb; have := lG b hh; omega, fun hh => by have := f26 b hb; have := lV b hh; omega⟩
  rw [show (i : Int) + 1 = ((i + 1 : Nat) : Int) from by omega, w64n (by omega)]
  have memg : ∀ b ∈ (gs ++ [s]).flatMap fp, b ∈ gs.flatMap fp ∨ b ∈ fp s := fun b hb => by
    rw [List.flatMap_append] at hb
    rcases List.mem_append.1 hb with h | h
    · exact .inl h
    · exact .inr (by simpa using h)
  refine hrec _ _ ⟨i + 1, gs ++ [s], ws ++ [Wl i], rfl, by omega, by simp [hgl], by simp [hwl], ((oG'.kp k38).ch cV fun b hb hh => ?_), oV', fun j s' hj => ?_, fun j s' hj => ?_, fun j j' s1 s2 hjj h1 h2 b hb hh => ?_, fun b hb => ⟨fun hh => ?_, fun hh => ?_⟩, fun b hb hh => ?_, fun b hb => ?_, kk⟩ (by simp; omega)
  · rcases fG b hb with h | h
    · exact d3 b h hh
    · have := lV b hh; omega
  · by_cases hjl : j < gs.length
    · rw [List.getElem?_append_left hjl] at hj
      exact mv ((hg j s' hj).kp k26') fun b hb => d2 b (mem_all hj b hb)
    · rw [List.getElem?_append_right (by omega)] at hj
      have hj0 := (List.getElem?_eq_some_iff.1 hj).1
      simp at hj0
      obtain rfl : j = i := by omega
      rw [hgl, Nat.sub_self] at hj
      simp at hj
      subst hj
      exact mv o26 sGV
  · by_cases hjl : j < ws.length
    · rw [List.getElem?_append_left hjl] at hj
      exact hw j s' hj
    · rw [List.getElem?_append_right (by omega)] at hj
      have hj0 := (List.getElem?_eq_some_iff.1 hj).1
      simp at hj0
      obtain rfl : j = i := by omega
      rw [hwl, Nat.sub_self] at hj
      simp at hj
      exact hj.symm
  · by_cases hjl : j < gs.length
    · rw [List.getElem?_append_left hjl] at h1
      by_cases hjl' : j' < gs.length
      · rw [List.getElem?_append_left hjl'] at h2
        exact dj j j' s1 s2 hjj h1 h2 b hb hh
      · rw [List.getElem?_append_right (by omega)] at h2
        have hj0 := (List.getElem?_eq_some_iff.1 h2).1
        simp at hj0
        rw [show j' - gs.length = 0 from by omega] at h2
        simp at h2
        subst h2
        have := hgs b (mem_all h1 b hb)
        have := f26 b hh
        omega
    · rw [List.getElem?_append_right (by omega)] at h1
      have hj0 := (List.getElem?_eq_some_iff.1 h1).1
      simp at hj0
      rw [show j - gs.length = 0 from by omega] at h1
      simp at h1
      subst h1
      have hjl' : j' < gs.length := by
        have := (List.getElem?_eq_some_iff.1 h2).1
        simp at this
        omega
      rw [List.getElem?_append_left hjl'] at h2
      have := hgs b (mem_all h2 b hh)
      have := f26 b hb
      omega
  · rcases memg b hb with h | h
    · rcases fG b hh with h' | h'
      · exact (d2 b h).1 h'
      · have := hgs b h; omega
    · rcases fG b hh with h' | h'
      · exact (sGV b h).1 h'
      · have := ls b h; omega
  · rcases memg b hb with h | h
    · rcases fV b hh with h' | h'
      · exact (d2 b h).2 h'
      · have := hgs b h; omega
    · rcases fV b hh with h' | h'
      · exact (sGV b h).2 h'
      · have := ls b h; omega
  · have hbl : b < H35.size := oG'.fp_lt b hb
    rcases fV b hh with h' | h'
    · rcases fG b hb with h | h
      · exact d3 b h h'
      · have := lV b h'; omega
    · omega
  · rcases List.mem_append.1 hb with hb | hb
    · rcases memg b hb with h | h
      · exact log b h
      · have := f26 b h; omega
    · rcases List.mem_append.1 hb with hb | hb
      · rcases fG b hb with h | h
        · exact loG b h
        · omega
      · rcases fV b hb with h | h
        · exact loV b h
        · omega
end Go.Proofs.Ythblohaffipkhaa.G
