/- Layer 14: GeomWalk. -/
import Derived.Test.YtlonijlcddlhjaaZ14l
import Derived.Test.YtlonijlcddlhjaaZ14t
import Derived.Test.YtlonijlcddlhjaaKGeomWalk
namespace Go.Proofs.Ytlonijlcddlhjaa.G
open Go.RowKit
set_option linter.unusedVariables false
set_option linter.unusedSimpArgs false

section
variable {w h g : Int} {s t : Sl} {cs : List Cp} {ps : List Pa} {H : Hp}
theorem walk_snoc (f m : Nat) : walkL w h cs ps f (m + 1) = walkL w h cs ps f m ++ unitL w h cs ps (((f + m : Nat) : Int) % (Uni w h cs ps).1) (((f + m : Nat) : Int) / (Uni w h cs ps).1) := rfl
theorem rWalk_ok {first units : Int} {Q : Sl → Hp → Prop} (hs : Cs H s cs) (hok : ∀ c ∈ cs, c.ok) (hl : cs.length ≤ 140737488355328) (ht : Ps H t ps) (hpk : ∀ p ∈ ps, p.ok)
    (h1 : -9223372036854775808 ≤ first ∧ first ≤ 9223372036854775807) (h2 : -9223372036854775808 ≤ units ∧ units ≤ 9223372036854775807)
    (hQ : ∀ l H', Own H' 50 5 l ((walkL w h cs ps (wFst first ((Uni w h cs ps).1 * (Uni w h cs ps).2)).toNat ((wEnd first units ((Uni w h cs ps).1 * (Uni w h cs ps).2)).toNat - (wFst first ((Uni w h cs ps).1 * (Uni w h cs ps).2)).toNat)).flatMap cSp) → Keep H H' → (∀ b ∈ fp l, H.size ≤ b) → Q l H') : mosaicref14_Walk.s g w h s t first units H Q := by
  obtain ⟨u0, u1, u2, u3, u4, u5⟩ := wU_le h1 h2
  obtain ⟨a0, a1⟩ := uni_area (w := w) (h := h) (cs := cs) (ps := ps)
  obtain ⟨⟨ux0, ux1⟩, uy0, uy1⟩ := uni_le (w := w) (h := h) (cs := cs) (ps := ps)
  obtain ⟨r0, r1, r2, r3⟩ := wE_le (first := first) (units := units) a0 u2 u4
  have wiff := fun (u : Int) hu => wE_iff (first := first) (units := units) (T := (Uni w h cs ps).1 * (Uni w h cs ps).2) (u := u) a0 hu
  unfold mosaicref14_Walk.s
  intro b1 H2 c2 g1 g1'
  have k2 : Keep H H2 := c2.keep (by simp)
  have y2 := k2.size
  refine rUnits_ok (hs.keep k2) hok hl (ht.keep k2) hpk fun H4 k4 => ⟨Pv.keep k4 (by simp; omega), ?_⟩
  have y4 := k4.size
  have hTdef : (Uni w h cs ps).1 * (Uni w h cs ps).2 = (Uni w h cs ps).1 * (Uni w h cs ps).2 := rfl
  generalize hT : (Uni w h cs ps).1 * (Uni w h cs ps).2 = T at *
  generalize hf : wFst first T = f at *
  generalize he : wEnd first units T = e at *
  rw [w64 (x := T) (by omega)]
  refine Join.intro (fun b H' => b = decide ((Uni w h cs ps).1 = 0 ∨ units ≤ 0) ∧ H4 = H') ?_ fun J hJ => ?_
  rotate_left
  · by_cases g1 : (Uni w h cs ps).1 = 0
    · exact ite_t (beqi g1) (hJ _ _ ⟨(dect (.inl g1)).symm, rfl⟩)
    · refine ite_f (beqf g1) (hJ _ _ ⟨?_, rfl⟩)
      by_cases g2 : units ≤ 0
      · rw [dect g2, dect (.inr g2)]
      · rw [decf g2, decf (by omega)]
  rintro _ _ ⟨rfl, rfl⟩
  have kA := k2.trans k4
  by_cases hz : (Uni w h cs ps).1 = 0 ∨ units ≤ 0
  · refine ite_t (dect hz) (hQ _ _ ?_ kA (by simp [fp]))
    have : e.toNat - f.toNat = 0 := by
      rcases hz with hz | hz
      · rw [hz, Int.zero_mul] at hT
        omega
      · have : ¬ (0 ≤ f ∧ f < e) := fun hh => by
          have := (wiff f (by omega)).1 ⟨by omega, hh.2⟩
          omega
        omega
    rw [this]
    exact Own.nil _ _ _
  have hP := uni_has (fun hh => hz (.inl hh))
  refine ite_f (decf hz) ?_
  have wl10 : ∀ m, (walkL w h cs ps f.toNat m).length ≤ m * 10 := fun m => by rw [walk_len hP]; exact Nat.mul_le_mul_left _ (each_le hP).2
  refine Fix.intro (fun (x : Sl × Int) H' => ∃ u : Nat, x.2 = (u : Int) ∧ (u : Int) ≤ T ∧ Own H' 50 5 x.1 ((walkL w h cs ps f.toNat (min u e.toNat - f.toNat)).flatMap cSp) ∧ Keep H H' ∧ H2.size ≤ H'.size ∧ ∀ b ∈ fp x.1, H2.size ≤ b) (fun x _ => T.toNat - x.2.toNat)
    ⟨0, rfl, by omega, by rw [show min 0 e.toNat - f.toNat = 0 from by omega]; exact Own.nil _ _ _, kA, y4, by simp [fp]⟩ ?_
  rintro ⟨l, _⟩ H12 ⟨u, rfl, hu, o12, k12, z12, f12⟩ rec hrec
  simp only at o12 f12 ⊢
  by_cases huT : (u : Int) < T
  rotate_left
  · refine ite_f (decf huT) (hQ _ _ ?_ k12 fun b hb => by have := f12 b hb; omega)
    rw [show min u e.toNat = e.toNat from by omega] at o12
    exact o12
  refine ite_t (dect huT) (Join.intro (fun (t' : Sl) H' => Own H' 50 5 t' ((walkL w h cs ps f.toNat (min (u + 1) e.toNat - f.toNat)).flatMap cSp) ∧ Keep H H' ∧ H2.size ≤ H'.size ∧ ∀ b ∈ fp t', H2.size ≤ b) ?_ fun J hJ => ?_)
  · rintro t' H17 ⟨o17, k17, z17, f17⟩
    rw [show (u : Int) + 1 = ((u + 1 : Nat) : Int) from by omega, w64 (by omega)]
    exact hrec _ _ ⟨u + 1, rfl, by omega, o17, k17, z17, f17⟩ (by simp; omega)
  have wi := wiff u ⟨by omega, huT⟩
  refine Join.intro (fun b H' => b = decide (f ≤ u ∧ (u : Int) < e) ∧ H12 = H') ?_ fun J2 hJ2 => ?_
  rotate_left
  · by_cases q1 : first ≤ (u : Int)
    · refine ite_t (dect q1) ?_
      have second : ∀ {H' : Hp}, H12 = H' → ¬ (0 ≤ first ∧ (u : Int) - first < units) → if decide (first < 0) = true then J2 (decide ((u : Int) < IntKind.wrap .i64 (units + first))) H' else J2 false H' := fun {H'} hH q => by
        by_cases q3 : first < 0
        · refine ite_t (dect q3) (hJ2 _ _ ⟨?_, hH⟩)
          rw [w64 (x := units + first) (by omega)]
          by_cases q4 : (u : Int) < units + first
          · rw [dect q4, dect (wi.2 ⟨by omega, q1, .inr ⟨q3, q4⟩⟩)]
          · rw [decf q4, decf (fun hh => by have := wi.1 hh; omega)]
        · exact ite_f (decf q3) (hJ2 _ _ ⟨(decf (fun hh => by have := wi.1 hh; omega)).symm, hH⟩)
      by_cases q2 : 0 ≤ first
      · refine ite_t (dect q2) ?_
        rw [w64 (x := (u : Int) - first) (by omega)]
        by_cases q3 : (u : Int) - first < units
        · exact ite_t (dect q3) (hJ2 _ _ ⟨(dect (wi.2 ⟨by omega, q1, .inl ⟨q2, q3⟩⟩)).symm, rfl⟩)
        · exact ite_f (decf q3) (second rfl (by omega))
      · exact ite_f (decf q2) (second rfl (by omega))
    · exact ite_f (decf q1) (hJ2 _ _ ⟨(decf (fun hh => by have := wi.1 hh; omega)).symm, rfl⟩)
  rintro _ _ ⟨rfl, rfl⟩
  by_cases hin : f ≤ (u : Int) ∧ (u : Int) < e
  rotate_left
  · refine ite_f (decf hin) (hJ _ _ ⟨?_, k12, z12, f12⟩)
    have e1 : min (u + 1) e.toNat - f.toNat = min u e.toNat - f.toNat := by omega
    rw [e1]
    exact o12
  have hx0 : (Uni w h cs ps).1 ≠ 0 := fun hh => hz (.inl hh)
  have em : Int.tmod (u : Int) (Uni w h cs ps).1 = (u : Int) % (Uni w h cs ps).1 := Int.tmod_eq_emod_of_nonneg (by omega)
  have ed : Int.tdiv (u : Int) (Uni w h cs ps).1 = (u : Int) / (Uni w h cs ps).1 := Int.tdiv_eq_ediv_of_nonneg (by omega)
  have m0 := Int.emod_nonneg (u : Int) hx0
  have m1 := Int.emod_lt_of_pos (u : Int) (b := (Uni w h cs ps).1) (by omega)
  have q0 : 0 ≤ (u : Int) / (Uni w h cs ps).1 := Int.ediv_nonneg (by omega) (by omega)
  have q1 : (u : Int) / (Uni w h cs ps).1 < (Uni w h cs ps).2 := Int.ediv_lt_of_lt_mul (by omega) (by rw [Int.mul_comm, hT]; omega)
  refine ite_t (dect hin) ⟨hx0, hx0, ?_⟩
  rw [em, ed, w64 (by omega)]
  refine rUnit_ok (hs.keep k12) hok (ht.keep k12) hP (by omega) (by omega) fun l25 H26 o26 k26 f26 => ⟨Pv.keep k26 (by simp; omega), ?_⟩
  have y26 := k26.size
  have v26 := (o26.view cSp_len (by omega)).cells cSp_len cSp_ones
  have w10 := wl10 (min (u + 1) e.toNat - f.toNat)
  have e1 : min (u + 1) e.toNat - f.toNat = (min u e.toNat - f.toNat) + 1 := by omega
  have e2 : f.toNat + (min u e.toNat - f.toNat) = u := by omega
  rw [e1, walk_snoc, e2, List.length_append] at w10
  refine ⟨_, v26.1, v26.2, apS_list (o12.kp k26) cSp_len cSp_ones rfl (by omega) (o26.count cSp_len (by omega)) (by omega) (by omega) fun l29 H30 o30 c30 f30 => ⟨Pv.ch c30 (by simp; exact ⟨by omega, fun hh => by have := f12 _ hh; omega⟩), hJ _ _ ⟨?_, ?_, by have := c30.size; omega, fun b hb => ?_⟩⟩⟩
  · rw [e1, walk_snoc, e2]
    exact o30
  · exact ((k12.trans k26).ch (F := [])).trans c30 (fun b hb => .inr (by have := f12 b hb; omega)) |>.keep (by simp)
  · rcases f30 b hb with q | q
    · exact f12 b q
    · omega
/-- What does not turn while the walks go: but for what was lent. -/
structure GW (W H : Hp) (g w h : Int) (s t : Sl) (first units most : Int) (cs : List Cp) (ps : List Pa) (WL : List Sp) (wl l m l8 m8 : Sl) (b1 b13 b32 p5 p40 p1 p3 p26 f e top : Nat) : Prop where
  f1 : Bk H b1 42 (c42 g w h s t first units most)
  f13 : Bk H b13 44 [.slice wl.a wl.n wl.c]
  own : Own H 50 5 wl (WL.flatMap cSp)
  oc : ∃ xs : List Cp, xs.length = cs.length + 1 ∧ Own H 23 4 l (xs.flatMap cC)
  om : ∃ xs : List Pa, xs.length = ps.length + 1 ∧ Own H 52 3 m (xs.flatMap cP)
  wb : WB H g w h l8 m8 cs ps p5 p40 p1 p3 p26 f e
  kp : Keep W H
  lt : ∀ b ∈ b1 :: b13 :: (fp wl ++ (fp l ++ (fp m ++ (p5 :: p40 :: p1 :: p3 :: p26 :: (fp l8 ++ fp m8))))), b < top ∧ b ≠ b32
  lo : W.size ≤ b32 ∧ W.size ≤ top
  tp : top ≤ H.size
theorem GW.ch {W H H' : Hp} {g w h : Int} {s t : Sl} {first units most : Int} {cs : List Cp} {ps : List Pa} {WL : List Sp} {wl l m l8 m8 : Sl} {b1 b13 b32 p5 p40 p1 p3 p26 f e top : Nat} {F : List Nat}
    (a : GW W H g w h s t first units most cs ps WL wl l m l8 m8 b1 b13 b32 p5 p40 p1 p3 p26 f e top) (c : Ch F H H') (hF : ∀ b ∈ F, b = b32 ∨ top ≤ b) : GW W H' g w h s t first units most cs ps WL wl l m l8 m8 b1 b13 b32 p5 p40 p1 p3 p26 f e top := by
  have lo := a.lo
  have nF : ∀ b ∈ b1 :: b13 :: (fp wl ++ (fp l ++ (fp m ++ (p5 :: p40 :: p1 :: p3 :: p26 :: (fp l8 ++ fp m8))))), b ∉ F := fun b hb hh => by have := a.lt b hb; have := hF b hh; omega
  obtain ⟨xs, x1, x2⟩ := a.oc
  obtain ⟨ys, y1, y2⟩ := a.om
  exact ⟨a.f1.ch c (nF _ (by simp)), a.f13.ch c (nF _ (by simp)), a.own.ch c fun b hb => nF b (by simp [hb]), ⟨xs, x1, x2.ch c fun b hb => nF b (by simp [hb])⟩, ⟨ys, y1, y2.ch c fun b hb => nF b (by simp [hb])⟩, a.wb.ch c fun b hb => nF b (List.mem_cons_of_mem _ (List.mem_cons_of_mem _ (List.mem_append_right _ (List.mem_append_right _ (List.mem_append_right _ hb))))),
    (a.kp.ch (F := [])).trans c (fun b hb => .inr (by have := hF b hb; omega)) |>.keep (by simp), a.lt, a.lo, by have := a.tp; have := c.size; omega⟩
end
set_option maxHeartbeats 2000000 in
theorem GeomWalk_row (g w h : Int) (s t : Sl) (first units most : Int) (W : World) (hg : 0 ≤ g ∧ g ≤ 255) (hw : -9223372036854775808 ≤ w ∧ w ≤ 9223372036854775807) (hh : -9223372036854775808 ≤ h ∧ h ≤ 9223372036854775807)
    (hs : SlH W.heap none 4 4 (X23 none W.heap) s) (ht : SlH W.heap none 16 3 (X52 none W.heap) t) (hF : -9223372036854775808 ≤ first ∧ first ≤ 9223372036854775807) (hU : -9223372036854775808 ≤ units ∧ units ≤ 9223372036854775807) (hM : -9223372036854775808 ≤ most ∧ most ≤ 9223372036854775807) :
    mosaiclaw14_GeomWalk.s g w h s t first units most W.heap (fun r H' => r = true ∧ Keep W.heap H') := by
  obtain ⟨cs, v0, hok, hl4⟩ := comps_view hs
  obtain ⟨ps, u0, hpk, hm4⟩ := parts_view ht
  have n0 := v0.n
  have n1 := u0.n
  unfold mosaiclaw14_GeomWalk.s mosaiclaw14_large.s
  intro b1 H2 c2 g1 g1' b3 H4 c4 g3 g3'
  have k4 : Keep W.heap H4 := (c2.keep (by simp)).trans (c4.keep (by simp))
  have y2 := c2.size
  have y4 := c4.size
  intro bl H5 c5 gl gl'
  have k5 : Keep H4 H5 := c5.keep (by simp)
  obtain ⟨a0, a1⟩ := uni_area (w := w) (h := h) (cs := cs) (ps := ps)
  refine rUnits_ok (v0.keep (k4.trans k5)) hok (by omega) (u0.keep (k4.trans k5)) hpk fun H6 k6 => ⟨Pv.keep (k5.trans k6) (by simp; omega), ?_⟩
  have k46 := k5.trans k6
  have y6 := k46.size
  have k6' := k4.trans k46
  obtain ⟨w0, w1, w2, w3, w4, w5⟩ := wU_le hF hU
  obtain ⟨e0, e1, e2, e3⟩ := wE_le (first := first) (units := units) a0 w2 w4
  rw [w64 (x := (Uni w h cs ps).1 * (Uni w h cs ps).2) (by omega)]
  by_cases hbig : 3000 < (Uni w h cs ps).1 * (Uni w h cs ps).2
  · exact ite_t (dect hbig) fun H8 c8 => ⟨rfl, (k6'.ch (F := [])).trans c8 (by simp; omega) |>.keep (by simp)⟩
  refine ite_f (decf hbig) (rWalk_ok (v0.keep k6') hok (by omega) (u0.keep k6') hpk hF hU fun wl H11 o11 k11 f11 => ⟨Pv.keep k11 (by simp; omega), ?_⟩)
  have y11 := k11.size
  generalize hf : (wFst first ((Uni w h cs ps).1 * (Uni w h cs ps).2)).toNat = f at o11
  generalize he : (wEnd first units ((Uni w h cs ps).1 * (Uni w h cs ps).2)).toNat = e at o11
  intro b13 H15 c15 g13 g13'
  have k15 : Keep H11 H15 := c15.keep (by simp)
  have y15 := k15.size
  have kB := (k6'.trans k11).trans k15
  refine lentO_ok (v0.keep kB) (u0.keep kB) hl4 hm4 fun l m H17 k17 ol om fl fm => ⟨Pv.keep k17 (by simp; omega), ?_⟩
  have y17 := k17.size
  intro b19 H21 c21 g19 g19'
  have k21 : Keep H17 H21 := c21.keep (by simp)
  have y21 := k21.size
  have ol21 := ol.kp k21
  have om21 := om.kp k21
  have vl := ol21.view cC_len (by omega)
  have vm := om21.view cP_len (by omega)
  have ln := vl.n
  have lc := vl.c
  have mn := vm.n
  have mc := vm.c
  simp at ln mn
  have vl' : Cs H21 (slS l 4 0 (s.n : Int)) cs := by
    have := vl.take (i := cs.length) (by simp)
    rw [← n0] at this
    rwa [n0, List.take_left' rfl, ← n0] at this
  have vm' : Ps H21 (slS m 3 0 (t.n : Int)) ps := by
    have := vm.take (i := ps.length) (by simp)
    rw [← n1] at this
    rwa [n1, List.take_left' rfl, ← n1] at this
  refine ⟨by omega, by show (t.n : Int) ≤ (m.c : Int); omega, ?_⟩
  refine Walk_ok vl' hok (by omega) vm' hpk (by omega) hF hU fun p5 p40 p1 p3 p26 l8 m8 H30 wb k30 lo => ⟨Pv.keep k30 (by simp; omega), ?_⟩
  rw [hf, he] at wb
  have y30 := k30.size
  intro b32 H34 c34 g32 g32' q1 q3 q13 q32
  have k34 : Keep H30 H34 := c34.keep (by simp)
  have y34 := k34.size
  have kC : Keep W.heap H34 := (((kB.trans k17).trans k21).trans k30).trans k34
  have lwl := o11.fp_lt
  have ll := ol.fp_lt
  have lm := om.fp_lt
  have wlts := wb.lts
  have hblk : ∀ b ∈ b1 :: b13 :: (fp wl ++ (fp l ++ (fp m ++ (p5 :: p40 :: p1 :: p3 :: p26 :: (fp l8 ++ fp m8))))), b < H30.size := fun b hb => by
    rcases List.mem_cons.1 hb with rfl | hb
    · omega
    rcases List.mem_cons.1 hb with rfl | hb
    · omega
    rcases List.mem_append.1 hb with hb | hb
    · have := lwl b hb; omega
    rcases List.mem_append.1 hb with hb | hb
    · have := ll b hb; omega
    rcases List.mem_append.1 hb with hb | hb
    · have := lm b hb; omega
    exact wlts b hb
  generalize hWL : walkL w h cs ps f (e - f) = WL at o11
  have hWn : WL.length ≤ 1000000 := by
    by_cases hz : Prt w h cs ps = 0
    · rw [← hWL, walk_len hz]
      have := Nat.mul_le_mul (show e - f ≤ 3000 by omega) (each_le hz).2
      omega
    · have : e - f = 0 := by
        have hz0 : (Uni w h cs ps).1 * (Uni w h cs ps).2 = 0 := by rw [uni_no hz]; rfl
        omega
      rw [← hWL, this]
      simp [walkL, cat]
  have gw : GW W.heap H34 g w h s t first units most cs ps WL wl l m l8 m8 b1 b13 b32 p5 p40 p1 p3 p26 f e H34.size :=
    ⟨q1, q13, ((((o11.kp k15).kp k17).kp k21).kp k30).kp k34, ⟨_, by simp, (ol21.kp k30).kp k34⟩, ⟨_, by simp, (om21.kp k30).kp k34⟩, wb.keep k34, kC, fun b hb => by have := hblk b hb; omega, by have := kC.size; omega, Nat.le_refl _⟩
  have hb3 : W.heap.size ≤ b3 ∧ b3 < H34.size ∧ b3 ≠ b32 := by omega
  have hb3F : ∀ b ∈ b1 :: b13 :: (fp wl ++ (fp l ++ (fp m ++ (p5 :: p40 :: p1 :: p3 :: p26 :: (fp l8 ++ fp m8))))), b ≠ b3 := fun b hb => by
    rcases List.mem_cons.1 hb with rfl | hb
    · omega
    rcases List.mem_cons.1 hb with rfl | hb
    · omega
    rcases List.mem_append.1 hb with hb | hb
    · have := f11 b hb; omega
    rcases List.mem_append.1 hb with hb | hb
    · have := fl b hb; omega
    rcases List.mem_append.1 hb with hb | hb
    · have := fm b hb; omega
    have := lo b hb; omega
  -- the views of what was lent, before it is written over
  have views : ∀ {A : Hp}, Keep H21 A → SlV A l 4 cC (cs ++ [⟨77, 9, 0, 0⟩]) ∧ SlV A m 3 cP (ps ++ [⟨-7, 0, 0⟩]) := fun {A} k => ⟨vl.keep k, vm.keep k⟩
  have mostC : ∀ {A : Hp} {K : Int → Prop}, GW W.heap A g w h s t first units most cs ps WL wl l m l8 m8 b1 b13 b32 p5 p40 p1 p3 p26 f e H34.size → K most → ldI .i64 A (⟨b1, 7, none⟩ : Addr) K := fun {A K} a hK => ldI_i a.f1 rfl hK
  have hfe : f ≤ e := by omega
  have heT : (e : Int) ≤ (Uni w h cs ps).1 * (Uni w h cs ps).2 := by omega
  -- one comparison
  have cmp : ∀ {A : Hp} {i : Nat} {x : Sp} {J : Bool → Hp → Prop}, GW W.heap A g w h s t first units most cs ps WL wl l m l8 m8 b1 b13 b32 p5 p40 p1 p3 p26 f e H34.size → Bk A b32 3 [.int .i64 (i : Int)] → WL[i]? = some x → J false A →
      ldI .i64 A (⟨b32, 0, none⟩ : Addr) (fun x170 => ldL A (⟨b13, 0, none⟩ : Addr) (fun x172 => if decide ((x172.n : Int) ≤ x170) = true then (J (true) A) else (ldL A (⟨b13, 0, none⟩ : Addr) (fun x175 => ldI .i64 A (⟨b32, 0, none⟩ : Addr) (fun x177 => 0 ≤ x177 ∧ x177 < (x175.n : Int) ∧ someA x175.a (fun p181 => ∃ x183 : Int, ∃ x184 : Int, ∃ x185 : Int, ∃ x186 : Int, ∃ x187 : Bool, ldA A (p181.add (Int.toNat x177 * 5)) (c50 x183 x184 x185 x186 x187) ∧ (J ((!((x.1 == x183) && ((x.2.1 == x184) && ((x.2.2.1 == x185) && ((x.2.2.2.1 == x186) && (x.2.2.2.2 == x187))))))) A))))))) := by
    intro A i x J a hb hx hJ
    have hv := a.own.view cSp_len (by omega)
    have hn := hv.n
    have hil := (List.getElem?_eq_some_iff.1 hx).1
    obtain ⟨ba, bo, ha, hA⟩ := hv.get hx
    refine ldI_i hb rfl (ldL_i a.f13 rfl (ite_f (decf (by omega)) (ldL_i a.f13 rfl (ldI_i hb rfl ⟨by omega, by omega, _, ha, ?_⟩))))
    rw [Int.toNat_natCast]
    refine ⟨_, _, _, _, _, hA, ?_⟩
    rw [eqSp]
    exact hJ
  -- after the first walk
  refine Join.intro (fun (Ds : List Nat) H' => GW W.heap H' g w h s t first units most cs ps WL wl l m l8 m8 b1 b13 b32 p5 p40 p1 p3 p26 f e H34.size ∧ Bk H' b3 4 [.bool false] ∧ (∃ v, Bk H' b32 3 [.int .i64 v]) ∧ Dfr Ds H' ∧ (∀ D ∈ Ds, H34.size ≤ D) ∧ Keep H21 H') ?_ fun J hJ => ?_
  · rintro Ds H37 ⟨gw37, d3, ⟨v32, d32⟩, dfr, hDs, k37⟩
    obtain ⟨vl37, vm37⟩ := views k37
    refine ⟨_, _, _, _, ldA_i gw37.f1 (xs := c26 g w h s) (fun j v hv => ?_), ldL_i gw37.f1 rfl (staysO_ok (v0.keep gw37.kp) (u0.keep gw37.kp) vl37 vm37 (by omega) (by omega) fun H46 k46 => ?_)⟩
    · rw [Nat.zero_add]
      have hj := (List.getElem?_eq_some_iff.1 hv).1
      have hj4 : j < 4 := hj
      match j, hj4, hv with
      | 0, _, hv => exact hv
      | 1, _, hv => exact hv
      | 2, _, hv => exact hv
      | 3, _, hv => exact hv
    have gw46 := gw37.ch (k46.ch (F := [])) (by simp)
    -- written over
    refine Fix.intro (fun (x : Int) H' => ∃ i : Nat, x = (i : Int) ∧ i ≤ cs.length + 1 ∧ GW W.heap H' g w h s t first units most cs ps WL wl l m l8 m8 b1 b13 b32 p5 p40 p1 p3 p26 f e H34.size ∧ Bk H' b3 4 [.bool false] ∧ Bk H' b32 3 [.int .i64 v32] ∧ Dfr Ds H') (fun x _ => cs.length + 1 - x.toNat) ⟨0, rfl, by omega, gw46, d3.keep k46, d32.keep k46, dfr.keep k46⟩ ?_
    rintro _ H50 ⟨i, rfl, hi, gw50, d350, d3250, dfr50⟩ rec hrec
    by_cases hil : i < cs.length + 1
    · obtain ⟨xs, x1, x2⟩ := gw50.oc
      refine ite_t (dect (by show (i : Int) < (l.n : Int); omega)) ⟨by omega, by show (i : Int) < (l.n : Int); omega, ?_⟩
      have := x2.setE (i := i) (y := ⟨IntKind.wrap .u8 (i : Int), 1, 1, 0⟩) cC_len (by omega) (by omega) (K := fun H57 => rec (IntKind.wrap .i64 ((i : Int) + 1)) H57) fun H57 o57 c57 z57 => ?_
      · rw [Int.toNat_natCast]; exact this
      rw [show (i : Int) + 1 = ((i + 1 : Nat) : Int) from by omega, w64 (by omega)]
      have hfl : ∀ b ∈ fp l, b < H34.size ∧ b ≠ b32 := fun b hb => gw50.lt b (by simp [hb])
      have hfl2 : ∀ b ∈ fp l, H15.size ≤ b ∧ b < H17.size := fun b hb => ⟨fl b hb, ll b hb⟩
      refine hrec _ _ ⟨i + 1, rfl, by omega, ?_, d350.ch c57 (fun hh => by have := fl _ hh; omega), d3250.ch c57 (fun hh => (hfl _ hh).2 rfl), Dfr.ch c57 dfr50 (fun D hD hh => by have := hDs D hD; have := hfl D hh; omega)⟩ (by simp; omega)
      obtain ⟨ys, y1, y2⟩ := gw50.om
      refine ⟨gw50.f1.ch c57 (fun hh => by have := fl _ hh; omega), gw50.f13.ch c57 (fun hh => by have := fl _ hh; omega), gw50.own.ch c57 (fun b hb hh => by have := lwl b hb; have := fl _ hh; omega), ⟨_, by simp [x1], o57⟩, ⟨ys, y1, y2.ch c57 fun b hb => (fm b hb).2⟩, gw50.wb.ch c57 (fun b hb hh => by have := lo b hb; have := hfl2 b hh; omega), ?_, gw50.lt, gw50.lo, by have := gw50.tp; omega⟩
      exact (gw50.kp.ch (F := [])).trans c57 (fun b hb => .inr (by have := fl _ hb; have := kB.size; omega)) |>.keep (by simp)
    refine ite_f (decf (by show ¬ (i : Int) < (l.n : Int); omega)) ?_
    clear hrec rec hil hi i
    refine Fix.intro (fun (x : Int) H' => ∃ i : Nat, x = (i : Int) ∧ i ≤ ps.length + 1 ∧ GW W.heap H' g w h s t first units most cs ps WL wl l m l8 m8 b1 b13 b32 p5 p40 p1 p3 p26 f e H34.size ∧ Bk H' b3 4 [.bool false] ∧ Bk H' b32 3 [.int .i64 v32] ∧ Dfr Ds H') (fun x _ => ps.length + 1 - x.toNat) ⟨0, rfl, by omega, gw50, d350, d3250, dfr50⟩ ?_
    rintro _ H61 ⟨i, rfl, hi, gw61, d361, d3261, dfr61⟩ rec hrec
    by_cases hil : i < ps.length + 1
    · obtain ⟨xs, x1, x2⟩ := gw61.om
      refine ite_t (dect (by show (i : Int) < (m.n : Int); omega)) ⟨by omega, by show (i : Int) < (m.n : Int); omega, ?_⟩
      have := x2.setE (i := i) (y := ⟨0, 0, 0⟩) cP_len (by omega) (by omega) (K := fun H57 => rec (IntKind.wrap .i64 ((i : Int) + 1)) H57) fun H57 o57 c57 z57 => ?_
      · rw [Int.toNat_natCast]; exact this
      rw [show (i : Int) + 1 = ((i + 1 : Nat) : Int) from by omega, w64 (by omega)]
      have hfl : ∀ b ∈ fp m, b < H34.size ∧ b ≠ b32 := fun b hb => gw61.lt b (by simp [hb])
      have hfl2 : ∀ b ∈ fp m, H15.size ≤ b ∧ b < H17.size := fun b hb => ⟨(fm b hb).1, lm b hb⟩
      refine hrec _ _ ⟨i + 1, rfl, by omega, ?_, d361.ch c57 (fun hh => by have := fm _ hh; omega), d3261.ch c57 (fun hh => (hfl _ hh).2 rfl), Dfr.ch c57 dfr61 (fun D hD hh => by have := hDs D hD; have := hfl D hh; omega)⟩ (by simp; omega)
      obtain ⟨ys, y1, y2⟩ := gw61.oc
      refine ⟨gw61.f1.ch c57 (fun hh => by have := fm _ hh; omega), gw61.f13.ch c57 (fun hh => by have := fm _ hh; omega), gw61.own.ch c57 (fun b hb hh => by have := lwl b hb; have := fm _ hh; omega), ⟨ys, y1, y2.ch c57 fun b hb hh => (fm b hh).2 hb⟩, ⟨_, by simp [x1], o57⟩, gw61.wb.ch c57 (fun b hb hh => by have := lo b hb; have := hfl2 b hh; omega), ?_, gw61.lt, gw61.lo, by have := gw61.tp; omega⟩
      exact (gw61.kp.ch (F := [])).trans c57 (fun b hb => .inr (by have := fm _ hb; have := kB.size; omega)) |>.keep (by simp)
    refine ite_f (decf (by show ¬ (i : Int) < (m.n : Int); omega)) (st_i d3261 (by simp) fun H69 b69 s69 => ?_)
    clear hrec rec hil hi i
    have gw69 := gw61.ch s69.ch (by simp)
    have d369 := d361.same s69 (by omega)
    have dfr69 : Dfr Ds H69 := Dfr.ch s69.ch dfr61 (fun D hD hh => by have := hDs D hD; simp at hh; omega)
    have z69 := b69.lt
    have zD := dfr69.lt
    have ztop := gw69.tp
    refine Rg_i fun rr H73 hrr k73 z73 hD hl => ?_
    have y73 := k73.size
    have gw73 := gw69.ch (k73.ch (F := [])) (by simp)
    have sq := walk_seq gw73.wb hok hfe heT (.func (.yield (H69.size + 1)) #[] #[])
    rw [hWL] at sq
    have lblk := gw73.lt
    refine sq _ _ (fun i G H' => G = [H69.size + 1, b32] ∧ GW W.heap H' g w h s t first units most cs ps WL wl l m l8 m8 b1 b13 b32 p5 p40 p1 p3 p26 f e H34.size ∧ Bk H' b3 4 [.bool false] ∧ Bk H' b32 3 [.int .i64 (i : Int)] ∧ Dfr (H69.size :: Ds) H' ∧ Lp H' (H69.size + 1) rr) (fun _ _ => False) [H69.size + 1, b32] ?_ ?_ ?_ ?_ ?_ ?_ ?_ ?_
    · intro b hb hh
      have := lblk b (List.mem_cons_of_mem _ (List.mem_cons_of_mem _ (List.mem_append_right _ (List.mem_append_right _ (List.mem_append_right _ hh)))))
      simp at hb; omega
    · exact ⟨rfl, gw73, d369.keep k73, b69.keep k73, ⟨hD, fun hh => by have := zD _ hh; omega, dfr69.keep k73⟩, hl⟩
    · rintro i G A B F ⟨rfl, a1, a2, a3, a4, a5⟩ kk hF
      have nF : ∀ {y}, y < H73.size → y ∉ F := fun {y} hy hh => by have := (hF y hh).1; omega
      refine ⟨rfl, a1.ch kk (fun b hb => .inr (by have := (hF b hb).1; omega)), a2.ch kk (nF (by omega)), a3.ch kk (nF (by omega)), Dfr.ch kk a4 (fun D hD => nF ?_), a5.ch kk (nF (by omega))⟩
      rcases List.mem_cons.1 hD with rfl | hD
      · omega
      · have := zD D hD; omega
    · exact fun _ _ _ _ hz => hz.elim
    · rintro i G A ⟨rfl, a1, a2, a3, a4, a5⟩ b hb
      have := a3.lt
      have := a5.lt
      simp at hb; omega
    · rintro i G x H76 K hx ⟨rfl, a1, a2, a3, a4, a5⟩ hT hZ
      have hil := (List.getElem?_eq_some_iff.1 hx).1
      refine ⟨a5, ?_⟩
      intro b79 H81 c81 g79 g79'
      have k81 : Keep H76 H81 := c81.keep (by simp)
      have y81 := k81.size
      have l81 := a5.ch c81 (by simp)
      have zl := a5.lt
      have z32 := a3.lt
      refine ⟨l81, Up_s l81 fun H82 s82 l82 => ⟨Pv.ch s82.ch (by simp; omega), ?_⟩⟩
      have y82 := s82.size
      have gw82 := (a1.ch (k81.ch (F := [])) (by simp)).ch s82.ch (by simp; omega)
      have b82 := (a3.keep k81).same s82 (by omega)
      refine Join.intro (fun b H' => b = false ∧ H82 = H') ?_ fun J hJ => cmp gw82 b82 hx (hJ _ _ ⟨rfl, rfl⟩)
      rintro _ _ ⟨rfl, rfl⟩
      refine ite_f rfl (ldI_i b82 rfl (st_i b82 (by simp) fun H90 b90 s90 => ?_))
      have l90 := l82.ch s90.ch (by simp; omega)
      rw [show (i : Int) + 1 = ((i + 1 : Nat) : Int) from by omega, w64 (by omega), List.set_cons_zero] at b90
      have c9 : Ch [H69.size + 1, b32] H76 (putL H90 (H69.size + 1) rr) := (((k81.ch (F := [H69.size + 1, b32])).trans s82.ch (by simp)).trans s90.ch (by simp)).trans putL_same.ch (by simp)
      refine ⟨l90, hT _ _ ⟨rfl, a1.ch c9 (by simp; omega), a2.ch c9 (by simp; omega), b90.same putL_same (by omega), Dfr.ch c9 a4 (fun D hD hh => ?_), putL_lp l90⟩ c9 fun b hb => .inl hb⟩
      rcases List.mem_cons.1 hD with rfl | hD
      · simp at hh; omega
      · have h1 := zD D hD
        have h2 := hDs D hD
        simp at hh; omega
    · rintro G H77 ⟨rfl, a1, a2, a3, a4, a5⟩
      refine .inl ⟨a5, Up_s a5 fun H112 s112 _ => ?_⟩
      have zl := a5.lt
      have z32 := a3.lt
      have gwE := a1.ch s112.ch (by simp; omega)
      have b3E := a2.same s112 (by omega)
      have b32E := a3.same s112 (by omega)
      have dE := Dfr.ch s112.ch a4 (fun D hD hh => by
        simp at hh
        rcases List.mem_cons.1 hD with rfl | hD
        · omega
        · have := zD D hD; omega)
      have on := (gwE.own.view cSp_len (by omega)).n
      have dlo : ∀ D ∈ H69.size :: Ds, H34.size ≤ D := fun D hD => by
        rcases List.mem_cons.1 hD with rfl | hD
        · exact ztop
        · exact hDs D hD
      have fin : ldI .i64 H112 (⟨b32, 0, none⟩ : Addr) (fun x113 => ldL H112 (⟨b13, 0, none⟩ : Addr) (fun x115 => st H112 (⟨b3, 0, none⟩ : Addr) (.bool (x113 == (x115.n : Int))) (fun H117 => tkD (H69.size :: Ds) H117 (fun H118 => ldB H118 (⟨b3, 0, none⟩ : Addr) (fun x120 => x120 = true ∧ Keep W.heap H118))))) := by
        refine ldI_i b32E rfl (ldL_i gwE.f13 rfl (st_i b3E (by simp) fun H117 b117 s117 => tkD_ok (Dfr.ch s117.ch dE fun D hD hh => by have := dlo D hD; simp at hh; omega) fun H118 c118 z118 => ldB_i (b117.ch c118 fun hh => by have := dlo _ hh; omega) rfl ⟨beqi (by omega), ?_⟩))
        refine ((gwE.kp.same s117 (by omega)).ch (F := [])).trans c118 (fun b hb => .inr ?_) |>.keep (by simp)
        have := dlo b hb
        have := gw69.lo
        omega
      rw [if_pos rfl]
      exact fin
    · exact fun _ _ hz => hz.elim
  · refine mostC gw ?_
    by_cases hmost : 0 < most
    rotate_left
    · refine ite_f (decf hmost) (hJ _ _ ⟨gw, q3, ⟨_, q32⟩, trivial, by simp, k30.trans k34⟩)
    refine ite_t (dect hmost) (Join.intro (fun (Ds : List Nat) H' => GW W.heap H' g w h s t first units most cs ps WL wl l m l8 m8 b1 b13 b32 p5 p40 p1 p3 p26 f e H34.size ∧ Bk H' b3 4 [.bool false] ∧ Bk H' b32 3 [.int .i64 (if (WL.length : Int) < most then (WL.length : Int) else most)] ∧ Dfr Ds H' ∧ (∀ D ∈ Ds, H34.size ≤ D) ∧ Keep H21 H') ?_ fun J2 hJ2 => ?_)
    · rintro Ds H133 ⟨a1, a2, a3, a4, a5, a6⟩
      have on := (a1.own.view cSp_len (by omega)).n
      refine ldI_i a3 rfl (mostC a1 (ldL_i a1.f13 rfl (ite_f (bnei ?_) (hJ _ _ ⟨a1, a2, ⟨_, a3⟩, a4, a5, a6⟩))))
      rw [on]
    refine Rg_i fun rr H147 hrr k147 z147 hD hl => ?_
    have y147 := k147.size
    have gw147 := gw.ch (k147.ch (F := [])) (by simp)
    have sq := walk_seq gw147.wb hok hfe heT (.func (.yield (H34.size + 1)) #[] #[])
    rw [hWL] at sq
    have lblk := gw147.lt
    have kD := k30.trans k34
    refine sq _ _ (fun i G H' => G = [H34.size + 1, b32] ∧ (i : Int) < most ∧ GW W.heap H' g w h s t first units most cs ps WL wl l m l8 m8 b1 b13 b32 p5 p40 p1 p3 p26 f e H34.size ∧ Bk H' b3 4 [.bool false] ∧ Bk H' b32 3 [.int .i64 (i : Int)] ∧ Dfr [H34.size] H' ∧ Lp H' (H34.size + 1) rr ∧ Keep H21 H')
      (fun G H' => G = [H34.size + 1, b32] ∧ most ≤ WL.length ∧ GW W.heap H' g w h s t first units most cs ps WL wl l m l8 m8 b1 b13 b32 p5 p40 p1 p3 p26 f e H34.size ∧ Bk H' b3 4 [.bool false] ∧ Bk H' b32 3 [.int .i64 most] ∧ Dfr [H34.size] H' ∧ Lp H' (H34.size + 1) (dn rr (.exit 0)) ∧ Keep H21 H') [H34.size + 1, b32] ?_ ?_ ?_ ?_ ?_ ?_ ?_ ?_
    · intro b hb hh
      have := lblk b (List.mem_cons_of_mem _ (List.mem_cons_of_mem _ (List.mem_append_right _ (List.mem_append_right _ (List.mem_append_right _ hh)))))
      simp at hb; omega
    · exact ⟨rfl, by omega, gw147, q3.keep k147, q32.keep k147, ⟨hD, by simp, trivial⟩, hl, kD.trans k147⟩
    · rintro i G A B F ⟨rfl, a0, a1, a2, a3, a4, a5, a6⟩ kk hF
      have nF : ∀ {y}, y < H147.size → y ∉ F := fun {y} hy hh => by have := (hF y hh).1; omega
      exact ⟨rfl, a0, a1.ch kk (fun b hb => .inr (by have := (hF b hb).1; omega)), a2.ch kk (nF (by omega)), a3.ch kk (nF (by omega)), Dfr.ch kk a4 (fun D hD => by rw [List.mem_singleton.1 hD]; exact nF (by omega)), a5.ch kk (nF (by omega)), (a6.ch (F := [])).trans kk (fun b hb => .inr (by have := (hF b hb).1; have := kD.size; omega)) |>.keep (by simp)⟩
    · rintro G A B F ⟨rfl, a0, a1, a2, a3, a4, a5, a6⟩ kk hF
      have nF : ∀ {y}, y < H147.size → y ∉ F := fun {y} hy hh => by have := (hF y hh).1; omega
      exact ⟨rfl, a0, a1.ch kk (fun b hb => .inr (by have := (hF b hb).1; omega)), a2.ch kk (nF (by omega)), a3.ch kk (nF (by omega)), Dfr.ch kk a4 (fun D hD => by rw [List.mem_singleton.1 hD]; exact nF (by omega)), a5.ch kk (nF (by omega)), (a6.ch (F := [])).trans kk (fun b hb => .inr (by have := (hF b hb).1; have := kD.size; omega)) |>.keep (by simp)⟩
    · rintro i G A ⟨rfl, a0, a1, a2, a3, a4, a5, a6⟩ b hb
      have := a3.lt
      have := a5.lt
      simp at hb; omega
    · rintro i G x H150 K hx ⟨rfl, a0, a1, a2, a3, a4, a5, a6⟩ hT hZ
      have hil := (List.getElem?_eq_some_iff.1 hx).1
      refine ⟨a5, ?_⟩
      intro b153 H155 c155 g153 g153'
      have k155 : Keep H150 H155 := c155.keep (by simp)
      have y155 := k155.size
      have l155 := a5.ch c155 (by simp)
      have zl := a5.lt
      have z32 := a3.lt
      refine ⟨l155, Up_s l155 fun H156 s156 l156 => ⟨Pv.ch s156.ch (by simp; omega), ?_⟩⟩
      have y156 := s156.size
      have gw156 := (a1.ch (k155.ch (F := [])) (by simp)).ch s156.ch (by simp)
      have b156 := (a3.keep k155).same s156 (by omega)
      refine Join.intro (fun b H' => b = false ∧ H156 = H') ?_ fun J3 hJ3 => cmp gw156 b156 hx (hJ3 _ _ ⟨rfl, rfl⟩)
      rintro _ _ ⟨rfl, rfl⟩
      refine ite_f rfl (ldI_i b156 rfl (st_i b156 (by simp) fun H164 b164 s164 => ?_))
      have l164 := l156.ch s164.ch (by simp; omega)
      rw [show (i : Int) + 1 = ((i + 1 : Nat) : Int) from by omega, w64 (by omega), List.set_cons_zero] at b164
      have gw164 := gw156.ch s164.ch (by simp)
      have c9 : ∀ r', Ch [H34.size + 1, b32] H150 (putL H164 (H34.size + 1) r') := fun r' => (((k155.ch (F := [H34.size + 1, b32])).trans s156.ch (by simp)).trans s164.ch (by simp)).trans putL_same.ch (by simp)
      have k9 : ∀ r', Keep H21 (putL H164 (H34.size + 1) r') := fun r' => (a6.ch (F := [])).trans (c9 r') (fun b hb => .inr (by simp at hb; have := kD.size; omega)) |>.keep (by simp)
      refine ldI_i b164 rfl (mostC gw164 ?_)
      by_cases hq : ((i + 1 : Nat) : Int) = most
      · refine ite_t (beqi hq) ⟨l164, hZ _ _ ⟨rfl, by omega, a1.ch (c9 _) (by simp), a2.ch (c9 _) (by simp; omega), by rw [← hq]; exact b164.same putL_same (by omega), Dfr.ch (c9 _) a4 (by simp; omega), putL_lp l164, k9 _⟩ (c9 _) fun b hb => .inl hb⟩
      · refine ite_f (beqf hq) ⟨l164, hT _ _ ⟨rfl, by omega, a1.ch (c9 _) (by simp), a2.ch (c9 _) (by simp; omega), b164.same putL_same (by omega), Dfr.ch (c9 _) a4 (by simp; omega), putL_lp l164, k9 _⟩ (c9 _) fun b hb => .inl hb⟩
    · rintro G H151 ⟨rfl, a0, a1, a2, a3, a4, a5, a6⟩
      have zl := a5.lt
      refine .inl ⟨a5, Up_s a5 fun H190 s190 _ => hJ2 _ _ ⟨a1.ch s190.ch (by simp), a2.same s190 (by omega), ?_, Dfr.ch s190.ch a4 (by simp), by simp, a6.same s190 (by have := kD.size; omega)⟩⟩
      rw [if_pos a0]
      exact a3.same s190 (by omega)
    · rintro G H151 ⟨rfl, a0, a1, a2, a3, a4, a5, a6⟩
      have zl := a5.lt
      refine .inr (.inr ⟨a5, Up_s a5 fun H190 s190 _ => hJ2 _ _ ⟨a1.ch s190.ch (by simp), a2.same s190 (by omega), ?_, Dfr.ch s190.ch a4 (by simp), by simp, a6.same s190 (by have := kD.size; omega)⟩⟩)
      rw [if_neg (by omega)]
      exact a3.same s190 (by omega)
end Go.Proofs.Ytlonijlcddlhjaa.G
