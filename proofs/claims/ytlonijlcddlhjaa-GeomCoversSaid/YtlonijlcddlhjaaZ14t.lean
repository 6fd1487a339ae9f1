/- Layer 14: GeomSplits. -/
import Derived.Test.YtlonijlcddlhjaaZ14c
import Derived.Test.YtlonijlcddlhjaaZ14v
import Derived.Test.YtlonijlcddlhjaaZW
import Derived.Test.YtlonijlcddlhjaaKGeomSplits
namespace Go.Proofs.Ytlonijlcddlhjaa.G
open Go.RowKit
set_option linter.unusedVariables false
set_option linter.unusedSimpArgs false

theorem many_ok {w h g : Int} {s : Sl} {cs : List Cp} {H : Hp} {Q : Bool → Hp → Prop} (hs : Cs H s cs) (hok : ∀ c ∈ cs, c.ok) (hl : cs.length ≤ 4) (hQ : ∀ b H', Keep H H' → Q b H') : mosaiclaw14_many.s g w h s H Q := by
  unfold mosaiclaw14_many.s
  intro b1 H2 c2 g1 g1'
  have k2 : Keep H H2 := c2.keep (by simp)
  have hn := hs.n
  refine Fix.intro (fun (x : Int × Int) H' => ∃ i : Nat, x.2 = (i : Int) ∧ i ≤ cs.length ∧ 0 ≤ x.1 ∧ x.1 ≤ i * 68717379600 ∧ Keep H H' ∧ b1 < H'.size) (fun x _ => cs.length - x.2.toNat) ⟨0, rfl, by omega, by omega, by omega, k2, g1'⟩ ?_
  rintro ⟨n, _⟩ H6 ⟨i, rfl, hi, n0, n1, k6, l6⟩ rec hrec
  simp only at n0 n1 ⊢
  by_cases hil : i < cs.length
  · refine ite_t (dect (by omega)) (gBlocks_ok (hs.keep k6) hok (by omega) fun H10 k10 => ⟨Pv.keep k10 (by simp; omega), Lt.of ?_⟩)
    obtain ⟨⟨bx0, bx1⟩, by0, by1⟩ := blo_le (w := w) (h := h) (cs := cs) (i := (i : Int))
    have m0 := Int.mul_nonneg bx0 by0
    have m1 := Int.mul_le_mul bx1 by1 by0 (by omega)
    have e : (((i + 1 : Nat) : Int)) * 68717379600 = (i : Int) * 68717379600 + 68717379600 := by omega
    rw [show (i : Int) + 1 = ((i + 1 : Nat) : Int) from by omega, w64 (x := (Blo w h cs i).1 * (Blo w h cs i).2) (by omega), w64 (x := ((i + 1 : Nat) : Int)) (by omega), w64 (by omega)]
    exact hrec _ _ ⟨i + 1, rfl, by omega, by simp only; omega, by simp only; omega, k6.trans k10, by have := k10.size; omega⟩ (by simp; omega)
  · exact ite_f (decf (by omega)) (hQ _ _ k6)
theorem wEnd_at {f u T : Int} (hf : 0 ≤ f) (hu : 0 ≤ u) (hT : f ≤ T) : wFst f T = f ∧ wEnd f u T = f + min u (T - f) := by
  have e0 : wF0 f = f := by unfold wF0; rw [if_neg (by omega)]
  have e1 : wFst f T = f := by unfold wFst; rw [e0, if_neg (by omega)]
  have e2 : wU f u = u := by unfold wU wU0; rw [if_neg (by omega), if_neg (by omega)]
  refine ⟨e1, ?_⟩
  unfold wEnd
  rw [e1, e2]
  split <;> omega
theorem eqSp (x : Sp) : (!((x.1 == x.1) && ((x.2.1 == x.2.1) && ((x.2.2.1 == x.2.2.1) && ((x.2.2.2.1 == x.2.2.2.1) && (x.2.2.2.2 == x.2.2.2.2)))))) = false := by simp
/-- What does not turn any more: the frame, the answer, the list of all blocks. -/
structure GS (W H : Hp) (g w h : Int) (s : Sl) (AL : List Sp) (l : Sl) (b1 b3 b16 : Nat) : Prop where
  f1 : Bk H b1 26 (c26 g w h s)
  f3 : Bk H b3 4 [.bool false]
  f16 : Bk H b16 44 [.slice l.a l.n l.c]
  own : Own H 50 5 l (AL.flatMap cSp)
  kp : Keep W H
theorem GS.ch {W H H' : Hp} {g w h : Int} {s : Sl} {AL : List Sp} {l : Sl} {b1 b3 b16 : Nat} {F : List Nat} (a : GS W H g w h s AL l b1 b3 b16) (c : Ch F H H') (h1 : ∀ b ∈ b1 :: b3 :: b16 :: fp l, b ∉ F) (h2 : ∀ b ∈ F, W.size ≤ b) : GS W H' g w h s AL l b1 b3 b16 :=
  ⟨a.f1.ch c (h1 _ (by simp)), a.f3.ch c (h1 _ (by simp)), a.f16.ch c (h1 _ (by simp)), a.own.ch c fun b hb => h1 b (by simp [hb]), (a.kp.ch (F := [])).trans c (fun b hb => .inr (h2 b hb)) |>.keep (by simp)⟩
theorem GS.keep {W H H' : Hp} {g w h : Int} {s : Sl} {AL : List Sp} {l : Sl} {b1 b3 b16 : Nat} (a : GS W H g w h s AL l b1 b3 b16) (c : Keep H H') : GS W H' g w h s AL l b1 b3 b16 := a.ch (c.ch (F := [])) (by simp) (by simp)
theorem GS.lts {W H : Hp} {g w h : Int} {s : Sl} {AL : List Sp} {l : Sl} {b1 b3 b16 : Nat} (a : GS W H g w h s AL l b1 b3 b16) : ∀ b ∈ b1 :: b3 :: b16 :: fp l, b < H.size := fun b hb => by
  rcases List.mem_cons.1 hb with rfl | hb
  · exact a.f1.lt
  rcases List.mem_cons.1 hb with rfl | hb
  · exact a.f3.lt
  rcases List.mem_cons.1 hb with rfl | hb
  · exact a.f16.lt
  exact a.own.fp_lt b hb
set_option maxHeartbeats 2000000 in
theorem GeomSplits_row (g w h : Int) (s t : Sl) (r : Int) (W : World) (hg : 0 ≤ g ∧ g ≤ 255) (hw : -9223372036854775808 ≤ w ∧ w ≤ 9223372036854775807) (hh : -9223372036854775808 ≤ h ∧ h ≤ 9223372036854775807)
    (hs : SlH W.heap none 4 4 (X23 none W.heap) s) (ht : SlH W.heap none 16 3 (X52 none W.heap) t) (hr : -9223372036854775808 ≤ r ∧ r ≤ 9223372036854775807) :
    mosaiclaw14_GeomSplits.s g w h s t r W.heap (fun r H' => r = true ∧ Keep W.heap H') := by
  obtain ⟨cs, v0, hok, hl4⟩ := comps_view hs
  obtain ⟨ps, u0, hpk, hm4⟩ := parts_view ht
  unfold mosaiclaw14_GeomSplits.s
  intro b1 H2 c2 g1 g1' b3 H4 c4 g3 g3'
  have k4 : Keep W.heap H4 := (c2.keep (by simp)).trans (c4.keep (by simp))
  have y2 := c2.size
  have y4 := c4.size
  refine alive_ok14 fun H6 k6 => ⟨Pv.keep k6 (by simp; omega), ?_⟩
  have y6 := k6.size
  have k6' := k4.trans k6
  refine Join.intro (fun b H' => Keep W.heap H' ∧ Keep H6 H' ∧ (b = false → Prt w h cs ps = 0 ∧ 0 ≤ r)) ?_ fun J hJ => ?_
  rotate_left
  · refine gParts_ok (v0.keep k6') hok (by omega) (u0.keep k6') hpk fun H148 k148 => ⟨Pv.keep k148 (by simp; omega), ?_⟩
    by_cases hP : Prt w h cs ps = 0
    · have fr := (prt_fr hP).2.1
      refine ite_f (bnei hP) (many_ok (v0.keep (k6'.trans k148)) hok fr.n.2 fun b H151 k151 => ⟨Pv.keep k151 (by have := k148.size; simp; omega), ?_⟩)
      have kA := k148.trans k151
      cases b with
      | true => exact ite_t rfl (hJ _ _ ⟨k6'.trans kA, kA, by simp⟩)
      | false => exact ite_f rfl (hJ _ _ ⟨k6'.trans kA, kA, fun hf => ⟨hP, by rw [decide_eq_false_iff_not] at hf; omega⟩⟩)
    · exact ite_t (bnet hP) (hJ _ _ ⟨k6'.trans k148, k148, by simp⟩)
  rintro b H10 ⟨k10, k10', hb⟩
  cases b with
  | true => exact ite_t rfl fun H11 c11 => ⟨rfl, (k10.ch (F := [])).trans c11 (by simp; omega) |>.keep (by simp)⟩
  | false =>
  obtain ⟨hP, hr0⟩ := hb rfl
  have y10 := k10'.size
  obtain ⟨up1, up2⟩ := uni_pos hP
  obtain ⟨⟨ux0, ux1⟩, uy0, uy1⟩ := uni_le (w := w) (h := h) (cs := cs) (ps := ps)
  obtain ⟨a0, a1⟩ := uni_area (w := w) (h := h) (cs := cs) (ps := ps)
  have aT : 1 ≤ (Uni w h cs ps).1 * (Uni w h cs ps).2 := Int.mul_pos (by omega) (by omega)
  obtain ⟨el1, el10⟩ := each_le hP
  refine ite_f rfl (gUnits_ok (v0.keep k10) hok (by omega) (u0.keep k10) hpk fun H14 k14 => ⟨Pv.keep k14 (by simp; omega), ?_⟩)
  have y14 := k14.size
  have hItv : ∀ r : Int, Itv w h cs ps r = if (Uni w h cs ps).1 = 0 ∨ r < 0 then 0 else if r = 0 then 1 else cl ((Uni w h cs ps).1 * (Uni w h cs ps).2) r := fun r => rfl
  generalize hT : (Uni w h cs ps).1 * (Uni w h cs ps).2 = T at *
  intro b16 H17 c17 g16 g16'
  have k17 : Keep W.heap H17 := (k10.trans k14).trans (c17.keep (by simp))
  have y17 := c17.size
  rw [w64 (x := T) (by omega)]
  refine Walk_ok (v0.keep k17) hok (by omega) (u0.keep k17) hpk (by omega) (by omega) (by omega) fun p5 p40 p1 p3 p26 l8 m8 H19 wb k19 lo => ?_
  have y19 := k19.size
  rw [hT] at wb
  have wf : wFst 0 T = 0 := by unfold wFst wF0; rw [if_neg (by omega)]; exact if_neg (by omega)
  have we : wEnd 0 T T = T := by unfold wEnd wU wU0; rw [wf, if_neg (by omega), if_neg (by omega)]; split <;> omega
  rw [wf, we] at wb
  refine ⟨Pv.keep k19 (by simp; omega), fun q1 q3 q16 => ?_⟩
  have k19' := k17.trans k19
  refine Rg_i fun rr H24 hrr k24 z24 hD hl => ?_
  have sq := walk_seq (wb.keep k24) hok (by omega) (by rw [hT]; omega) (.func (.yield (H19.size + 1)) #[] #[])
  rw [show (0 : Int).toNat = 0 from rfl, Nat.sub_zero] at sq
  generalize hAL : walkL w h cs ps 0 T.toNat = AL at sq
  have hALn : AL.length = T.toNat * eachL cs ps := by rw [← hAL]; exact walk_len hP _ _
  have hALb : AL.length ≤ 687173796000 := by
    rw [hALn]
    have := Nat.mul_le_mul (show T.toNat ≤ 68717379600 by omega) el10
    omega
  have y24 := k24.size
  refine sq _ _ (fun i G H' => ∃ l, G = (H19.size + 1) :: b16 :: fp l ∧ GS W.heap H' g w h s (AL.take i) l b1 b3 b16 ∧ (∀ b ∈ fp l, H24.size ≤ b) ∧ Dfr [H19.size] H' ∧ Lp H' (H19.size + 1) rr) (fun _ _ => False) [H19.size + 1, b16] ?_ ?_ ?_ ?_ ?_ ?_ ?_ ?_
  · intro b hb hh
    have h1 := lo b hh
    have h2 := wb.lts b hh
    simp at hb; omega
  · exact ⟨⟨none, 0, 0⟩, rfl, ⟨q1.keep k24, q3.keep k24, q16.keep k24, by simpa using Own.nil _ _ _, k19'.trans k24⟩, by simp [fp], ⟨hD, by simp, trivial⟩, hl⟩
  · rintro i G A B F ⟨l, rfl, gs, fl, d, lp⟩ kk hF
    have nF : ∀ {y}, y < H24.size → y ∉ F := fun {y} hy hh => by have := (hF y hh).1; omega
    refine ⟨l, rfl, gs.ch kk (fun b hb hh => ?_) (fun b hb => by have := (hF b hb).1; have := k19'.size; omega), fl, Dfr.ch kk d (by simp; exact nF (by omega)), lp.ch kk (nF (by omega))⟩
    rcases List.mem_cons.1 hb with rfl | hb
    · exact nF (by omega) hh
    rcases List.mem_cons.1 hb with rfl | hb
    · exact nF (by omega) hh
    exact (hF b hh).2 (List.mem_cons_of_mem _ hb)
  · exact fun _ _ _ _ hz => hz.elim
  · rintro i G A ⟨l, rfl, gs, fl, d, lp⟩ b hb
    rcases List.mem_cons.1 hb with rfl | hb
    · exact lp.lt
    exact gs.lts b (List.mem_cons_of_mem _ (List.mem_cons_of_mem _ hb))
  · rintro i G x H27 K hx ⟨l, rfl, gs, fl, d, lp⟩ hT' hF
    have hil := (List.getElem?_eq_some_iff.1 hx).1
    refine ⟨lp, ?_⟩
    intro b30 H32 c30 g30 g30'
    have k32 : Keep H27 H32 := c30.keep (by simp)
    have y32 := k32.size
    have l32 := lp.ch c30 (by simp)
    have zl := lp.lt
    have z16 := gs.f16.lt
    refine ⟨l32, Up_s l32 fun H33 s33 l33 => ⟨Pv.ch s33.ch (by simp; omega), ?_⟩⟩
    have y33 := s33.size
    have gs33 := (gs.keep k32).ch s33.ch (fun b hb hh => by
      simp at hh; subst hh
      rcases List.mem_cons.1 hb with hb | hb
      · omega
      rcases List.mem_cons.1 hb with hb | hb
      · omega
      rcases List.mem_cons.1 hb with hb | hb
      · omega
      have := fl _ hb; omega) (by simp; have := k19'.size; omega)
    refine ldL_i gs33.f16 rfl (push1 (x := x) gs33.own cSp_len cSp_ones rfl (by omega) (by omega) (by rw [List.length_take]; omega) fun l' H43 o43 c43 f43 => ?_)
    have y43 := c43.size
    have fl' : ∀ b ∈ fp l', H24.size ≤ b := fun b hb => by
      rcases f43 b hb with q | q
      · exact fl b q
      · omega
    have b16' := gs33.f16.ch c43 (fun hh => by have := fl _ hh; omega)
    refine st_i b16' (by simp) fun H44 b44 s44 => ?_
    have cc : Ch ((H19.size + 1) :: b16 :: fp l) H27 H44 := (((k32.ch (F := (H19.size + 1) :: b16 :: fp l)).trans s33.ch (by simp)).trans c43 (fun b hb => .inl (by simp [hb]))).trans s44.ch (by simp)
    have nF : ∀ {y}, y < H24.size → y ≠ H19.size + 1 → y ≠ b16 → y ∉ (H19.size + 1) :: b16 :: fp l := fun {y} h1 h2 h3 hh => by
      rcases List.mem_cons.1 hh with q | hh
      · exact h2 q
      rcases List.mem_cons.1 hh with q | hh
      · exact h3 q
      have := fl _ hh; omega
    have l44 : Lp H44 (H19.size + 1) (bsy rr) := (l33.ch c43 (fun hh => by have := fl _ hh; omega)).ch s44.ch (by simp; omega)
    have c9 : Ch ((H19.size + 1) :: b16 :: fp l) H27 (putL H44 (H19.size + 1) rr) := cc.trans putL_same.ch (by simp)
    have nD : H19.size ∉ (H19.size + 1) :: b16 :: fp l := nF (by omega) (by omega) (by omega)
    refine ⟨l44, hT' _ _ ⟨l', rfl, ⟨gs.f1.ch c9 (nF (by omega) (by omega) (by omega)), gs.f3.ch c9 (nF (by omega) (by omega) (by omega)), b44.same putL_same (by omega), ?_, ?_⟩, fl', Dfr.ch c9 d (fun D hD => by rw [List.mem_singleton.1 hD]; exact nD), putL_lp l44⟩ c9 fun b hb => ?_⟩
    · rw [take_next hx]
      exact (o43.ch s44.ch (fun b hb => by have := fl' b hb; simp; omega)).ch putL_same.ch (fun b hb => by have := fl' b hb; simp; omega)
    · refine (gs.kp.ch (F := [])).trans c9 (fun b hb => .inr ?_) |>.keep (by simp)
      have := k19'.size
      rcases List.mem_cons.1 hb with rfl | hb
      · omega
      rcases List.mem_cons.1 hb with rfl | hb
      · omega
      have := fl b hb; omega
    · rcases List.mem_cons.1 hb with rfl | hb
      · exact .inl (by simp)
      rcases List.mem_cons.1 hb with rfl | hb
      · exact .inl (by simp)
      rcases f43 b hb with q | q
      · exact .inl (by simp [q])
      · exact .inr (by omega)
  · rintro G H28 ⟨l, rfl, gs, fl, d, lp⟩
    rw [List.take_length] at gs
    refine ⟨lp, Up_s lp fun H46 s46 _ => ?_⟩
    have y28 := lp.lt
    have gs46 := gs.ch s46.ch (fun b hb hh => by
      simp at hh; subst hh
      rcases List.mem_cons.1 hb with hb | hb
      · omega
      rcases List.mem_cons.1 hb with hb | hb
      · omega
      rcases List.mem_cons.1 hb with hb | hb
      · omega
      have := fl _ hb; omega) (by simp; have := k19'.size; omega)
    have d46 : Dfr [H19.size] H46 := Dfr.ch s46.ch d (by simp)
    -- the step
    obtain ⟨st, hst, hst'⟩ : ∃ st : Nat, (st : Int) = (if r = 0 ∨ T < r then T else r) ∧ 1 ≤ st ∧ (st : Int) ≤ T ∧ Itv w h cs ps r = cl T st := by
      by_cases hc : r = 0 ∨ T < r
      · refine ⟨T.toNat, by rw [if_pos hc]; omega, by omega, by omega, ?_⟩
        rw [hItv, if_neg (by omega)]
        have eT : ((T.toNat : Nat) : Int) = T := by omega
        rw [eT]
        have e1 : cl T T = 1 := by
          obtain ⟨p, q⟩ := cl_mul (a := T) (b := T) (by omega)
          have h1 : 0 < cl T T := by
            by_cases hh : 0 < cl T T
            · exact hh
            · have := Int.mul_le_mul_of_nonneg_right (show cl T T ≤ 0 by omega) (show 0 ≤ T by omega)
              omega
          have h2 : cl T T < 2 := by
            by_cases hh : cl T T < 2
            · exact hh
            · have := Int.mul_le_mul_of_nonneg_right (show 1 ≤ cl T T - 1 by omega) (show 0 ≤ T by omega)
              omega
          omega
        by_cases h0 : r = 0
        · rw [if_pos h0, e1]
        · rw [if_neg h0, e1]
          exact cl_big (by omega) (by omega)
      · refine ⟨r.toNat, by rw [if_neg hc]; omega, by omega, by omega, ?_⟩
        rw [hItv, if_neg (by omega), if_neg (by omega)]
        rw [show ((r.toNat : Nat) : Int) = r from by omega]
    obtain ⟨st1, stT, hI⟩ := hst'
    refine Join.intro (fun (x : Int) H' => x = (st : Int) ∧ H46 = H') ?_ fun J hJ => ?_
    rotate_left
    · refine Join.intro (fun b H' => b = decide (r = 0 ∨ T < r) ∧ H46 = H') ?_ fun J2 hJ2 => ?_
      · rintro _ _ ⟨rfl, rfl⟩
        by_cases hc : r = 0 ∨ T < r
        · exact ite_t (dect hc) (hJ _ _ ⟨by rw [hst, if_pos hc], rfl⟩)
        · exact ite_f (decf hc) (hJ _ _ ⟨by rw [hst, if_neg hc], rfl⟩)
      · by_cases h0 : r = 0
        · exact ite_t (beqi h0) (hJ2 _ _ ⟨(dect (.inl h0)).symm, rfl⟩)
        · refine ite_f (beqf h0) (hJ2 _ _ ⟨?_, rfl⟩)
          by_cases h1 : T < r
          · exact (dect h1).trans (dect (.inr h1)).symm
          · exact (decf h1).trans (decf (by omega)).symm
    rintro _ _ ⟨rfl, rfl⟩
    obtain ⟨ci1, ci2⟩ := cl_mul (a := T) (b := (st : Int)) (by omega)
    have cp0 := cl_pos (a := T) (b := (st : Int)) (by omega) (by omega)
    have cpl := cl_le (a := T) (b := (st : Int)) (by omega) (by omega)
    have cg1 := cl_ge1 (a := T) (b := (st : Int)) (by omega) (by omega)
    obtain ⟨N, hN⟩ : ∃ N : Nat, cl T st = (N : Int) := ⟨(cl T st).toNat, by omega⟩
    rw [hN] at ci1 ci2 cp0 cpl cg1
    refine ⟨_, _, _, _, ldA_full gs46.f1, gIntervals_ok (v0.keep gs46.kp) hok (by omega) (u0.keep gs46.kp) hpk hr.2 fun H56 k56 => ?_⟩
    rw [hI, hN]
    intro b57 H59 c57 g57 g57' hb57
    have y46 := s46.size
    have k59 : Keep H46 H59 := k56.trans (c57.keep (by simp))
    have gs59 := gs46.keep k59
    have d59 := d46.keep k59
    have y56 := k56.size
    have lgs := gs46.lts
    have z46 := d46.lt
    refine Fix.intro (fun (x : Int × List Nat) H' => ∃ i : Nat, x.1 = (i : Int) ∧ i ≤ N ∧ GS W.heap H' g w h s AL l b1 b3 b16 ∧ Bk H' b57 3 [.int .i64 ((min (i * st) T.toNat * eachL cs ps : Nat) : Int)] ∧ Dfr x.2 H' ∧ (∀ D ∈ x.2, b16 < D ∧ D ≠ b57 ∧ D ∉ fp l) ∧ b57 < H'.size) (fun x _ => N - x.1.toNat)
      ⟨0, rfl, by omega, gs59, by simpa using hb57, d59, by simp; exact ⟨by omega, by have := z46 H19.size (by simp); omega, fun hh => by have := fl _ hh; omega⟩, by omega⟩ ?_
    rintro ⟨_, Ds⟩ H63 ⟨i, rfl, hi, gs63, b63, d63, hDs, l63⟩ rec hrec
    simp only at d63 hDs ⊢
    have lg63 := gs63.lts
    have n57 : ∀ b ∈ b1 :: b3 :: b16 :: fp l, b ≠ b57 := fun b hb => by have := lgs b hb; omega
    by_cases hiN : i < N
    rotate_left
    · obtain rfl : i = N := by omega
      have hall : min (i * st) T.toNat = T.toNat := by
        have : T.toNat ≤ i * st := by
          have : ((i * st : Nat) : Int) = (i : Int) * (st : Int) := by push_cast; rfl
          omega
        omega
      rw [hall, ← hALn] at b63
      have on := (gs63.own.view cSp_len (by omega)).n
      refine ite_f (decf (by omega)) ?_
      rw [if_pos trivial]
      refine ((ldI_i b63 rfl (ldL_i gs63.f16 rfl (ite_t (beqi (by omega)) (st_i gs63.f3 (by simp) fun H132 b132 s132 => tkD_ok (Dfr.ch s132.ch d63 fun D hD hh => by have := (hDs D hD).1; simp at hh; omega) fun H133 c133 z133 => ldB_i (b132.ch c133 fun hh => by have := (hDs _ hh).1; omega) rfl ⟨dect (by omega), ?_⟩)))))
      refine ((gs63.kp.same s132 (by omega)).ch (F := [])).trans c133 (fun b hb => .inr ?_) |>.keep (by simp)
      have := (hDs b hb).1
      have := k19'.size
      omega
    -- the interval
    have eis : (i : Int) * (st : Int) = ((i * st : Nat) : Int) := by push_cast; rfl
    have his : ((i * st : Nat) : Int) < T := by
      have : (i : Int) * st ≤ ((N : Int) - 1) * st := Int.mul_le_mul_of_nonneg_right (by omega) (by omega)
      omega
    refine ite_t (dect (by omega)) (ldI_i b63 rfl ⟨_, _, _, _, ldA_full gs63.f1, ?_⟩)
    rw [eis, w64 (x := ((i * st : Nat) : Int)) (by omega)]
    refine Walk_ok (v0.keep gs63.kp) hok (by omega) (u0.keep gs63.kp) hpk (by omega) (by omega) (by omega) fun p5 p40 p1 p3 p26 l9 m9 H74 wb2 k74 lo2 => ?_
    rw [hT] at wb2
    obtain ⟨wf2, we2'⟩ := wEnd_at (f := ((i * st : Nat) : Int)) (u := (st : Int)) (T := T) (by omega) (by omega) (by omega)
    have we2 : wEnd ((i * st : Nat) : Int) (st : Int) T = ((min ((i + 1) * st) T.toNat : Nat) : Int) := by
      rw [we2', Nat.add_mul, Nat.one_mul]
      omega
    rw [wf2, we2, Int.toNat_natCast, Int.toNat_natCast] at wb2
    have hmin : min (i * st) T.toNat = i * st := by omega
    have hmle : i * st + 1 ≤ min ((i + 1) * st) T.toNat ∧ min ((i + 1) * st) T.toNat ≤ T.toNat := by rw [Nat.add_mul]; omega
    rw [hmin] at b63 ⊢
    generalize hE : min ((i + 1) * st) T.toNat = E at wb2 hmle
    have hES : i * st + (E - i * st) = E := by omega
    refine Rg_i fun r2 H78 hr2 k78 z78 hD2 hl2 => ?_
    have sq2 := walk_seq (wb2.keep k78) hok (by omega) (by rw [hT]; omega) (.func (.yield (H74.size + 1)) #[] #[])
    have y74 := k74.size
    have y78 := k78.size
    have hLl := walk_len (w := w) (h := h) hP (i * st) (E - i * st)
    have hat : ∀ {j : Nat} {x : Sp}, (walkL w h cs ps (i * st) (E - i * st))[j]? = some x → AL[i * st * eachL cs ps + j]? = some x := fun {j x} hx => by
      rw [← hAL]
      exact walk_at hP hx (by omega)
    generalize walkL w h cs ps (i * st) (E - i * st) = XL at sq2 hLl hat
    have gs78 := (gs63.keep k74).keep k78
    have d78 := (d63.keep k74).keep k78
    have zD := d63.lt
    refine sq2 _ _ (fun j G H' => G = [H74.size + 1, b57] ∧ GS W.heap H' g w h s AL l b1 b3 b16 ∧ Bk H' b57 3 [.int .i64 ((i * st * eachL cs ps + j : Nat) : Int)] ∧ Dfr (H74.size :: Ds) H' ∧ Lp H' (H74.size + 1) r2) (fun _ _ => False) [H74.size + 1, b57] ?_ ?_ ?_ ?_ ?_ ?_ ?_ ?_
    · intro b hb hh
      have h1 := lo2 b hh
      have h2 := wb2.lts b hh
      simp at hb; omega
    · exact ⟨rfl, gs78, (b63.keep k74).keep k78, ⟨hD2, fun hh => by have := zD _ hh; omega, d78⟩, hl2⟩
    · rintro j G A B F ⟨rfl, a1, a2, a3, a4⟩ kk hF
      have nF : ∀ {y}, y < H78.size → y ∉ F := fun {y} hy hh => by have := (hF y hh).1; omega
      refine ⟨rfl, a1.ch kk (fun b hb => nF (by have := lg63 b hb; omega)) (fun b hb => by have := (hF b hb).1; have := gs63.kp.size; omega), a2.ch kk (nF (by omega)), Dfr.ch kk a3 fun D hD => nF ?_, a4.ch kk (nF (by omega))⟩
      rcases List.mem_cons.1 hD with rfl | hD
      · omega
      · have := zD D hD; omega
    · exact fun _ _ _ _ hz => hz.elim
    · rintro j G A ⟨rfl, a1, a2, a3, a4⟩ b hb
      have := a2.lt
      have := a4.lt
      simp at hb; omega
    · rintro j G x H81 K hx ⟨rfl, a1, a2, a3, a4⟩ hT' hF
      have hjl := (List.getElem?_eq_some_iff.1 hx).1
      have hax := hat hx
      have hal := (List.getElem?_eq_some_iff.1 hax).1
      refine ⟨a4, ?_⟩
      intro b84 H86 c84 g84 g84'
      have k86 : Keep H81 H86 := c84.keep (by simp)
      have y86 := k86.size
      have l86 := a4.ch c84 (by simp)
      have zl := a4.lt
      have z57 := a2.lt
      refine ⟨l86, Up_s l86 fun H87 s87 l87 => ⟨Pv.ch s87.ch (by simp; omega), ?_⟩⟩
      have y87 := s87.size
      have gs87 := (a1.keep k86).ch s87.ch (fun b hb hh => by have := lg63 b hb; simp at hh; omega) (by simp; have := gs63.kp.size; omega)
      have b87 := (a2.keep k86).same s87 (by omega)
      have vl := gs87.own.view cSp_len (by omega)
      have vn := vl.n
      refine Join.intro (fun b H' => b = false ∧ H87 = H') ?_ fun J hJ => ?_
      · rintro _ _ ⟨rfl, rfl⟩
        refine ite_f rfl (ldI_i b87 rfl (st_i b87 (by simp) fun H95 b95 s95 => ?_))
        have l95 := l87.ch s95.ch (by simp; omega)
        rw [show ((i * st * eachL cs ps + j : Nat) : Int) + 1 = ((i * st * eachL cs ps + (j + 1) : Nat) : Int) from by omega, w64 (by omega), List.set_cons_zero] at b95
        have c9 : Ch [H74.size + 1, b57] H81 (putL H95 (H74.size + 1) r2) := (((k86.ch (F := [H74.size + 1, b57])).trans s87.ch (by simp)).trans s95.ch (by simp)).trans putL_same.ch (by simp)
        refine ⟨l95, hT' _ _ ⟨rfl, a1.ch c9 (fun b hb hh => ?_) (fun b hb => ?_), b95.same putL_same (by omega), Dfr.ch c9 a3 fun D hD hh => ?_, putL_lp l95⟩ c9 fun b hb => .inl hb⟩
        · have h1 := lg63 b hb
          have h2 := n57 b hb
          simp at hh; omega
        · have := gs63.kp.size
          have := gs46.kp.size
          simp at hb; omega
        · rcases List.mem_cons.1 hD with rfl | hD
          · simp at hh; omega
          · have h1 := zD D hD
            have h2 := (hDs D hD).2.1
            simp at hh; omega
      · obtain ⟨ba, bo, ha, hA⟩ := vl.get hax
        refine ldI_i b87 rfl (ldL_i gs87.f16 rfl (ite_f (decf (by omega)) (ldL_i gs87.f16 rfl (ldI_i b87 rfl ⟨by omega, by omega, _, ha, ?_⟩))))
        rw [Int.toNat_natCast]
        exact ⟨_, _, _, _, _, hA, hJ _ _ ⟨eqSp x, rfl⟩⟩
    · rintro G H82 ⟨rfl, a1, a2, a3, a4⟩
      refine .inl ⟨a4, Up_s a4 fun H117 s117 _ => ?_⟩
      have zl := a4.lt
      have z57 := a2.lt
      have y117 := s117.size
      have b117 := a2.same s117 (by omega)
      have hpos : 1 ≤ XL.length := by
        rw [hLl]
        exact Nat.mul_pos (by omega) (by omega)
      refine ldI_i b117 rfl (ite_f (beqf (by omega)) ?_)
      rw [show (i : Int) + 1 = ((i + 1 : Nat) : Int) from by omega, w64 (by omega)]
      refine hrec _ _ ⟨i + 1, rfl, by omega, a1.ch s117.ch (fun b hb hh => by have := lg63 b hb; simp at hh; omega) (by simp; have := gs63.kp.size; omega), ?_, Dfr.ch s117.ch a3 fun D hD hh => ?_, fun D hD => ?_, by omega⟩ (by simp; omega)
      · rw [hE, show E * eachL cs ps = i * st * eachL cs ps + XL.length from by rw [hLl, ← Nat.add_mul, hES]]
        exact b117
      · simp at hh
        rcases List.mem_cons.1 hD with rfl | hD
        · omega
        · have := zD D hD; omega
      · rcases List.mem_cons.1 hD with rfl | hD
        · have := lg63 b16 (by simp)
          exact ⟨by omega, by omega, fun hh => by have := lg63 H74.size (by simp [hh]); omega⟩
        · exact hDs D hD
    · exact fun _ _ hz => hz.elim
  · exact fun _ _ hz => hz.elim
end Go.Proofs.Ytlonijlcddlhjaa.G
