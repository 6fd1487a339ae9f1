/- Of this text what the row needs. -/
import Derived.Test.YtlfdfikgbdgfdaaQSpanBelievedZ17q
import Derived.Test.YtlfdfikgbdgfdaaQSpanBelievedZ17k
import Derived.Test.YtlfdfikgbdgfdaaQSpanBelievedKSpanBelieved
namespace Go.Proofs.Ytlfdfikgbdgfdaa.G
open Go.RowKit
set_option linter.unusedVariables false
set_option linter.unusedSimpArgs false
structure DB (W H : Hp) (j : Jb) (b1 b13 k e : Nat) (st un t : Int) (sl : Sl) (BL : List (Ints 64)) (l : List (Bool × Nat)) : Prop where
  j1 : Bk H b1 32 j.cells
  f13 : Bk H b13 40 (c40 st un t sl)
  src : Src H k l e 0
  own : Own H 54 64 sl (BL.flatMap cBl)
  kp : Keep W H
section
variable {W H H' : Hp} {j : Jb} {b1 b13 k e : Nat} {st un t : Int} {sl : Sl} {BL : List (Ints 64)} {l : List (Bool × Nat)}
theorem DB.ch {F : List Nat} (a : DB W H j b1 b13 k e st un t sl BL l) (c : Ch F H H') (h1 : ∀ b ∈ F, W.size ≤ b) (h2 : ∀ b ∈ b1 :: b13 :: k :: fp sl, b ∉ F) : DB W H' j b1 b13 k e st un t sl BL l :=
  ⟨a.j1.ch c (h2 _ (by simp)), a.f13.ch c (h2 _ (by simp)), a.src.ch c (h2 _ (by simp)), a.own.ch c (fun b hb => h2 b (by simp [hb])), (a.kp.ch (F := [])).trans c (fun b hb => .inr (h1 b hb)) |>.keep (by simp)⟩
theorem DB.keep (a : DB W H j b1 b13 k e st un t sl BL l) (c : Keep H H') : DB W H' j b1 b13 k e st un t sl BL l := a.ch (c.ch (F := [])) (by simp) (by simp)
theorem DB.lts (a : DB W H j b1 b13 k e st un t sl BL l) : ∀ b ∈ b1 :: b13 :: k :: fp sl, b < H.size := fun b hb => by
  rcases List.mem_cons.1 hb with rfl | hb
  · exact a.j1.lt
  rcases List.mem_cons.1 hb with rfl | hb
  · exact a.f13.lt
  rcases List.mem_cons.1 hb with rfl | hb
  · exact a.src.lt
  exact a.own.fp_lt b hb
end
set_option maxHeartbeats 2000000 in
theorem SpanBelieved_row (file : ByteArray) (fr to : Int) (g w h : Int) (s t : Sl) (d0 : Cn) (e0 : Sl) (d1 : Cn) (e1 : Sl) (d2 : Cn) (e2 : Sl) (d3 : Cn) (e3 : Sl) (a0 : Cn) (f0 : Sl) (a1 : Cn) (f1 : Sl) (a2 : Cn) (f2 : Sl) (a3 : Cn) (f3 : Sl) (f u : Int) (W : World)
    (hfile : file.size < 140737488355328) (hfr : -9223372036854775808 ≤ fr ∧ fr ≤ 9223372036854775807) (hto : -9223372036854775808 ≤ to ∧ to ≤ 9223372036854775807) (hg : 0 ≤ g ∧ g ≤ 255) (hw : -9223372036854775808 ≤ w ∧ w ≤ 9223372036854775807) (hh : -9223372036854775808 ≤ h ∧ h ≤ 9223372036854775807)
    (hs : SlH W.heap none 4 4 (X98 none W.heap) s) (ht : SlH W.heap none 16 3 (X67 none W.heap) t)
    (c0 : ∀ v ∈ d0.1, 0 ≤ v ∧ v ≤ 255) (z0 : SlH W.heap none 1 1 (X5 none W.heap) e0) (c1 : ∀ v ∈ d1.1, 0 ≤ v ∧ v ≤ 255) (z1 : SlH W.heap none 1 1 (X5 none W.heap) e1)
    (c2 : ∀ v ∈ d2.1, 0 ≤ v ∧ v ≤ 255) (z2 : SlH W.heap none 1 1 (X5 none W.heap) e2) (c3 : ∀ v ∈ d3.1, 0 ≤ v ∧ v ≤ 255) (z3 : SlH W.heap none 1 1 (X5 none W.heap) e3)
    (b0 : ∀ v ∈ a0.1, 0 ≤ v ∧ v ≤ 255) (y0 : SlH W.heap none 1 1 (X5 none W.heap) f0) (b1 : ∀ v ∈ a1.1, 0 ≤ v ∧ v ≤ 255) (y1 : SlH W.heap none 1 1 (X5 none W.heap) f1)
    (b2 : ∀ v ∈ a2.1, 0 ≤ v ∧ v ≤ 255) (y2 : SlH W.heap none 1 1 (X5 none W.heap) f2) (b3 : ∀ v ∈ a3.1, 0 ≤ v ∧ v ≤ 255) (y3 : SlH W.heap none 1 1 (X5 none W.heap) f3)
    (hf : -9223372036854775808 ≤ f ∧ f ≤ 9223372036854775807) (hu : -9223372036854775808 ≤ u ∧ u ≤ 9223372036854775807) :
    mosaiclaw17_SpanBelieved.s file fr to g w h s t d0 e0 d1 e1 d2 e2 d3 e3 a0 f0 a1 f1 a2 f2 a3 f3 f u W.heap (fun r H' => r = true ∧ Keep W.heap H') := by
  obtain ⟨cs, ps, TV, J⟩ := job_view (j := ⟨g, w, h, s, t, (d0, e0), (d1, e1), (d2, e2), (d3, e3), (a0, f0), (a1, f1), (a2, f2), (a3, f3), f, u⟩) hs ht ⟨c0, z0⟩ ⟨c1, z1⟩ ⟨c2, z2⟩ ⟨c3, z3⟩ ⟨b0, y0⟩ ⟨b1, y1⟩ ⟨b2, y2⟩ ⟨b3, y3⟩ hf hu
  generalize hJ : (⟨g, w, h, s, t, (d0, e0), (d1, e1), (d2, e2), (d3, e3), (a0, f0), (a1, f1), (a2, f2), (a3, f3), f, u⟩ : Jb) = j at J
  have key : mosaiclaw17_SpanBelieved.s file fr to j.g j.w j.h j.s j.t j.d0.1 j.d0.2 j.d1.1 j.d1.2 j.d2.1 j.d2.2 j.d3.1 j.d3.2 j.a0.1 j.a0.2 j.a1.1 j.a1.2 j.a2.1 j.a2.2 j.a3.1 j.a3.2 j.f j.u W.heap (fun r H' => r = true ∧ Keep W.heap H') := by
    clear hJ c0 c1 c2 c3 b0 b1 b2 b3 z0 z1 z2 z3 y0 y1 y2 y3 hs ht hg hw hh hf hu
    have hjf := J.hf
    have hju := J.hu
    have hl4 := J.hl
    have hm4 := J.hm
    unfold mosaiclaw17_SpanBelieved.s
    intro b1 H2 m2 g1 g1'
    have k2 : Keep W.heap H2 := m2.keep (by simp)
    refine alive_ok17 fun H4 k4 => ⟨Pv.keep k4 (by simp; omega), large17_ok fun H7 k7 => ⟨Pv.keep k7 (by have := k4.size; simp; omega), ?_⟩⟩
    have n4 := k4.size
    have n7 := k7.size
    have kA := (k2.trans k4).trans k7
    by_cases hL : (3000 : Int) < j.u
    · exact ite_t (dect hL) ⟨rfl, kA⟩
    refine ite_f (decf hL) ?_
    obtain ⟨lh1, lh2⟩ := lohi file.size fr to
    obtain ⟨xs, e, hc⟩ := Cut.ex (f := file) (b := hiOf file.size fr to) (hiOf file.size fr to - loOf file.size fr) (loOf file.size fr) (Nat.le_refl _) lh1
    refine Decode_ok (xs := xs) (e := e) (J.keep kA) (by omega) hc (fun _ => by omega) (fun hz H11 k11 => ⟨Pv.keep k11 (by simp; omega), ?_⟩) fun hz r un l hl hr sl BL H11 o11 w11 f11 k11 => ⟨Pv.keep k11 (by simp; omega), ?_⟩
    · intro b13 H15 m15 g13 g13'
      have k15 : Keep H11 H15 := m15.keep (by simp)
      have kB := (kA.trans k11).trans k15
      have n11 := k11.size
      have n15 := k15.size
      refine Join.intro (fun (b : Bool) H' => b = false ∧ Keep H15 H') ?_ fun J16 hJ16 => ?_
      · rintro _ H18 ⟨rfl, k18⟩
        refine ite_f rfl (ite_t (bnet hz) (Join.intro (fun (b : Bool) H' => b = true ∧ H18 = H') ?_ fun J20 hJ20 => ?_))
        · rintro _ _ ⟨rfl, rfl⟩
          exact ⟨rfl, kB.trans k18⟩
        · exact ite_t rfl (ite_t rfl (ite_t rfl (hJ20 _ _ ⟨rfl, rfl⟩)))
      · refine Check17k_ok (J.keep kB) fun H115 k115 => ⟨Pv.keep k115 (by simp; omega), ite_f (bnei rfl) (hJ16 _ _ ⟨rfl, k115⟩)⟩
    intro b13 H15 m15 g13 g13'
    have k15 : Keep H11 H15 := m15.keep (by simp)
    have kB := (kA.trans k11).trans k15
    have n11 := k11.size
    have n15 := k15.size
    have hT := fun q (hq : q < ps.length) => jT_ok J hz hq
    have hR := jRd_ok (cs := cs) hT (l.map (·.1)) j.u.toNat
    have hN := jRd_n (j := j) (cs := cs) (ps := ps) (TV := TV) (l.map (·.1)) j.u.toNat
    rw [hr] at hR hN
    obtain ⟨hR, hRX⟩ := hR
    obtain ⟨hN, hN0⟩ := hN
    dsimp only at hR hRX hN hN0
    have hle := hR.le
    rw [List.length_map] at hle
    have hsl := jSt_le (l := l) (c := decide (e = hiOf file.size fr to)) hR.st
    have hs1 := jSt_one (l := l) (c := decide (e = hiOf file.size fr to)) hR.st
    have hs3 : jSt r l (decide (e = hiOf file.size fr to)) = 3 → r.st = 0 := fun q => by
      unfold jSt at q
      split at q
      · have := hR.st; omega
      · omega
    generalize jSt r l (decide (e = hiOf file.size fr to)) = sg at *
    have hcl := hc.le
    have hll : l.length ≤ 9007199254740992 := by rw [hl, remB_len]; omega
    obtain ⟨hP, _, ff0, uu0, fT, uT⟩ := jchk_no hz
    have each := each_le hP
    refine Join.intro (fun (b : Bool) H' => b = false ∧ Keep H15 H') ?_ fun J16 hJ16 => ?_
    rotate_left
    · refine Check17k_ok (J.keep kB) fun H115 k115 => ⟨Pv.keep k115 (by simp; omega), ?_⟩
      rw [hz]
      exact ite_f rfl (hJ16 _ _ ⟨rfl, k115⟩)
    rintro _ H18 ⟨rfl, k18⟩
    have n18 := k18.size
    refine ite_f rfl (ite_f rfl (Open_ok (xs := xs) (e := e) (by omega) hc fun k H25 S25 k25 gk => ⟨Pv.keep k25 (by simp; omega), ?_⟩))
    rw [← hl] at S25
    have n25 := k25.size
    have kC := (kB.trans k18).trans k25
    refine Join.intro (fun (b : Bool) H' => b = false ∧ H25 = H') ?_ fun J27 hJ27 => ?_
    rotate_left
    · refine ite_f rfl (ite_f (decf (by show ¬ ((sg : Int) < 1); omega)) (ite_f (decf (by show ¬ ((4 : Int) < (sg : Int)); omega)) (Left_ok S25 ⟨fun _ _ => rfl, ite_f (decf (by show ¬ ((l.length : Int) < (r.t : Int)); omega)) (ite_f (decf (by show ¬ ((r.t : Int) < 0); omega)) (ite_f (decf (by show ¬ ((un : Int) < 0); omega)) (hJ27 _ _ ⟨decf (by show ¬ (j.u < (un : Int)); omega), rfl⟩)))⟩)))
    rintro _ _ ⟨rfl, rfl⟩
    refine ite_f rfl ?_
    by_cases hsg : sg = 1
    rotate_left
    · rw [if_neg hsg] at w11
      obtain ⟨rfl, rfl⟩ := w11
      refine ite_t (bnet (by show (sg : Int) ≠ 1; omega)) (Join.intro (fun (b : Bool) H' => b = true ∧ H25 = H') ?_ fun J31 hJ31 => ?_)
      · rintro _ _ ⟨rfl, rfl⟩
        exact ⟨rfl, kC⟩
      · refine ite_t rfl ?_
        by_cases h3 : sg = 3
        · exact ite_f (bnei (by show (sg : Int) = 3; omega)) (hJ31 _ _ ⟨beqi (by show (un : Int) = j.u; have := hN0.1 (hs3 h3); omega), rfl⟩)
        · exact ite_t (bnet (by show (sg : Int) ≠ 3; omega)) (hJ31 _ _ ⟨rfl, rfl⟩)
    rw [if_pos hsg] at w11
    obtain ⟨s0, hpd⟩ := hs1 hsg
    have hun : un = j.u.toNat := hN0.1 s0
    have hpl := padd_lt hpd
    rw [List.length_drop] at hpl
    have hBn : BL.length = j.u.toNat * eachL cs ps := by
      have e1 : BL.length = r.X.length := by rw [← w11, List.length_map]
      rw [e1, hRX s0, cat_mul (n := eachL cs ps) (fun k => by unfold jL; rw [List.length_map, walk_len hP]; omega)]
    have hBl : j.u.toNat * eachL cs ps ≤ 3000 * 10 := Nat.mul_le_mul (by omega) each.2
    have hmay : ∀ X ∈ BL, mayB X.1 := fun X hX => (hR.may X.1 (by rw [← w11]; exact List.mem_map.2 ⟨X, hX, rfl⟩)).2
    refine ite_f (bnei (by show (sg : Int) = 1; omega)) ?_
    intro b35 H37 m37 g35 g35'
    have k37 : Keep H25 H37 := m37.keep (by simp)
    have n37 := k37.size
    have kD := kC.trans k37
    have J37 := J.keep kD
    refine Walk_ok J37.hs J37.hok (by omega) J37.ht J37.hpk (by omega) (by omega) (by omega) fun p5 p40 p1 p3 p26 l8 m8 H39 wb k39 lo => ⟨Pv.keep k39 (by have := S25.lt; simp; omega), fun q1 q13 q35 => ?_⟩
    have n39 := k39.size
    obtain ⟨wf, we⟩ := wEnd_at (f := j.f) (u := j.u) (T := (Uni j.w j.h cs ps).1 * (Uni j.w j.h cs ps).2) ff0 uu0 fT
    have we' : wEnd j.f j.u ((Uni j.w j.h cs ps).1 * (Uni j.w j.h cs ps).2) = j.f + j.u := by rw [we]; omega
    rw [wf, we'] at wb
    have kE := kD.trans k39
    have k1139 : Keep H11 H39 := ((k15.trans k18).trans k25).trans (k37.trans k39)
    have db : DB W.heap H39 j b1 b13 k e (sg : Int) (un : Int) (r.t : Int) sl BL l := ⟨q1, q13, (S25.keep k37).keep k39, o11.kp k1139, kE⟩
    have dlt : ∀ b ∈ b1 :: b13 :: k :: fp sl, b < b35 := fun b hb => by
      rcases List.mem_cons.1 hb with rfl | hb
      · omega
      rcases List.mem_cons.1 hb with rfl | hb
      · omega
      rcases List.mem_cons.1 hb with rfl | hb
      · have := S25.lt; omega
      have := o11.fp_lt b hb; omega
    have wW : W.heap.size ≤ b35 := by have := kC.size; omega
    refine Rg_i fun rr H44 hrr k44 z44 hD hlp => ?_
    have n44 := k44.size
    have sq := walk_seq (wb.keep k44) J.hok (by omega) (by omega) (.func (.yield (H39.size + 1)) #[] #[])
    have hWn := walk_len (w := j.w) (h := j.h) hP j.f.toNat ((j.f + j.u).toNat - j.f.toNat)
    rw [show (j.f + j.u).toNat - j.f.toNat = j.u.toNat from by omega] at sq hWn
    generalize walkL j.w j.h cs ps j.f.toNat j.u.toNat = WL at sq hWn
    refine sq _ _ (fun i G H' => G = [H39.size + 1, b35] ∧ DB W.heap H' j b1 b13 k e (sg : Int) (un : Int) (r.t : Int) sl BL l ∧ Bk H' b35 3 [.int .i64 (i : Int)] ∧ Lp H' (H39.size + 1) rr ∧ Dfr [H39.size] H') (fun _ _ => False) [H39.size + 1, b35] ?_ ?_ ?_ ?_ ?_ ?_ ?_ ?_
    · intro b hb hh
      have q1 := lo b hh
      have q2 := wb.lts b hh
      simp at hb; omega
    · exact ⟨rfl, db.keep k44, q35.keep k44, hlp, hD, by simp, trivial⟩
    · rintro i G A B F ⟨rfl, a1, a2, a3, a4⟩ kk hF
      have nF : ∀ {y}, y < H44.size → y ∉ F := fun {y} hy hh => by have := (hF y hh).1; omega
      exact ⟨rfl, a1.ch kk (fun b hb => by have := (hF b hb).1; omega) (fun b hb => nF (by have := dlt b hb; omega)), a2.ch kk (nF (by omega)), a3.ch kk (nF (by omega)), Dfr.ch kk a4 (fun D hD' => nF (by simp at hD'; omega))⟩
    · exact fun _ _ _ _ hz => hz.elim
    · rintro i G A ⟨rfl, a1, a2, a3, a4⟩ b hb
      simp at hb
      rcases hb with rfl | rfl
      · exact a3.lt
      · exact a2.lt
    · rintro i G x H47 K hx ⟨rfl, a1, a2, a3, a4⟩ hT' hF'
      have hil := (List.getElem?_eq_some_iff.1 hx).1
      refine ⟨a3, a3, Up_s a3 fun H50 s50 l50 => ?_⟩
      have e50 := a2.same s50 (by omega)
      refine ldI_i e50 rfl (st_i e50 (by simp) fun H53 e53 s53 => ?_)
      have l53 := l50.ch s53.ch (by simp; omega)
      rw [show (i : Int) + 1 = ((i + 1 : Nat) : Int) from by omega, w64n (by omega)] at e53
      have cc : Ch [H39.size + 1, b35] H47 (putL H53 (H39.size + 1) rr) := ((s50.ch.mono (G := [H39.size + 1, b35]) (by simp)).trans s53.ch (by simp)).trans putL_same.ch (by simp)
      refine ⟨l53, hT' [H39.size + 1, b35] _ ⟨rfl, a1.ch cc (by simp; omega) (fun b hb hh => by have := dlt b hb; simp at hh; omega), e53.same putL_same (by omega), putL_lp l53, Dfr.ch cc a4 (by simp; omega)⟩ cc (fun b hb => .inl hb)⟩
    · rintro G H48 ⟨rfl, a1, a2, a3, a4⟩
      refine ⟨a3, Up_s a3 fun H55 s55 l55 => ?_⟩
      have d55 := a1.ch s55.ch (by simp; omega) (fun b hb hh => by have := dlt b hb; simp at hh; omega)
      have e55 := a2.same s55 (by omega)
      have r55 := Dfr.ch s55.ch a4 (by simp)
      have hcnt := d55.own.count cBl_len (by omega)
      have tk : ∀ {A : Hp} {P : Hp → Prop}, Dfr [H39.size] A → DB W.heap A j b1 b13 k e (sg : Int) (un : Int) (r.t : Int) sl BL l → (∀ A', Keep W.heap A' → P A') → tkD (H39.size :: []) A P := fun {A P} hd db hP' => tkD_ok hd fun H' c' z' => hP' H' ((db.kp.ch (F := [])).trans c' (by simp; have := kE.size; omega) |>.keep (by simp))
      refine Join.intro (fun (b : Bool) H' => b = false ∧ H55 = H') ?_ fun J56 hJ56 => ?_
      rotate_left
      · refine ldI_i e55 rfl (ldL_i d55.f13 rfl (ite_f (bnei ?_) (ldI_i d55.f13 rfl (job_at d55.j1 (.inr ⟨rfl, rfl⟩) (ite_f (bnei (by show (un : Int) = j.u; omega)) (ldI_i d55.f13 rfl (Left_ok d55.src ⟨by rw [d55.f13.cell]; rfl, hJ56 _ _ ⟨decf ?_, rfl⟩⟩)))))))
        · show (WL.length : Int) = ((sl.n : Nat) : Int)
          rw [hWn, hcnt, hBn]
        · rw [w64 (by omega)]; omega
      rintro _ _ ⟨rfl, rfl⟩
      refine ite_f rfl ?_
      refine Fix.intro (fun (x : Int) H' => ∃ i : Nat, x = (i : Int) ∧ i ≤ BL.length ∧ H55 = H') (fun x _ => BL.length - x.toNat) ⟨0, rfl, by omega, rfl⟩ ?_
      rintro _ _ ⟨i, rfl, hi, rfl⟩ rec hrec
      have hWB : (WL.length : Int) = (BL.length : Int) := by rw [hWn, hBn]
      refine ldI_i e55 rfl ?_
      by_cases hib : i < BL.length
      rotate_left
      · exact ite_f (decf (by omega)) (tk r55 d55 fun A' k' => ⟨rfl, k'⟩)
      obtain ⟨X, hX⟩ : ∃ X, BL[i]? = some X := ⟨_, get_some hib⟩
      have hm := hmay X (List.mem_of_getElem? hX)
      obtain ⟨bb, hab, hA⟩ := d55.own.at cBl_len (by omega) hX
      refine ite_t (dect (by omega)) ?_
      refine Fix.intro (fun (x : Int) H' => ∃ q : Nat, x = (q : Int) ∧ q ≤ 64 ∧ H55 = H') (fun x _ => 64 - x.toNat) ⟨0, rfl, by omega, rfl⟩ ?_
      rintro _ _ ⟨q, rfl, hq, rfl⟩ rec2 hrec2
      by_cases hq64 : q < 64
      rotate_left
      · refine ite_f (decf (by omega)) ?_
        rw [show (i : Int) + 1 = ((i + 1 : Nat) : Int) from by omega, w64n (by omega)]
        exact hrec _ _ ⟨i + 1, rfl, by omega, rfl⟩ (by simp; omega)
      refine ite_t (dect (by omega)) (ldL_i d55.f13 rfl ⟨by omega, by show (i : Int) < ((sl.n : Nat) : Int); omega, _, hab, by omega, by omega, ?_⟩)
      have hv : (cBl X)[q]? = some (.int .i16 (X.1.getD q 0)) := ints_get (by rw [X.2]; exact hq64)
      have hrange : X.1.getD q 0 ≤ 1023 ∧ -1024 ≤ X.1.getD q 0 ∧ (0 < q → X.1.getD q 0 ≠ -1024) := by
        by_cases h0 : q = 0
        · subst h0; have := hm.1; exact ⟨by omega, by omega, fun h => by omega⟩
        · have := hm.2 q (by omega) hq64; exact ⟨by omega, by omega, fun _ => by omega⟩
      rw [Int.toNat_natCast, Int.toNat_natCast, Nat.mul_one]
      refine ldI_of hA hv ?_
      generalize X.1.getD q 0 = v at hrange
      refine Join.intro (fun (b : Bool) H' => b = false ∧ H55 = H') ?_ fun J84 hJ84 => ?_
      · rintro _ _ ⟨rfl, rfl⟩
        refine ite_f rfl ?_
        rw [show (q : Int) + 1 = ((q + 1 : Nat) : Int) from by omega, w64n (by omega)]
        exact hrec2 _ _ ⟨q + 1, rfl, by omega, rfl⟩ (by simp; omega)
      · refine ite_f (decf (by omega)) (ite_f (decf (by omega)) ?_)
        by_cases h4 : v = -1024
        · exact ite_t (beqi h4) (hJ84 _ _ ⟨decf fun hq0 => hrange.2.2 (by omega) h4, rfl⟩)
        · exact ite_f (beqf h4) (hJ84 _ _ ⟨rfl, rfl⟩)
    · exact fun _ _ hz => hz.elim
  subst hJ
  exact key
end Go.Proofs.Ytlfdfikgbdgfdaa.G
