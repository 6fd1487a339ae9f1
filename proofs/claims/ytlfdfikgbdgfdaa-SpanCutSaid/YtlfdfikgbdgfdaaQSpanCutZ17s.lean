/- Of this text what the row needs. -/
import Derived.Test.YtlfdfikgbdgfdaaQSpanCutZ17q
import Derived.Test.YtlfdfikgbdgfdaaQSpanCutKSpanCut
namespace Go.Proofs.Ytlfdfikgbdgfdaa.G
open Go.RowKit
set_option linter.unusedVariables false
set_option linter.unusedSimpArgs false
set_option maxHeartbeats 1000000 in
theorem SpanCut_row (file : ByteArray) (g w h : Int) (s t : Sl) (d0 : Cn) (e0 : Sl) (d1 : Cn) (e1 : Sl) (d2 : Cn) (e2 : Sl) (d3 : Cn) (e3 : Sl) (a0 : Cn) (f0 : Sl) (a1 : Cn) (f1 : Sl) (a2 : Cn) (f2 : Sl) (a3 : Cn) (f3 : Sl) (f u cut : Int) (W : World)
    (hfile : file.size < 140737488355328) (hg : 0 ≤ g ∧ g ≤ 255) (hw : -9223372036854775808 ≤ w ∧ w ≤ 9223372036854775807) (hh : -9223372036854775808 ≤ h ∧ h ≤ 9223372036854775807)
    (hs : SlH W.heap none 4 4 (X98 none W.heap) s) (ht : SlH W.heap none 16 3 (X67 none W.heap) t)
    (c0 : ∀ v ∈ d0.1, 0 ≤ v ∧ v ≤ 255) (z0 : SlH W.heap none 1 1 (X5 none W.heap) e0) (c1 : ∀ v ∈ d1.1, 0 ≤ v ∧ v ≤ 255) (z1 : SlH W.heap none 1 1 (X5 none W.heap) e1)
    (c2 : ∀ v ∈ d2.1, 0 ≤ v ∧ v ≤ 255) (z2 : SlH W.heap none 1 1 (X5 none W.heap) e2) (c3 : ∀ v ∈ d3.1, 0 ≤ v ∧ v ≤ 255) (z3 : SlH W.heap none 1 1 (X5 none W.heap) e3)
    (b0 : ∀ v ∈ a0.1, 0 ≤ v ∧ v ≤ 255) (y0 : SlH W.heap none 1 1 (X5 none W.heap) f0) (b1 : ∀ v ∈ a1.1, 0 ≤ v ∧ v ≤ 255) (y1 : SlH W.heap none 1 1 (X5 none W.heap) f1)
    (b2 : ∀ v ∈ a2.1, 0 ≤ v ∧ v ≤ 255) (y2 : SlH W.heap none 1 1 (X5 none W.heap) f2) (b3 : ∀ v ∈ a3.1, 0 ≤ v ∧ v ≤ 255) (y3 : SlH W.heap none 1 1 (X5 none W.heap) f3)
    (hf : -9223372036854775808 ≤ f ∧ f ≤ 9223372036854775807) (hu : -9223372036854775808 ≤ u ∧ u ≤ 9223372036854775807) (hcut : -9223372036854775808 ≤ cut ∧ cut ≤ 9223372036854775807) :
    mosaiclaw17_SpanCut.s file g w h s t d0 e0 d1 e1 d2 e2 d3 e3 a0 f0 a1 f1 a2 f2 a3 f3 f u cut W.heap (fun r H' => r = true ∧ Keep W.heap H') := by
  obtain ⟨cs, ps, TV, J⟩ := job_view (j := ⟨g, w, h, s, t, (d0, e0), (d1, e1), (d2, e2), (d3, e3), (a0, f0), (a1, f1), (a2, f2), (a3, f3), f, u⟩) hs ht ⟨c0, z0⟩ ⟨c1, z1⟩ ⟨c2, z2⟩ ⟨c3, z3⟩ ⟨b0, y0⟩ ⟨b1, y1⟩ ⟨b2, y2⟩ ⟨b3, y3⟩ hf hu
  unfold mosaiclaw17_SpanCut.s
  intro q1 H2 m2 r1 r1'
  have k2 : Keep W.heap H2 := m2.keep (by simp)
  refine alive_ok17 fun H4 k4 => ⟨Pv.keep k4 (by simp; omega), large17_ok (j := ⟨g, w, h, s, t, (d0, e0), (d1, e1), (d2, e2), (d3, e3), (a0, f0), (a1, f1), (a2, f2), (a3, f3), f, u⟩) fun H7 k7 => ⟨Pv.keep k7 (by have := k4.size; simp; omega), ?_⟩⟩
  have n4 := k4.size
  have n7 := k7.size
  have kA := (k2.trans k4).trans k7
  by_cases hL : (3000 : Int) < u
  · exact ite_t (dect hL) ⟨rfl, kA⟩
  refine ite_f (decf hL) ?_
  have hi1 : hiOf file.size 0 (file.size : Int) = file.size := by unfold hiOf loOf; omega
  have lo1 : loOf file.size 0 = 0 := by unfold loOf; omega
  obtain ⟨xs, e, hc⟩ := Cut.ex (f := file) (b := file.size) file.size 0 (by omega) (by omega)
  refine Decode_ok (j := ⟨g, w, h, s, t, (d0, e0), (d1, e1), (d2, e2), (d3, e3), (a0, f0), (a1, f1), (a2, f2), (a3, f3), f, u⟩) (xs := xs) (e := e) (J.keep kA) (by omega) (by rw [hi1, lo1]; exact hc) (fun _ => by show u ≤ 3000; omega) (fun hz H10 k10 => ⟨Pv.keep k10 (by simp; omega), ?_⟩) fun hz r un l hl hr sl BL H10 o10 w10 f10 k10 => ⟨Pv.keep k10 (by simp; omega), ?_⟩
  · intro b12 H14 m14 g12 g12'
    refine Join.intro (fun (b : Bool) H' => b = true ∧ H14 = H') ?_ fun J hJ => ?_
    · rintro _ _ ⟨rfl, rfl⟩
      exact ite_t rfl ⟨rfl, (kA.trans k10).trans (m14.keep (by simp))⟩
    · exact ite_f rfl (ite_t (bnet hz) (hJ _ _ ⟨rfl, rfl⟩))
  intro b12 H14 m14 g12 g12'
  have k1014 : Keep H10 H14 := m14.keep (by simp)
  have kB := (kA.trans k10).trans k1014
  have n10 := k10.size
  have n14 := k1014.size
  have hT := fun q (hq : q < ps.length) => jT_ok J hz hq
  have hR := jRd_ok (cs := cs) hT (l.map (·.1)) u.toNat
  have hN := jRd_n (j := (⟨g, w, h, s, t, (d0, e0), (d1, e1), (d2, e2), (d3, e3), (a0, f0), (a1, f1), (a2, f2), (a3, f3), f, u⟩ : Jb)) (cs := cs) (ps := ps) (TV := TV) (l.map (·.1)) u.toNat
  have hr2 : jRd (⟨g, w, h, s, t, (d0, e0), (d1, e1), (d2, e2), (d3, e3), (a0, f0), (a1, f1), (a2, f2), (a3, f3), f, u⟩ : Jb) cs ps TV (l.map (·.1)) u.toNat = (r, un) := hr
  have hP2 : ∀ m, r.st = 0 → m ≤ (l.map (·.1)).length → (r.t ≤ m → (jRd (⟨g, w, h, s, t, (d0, e0), (d1, e1), (d2, e2), (d3, e3), (a0, f0), (a1, f1), (a2, f2), (a3, f3), f, u⟩ : Jb) cs ps TV ((l.map (·.1)).take m) u.toNat).1.st = 0 ∧ (jRd (⟨g, w, h, s, t, (d0, e0), (d1, e1), (d2, e2), (d3, e3), (a0, f0), (a1, f1), (a2, f2), (a3, f3), f, u⟩ : Jb) cs ps TV ((l.map (·.1)).take m) u.toNat).1.t = r.t) ∧ (m < r.t → (jRd (⟨g, w, h, s, t, (d0, e0), (d1, e1), (d2, e2), (d3, e3), (a0, f0), (a1, f1), (a2, f2), (a3, f3), f, u⟩ : Jb) cs ps TV ((l.map (·.1)).take m) u.toNat).1.st = 2) := fun m q1 q2 => by
    have := jRd_pre (cs := cs) (n := u.toNat) (m := m) hT (B := l.map (·.1))
    rw [hr2] at this
    exact this q1 q2
  rw [hr2] at hR hN
  refine Join.intro (fun (b : Bool) H' => (b = false → jSt r l (decide (e = hiOf file.size 0 (file.size : Int))) = 1 ∧ file.size ≠ 0) ∧ H14 = H') ?_ fun J15 hJ15 => ?_
  rotate_left
  · refine ite_f rfl (ite_f rfl ?_)
    by_cases h1 : jSt r l (decide (e = hiOf file.size 0 (file.size : Int))) = 1
    · refine ite_f (bnei (by show ((jSt r l (decide (e = hiOf file.size 0 (file.size : Int))) : Nat) : Int) = 1; omega)) (hJ15 _ _ ⟨fun hb => ⟨h1, fun h0 => ?_⟩, rfl⟩)
      have : ((file.size : Int) == 0) = true := beqi (by omega)
      rw [this] at hb; cases hb
    · exact ite_t (bnet (by show ((jSt r l (decide (e = hiOf file.size 0 (file.size : Int))) : Nat) : Int) ≠ 1; omega)) (hJ15 _ _ ⟨fun hb => (by cases hb), rfl⟩)
  rintro bb _ ⟨hbb, rfl⟩
  cases bb with
  | true => exact ite_t rfl ⟨rfl, kB⟩
  | false =>
  obtain ⟨hst, hfs⟩ := hbb rfl
  obtain ⟨s0, hpd⟩ := jSt_one hR.1.st hst
  refine ite_f rfl ⟨by omega, ?_⟩
  have hun : un = u.toNat := hN.2.1 s0
  obtain ⟨hPrt, _, ff0, uu0, _, _⟩ := jchk_no hz
  have uu0 : 0 ≤ u := uu0
  refine Join.intro (fun (x : Int) H' => ∃ n : Nat, x = (n : Int) ∧ n < file.size ∧ H14 = H') ?_ fun J19 hJ19 => ?_
  rotate_left
  · have t0 := Int.tmod_lt_of_pos cut (b := (file.size : Int)) (by omega)
    have t1 : -(file.size : Int) < Int.tmod cut (file.size : Int) := (Int.lt_tmod_of_pos cut (by omega))
    by_cases hneg : Int.tmod cut (file.size : Int) < 0
    · refine ite_t (dect hneg) (Lt.of (hJ19 _ _ ⟨(Int.tmod cut (file.size : Int) + (file.size : Int)).toNat, ?_, by omega, rfl⟩))
      rw [w64 (by omega)]; omega
    · exact ite_f (decf hneg) (hJ19 _ _ ⟨(Int.tmod cut (file.size : Int)).toNat, by omega, by omega, rfl⟩)
  rintro _ _ ⟨n, rfl, hn, rfl⟩
  have hi2 : hiOf file.size 0 (n : Int) = n := by unfold hiOf loOf; omega
  obtain ⟨ys, e', hc'⟩ := Cut.ex (f := file) (b := n) n 0 (by omega) (by omega)
  obtain ⟨zs, hz2⟩ := cut_pre (by omega) hc' hc
  refine Decode_ok (j := ⟨g, w, h, s, t, (d0, e0), (d1, e1), (d2, e2), (d3, e3), (a0, f0), (a1, f1), (a2, f2), (a3, f3), f, u⟩) (xs := ys) (e := e') (J.keep kB) (by omega) (by rw [hi2, lo1]; exact hc') (fun _ => by show u ≤ 3000; omega) (fun hz' => absurd hz hz') fun _ r' un' l' hl' hr' sl' BL' H23 o23 w23 f23 k23 => ⟨Pv.keep k23 (by simp; omega), ?_⟩
  intro b25 H27 m27 g25 g25'
  have k27 : Keep H23 H27 := m27.keep (by simp)
  have n23 := k23.size
  have n27 := k27.size
  refine Open_ok (xs := ys) (e := e') (by omega) (by rw [hi2, lo1]; exact hc') fun k H29 S29 k29 gk => ⟨Pv.keep k29 (by simp; omega), ?_⟩
  rw [lo1] at S29 hl hl'
  rw [← hl'] at S29
  have n29 := k29.size
  have kC := ((kB.trans k23).trans k27).trans k29
  -- the bits
  have hB : l.map (·.1) = (l'.map (·.1)) ++ zs.flatMap (bl 8) := by rw [hl, hl', remB_fst, remB_fst, hz2, List.flatMap_append]
  have hBl : l'.map (·.1) = (l.map (·.1)).take l'.length := by rw [hB, List.take_left' (by simp)]
  have hll : l'.length ≤ (l.map (·.1)).length := by rw [hB, List.length_append, List.length_map]; omega
  have hr3 : jRd (⟨g, w, h, s, t, (d0, e0), (d1, e1), (d2, e2), (d3, e3), (a0, f0), (a1, f1), (a2, f2), (a3, f3), f, u⟩ : Jb) cs ps TV (l'.map (·.1)) u.toNat = (r', un') := hr'
  have hR' := jRd_ok (cs := cs) hT (l'.map (·.1)) u.toNat
  have hN' := jRd_n (j := (⟨g, w, h, s, t, (d0, e0), (d1, e1), (d2, e2), (d3, e3), (a0, f0), (a1, f1), (a2, f2), (a3, f3), f, u⟩ : Jb)) (cs := cs) (ps := ps) (TV := TV) (l'.map (·.1)) u.toNat
  rw [hr3] at hR' hN'
  have hpp := hP2 l'.length s0 hll
  rw [← hBl, hr3] at hpp
  obtain ⟨p1, p2⟩ := hpp
  dsimp only at p1 p2
  have hle' := hR'.1.le
  rw [List.length_map] at hle'
  dsimp only at hle'
  have htt : r'.t ≤ r.t := by
    by_cases q : r.t ≤ l'.length
    · exact Nat.le_of_eq (p1 q).2
    · omega
  refine Join.intro (fun (b : Bool) H' => b = false ∧ Keep H29 H') ?_ fun J31 hJ31 => ?_
  rotate_left
  · refine ite_f rfl (ite_f rfl (ite_f (decf (by show ¬ ((r.t : Int) < (r'.t : Int)); omega)) (ite_f (decf (by show ¬ ((un : Int) < (un' : Int)); have := hN'.1; dsimp only at this; omega)) (Left_ok S29 ⟨fun _ _ => rfl, hJ31 _ _ ⟨decf (by show ¬ ((l'.length : Int) < (r'.t : Int)); omega), Keep.refl _⟩⟩))))
  rintro _ H33 ⟨rfl, k33⟩
  have kD := kC.trans k33
  refine ite_f rfl (Left_ok (S29.keep k33) ⟨fun _ _ => rfl, ?_⟩)
  by_cases q : r.t ≤ l'.length
  · obtain ⟨v1, v2⟩ := p1 q
    have hu' : un' = u.toNat := hN'.2.1 v1
    exact ite_f (decf (by show ¬ ((l'.length : Int) < (r.t : Int)); omega)) (ite_t (beqi (by show (un' : Int) = (un : Int); omega)) ⟨beqi (by show (r'.t : Int) = (r.t : Int); omega), kD⟩)
  · have v1 := p2 (by omega)
    have hu' : un' ≠ u.toNat := fun hh => by have := hN'.2.2 hh; dsimp only at this; omega
    have hle := hN'.1
    dsimp only at hle
    have hs2 : jSt r' l' (decide (e' = hiOf file.size 0 (n : Int))) = 2 := by unfold jSt; rw [if_pos (by omega)]; exact v1
    rw [hs2, if_neg (by decide)] at w23
    obtain ⟨rfl, rfl⟩ := w23
    refine ite_t (dect (by show (l'.length : Int) < (r.t : Int); omega)) ?_
    rw [hs2]
    refine Join.intro (fun (b : Bool) H' => b = true ∧ H33 = H') ?_ fun J39 hJ39 => ?_
    · rintro _ _ ⟨rfl, rfl⟩
      exact ⟨rfl, kD⟩
    · exact ite_t rfl (ite_t (dect (by show (un' : Int) < (un : Int); omega)) (hJ39 _ _ ⟨rfl, rfl⟩))
end Go.Proofs.Ytlfdfikgbdgfdaa.G
