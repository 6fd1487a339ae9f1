/- Layer 14: GeomSizes. -/
import Derived.Test.YtlonijlcddlhjaaZ14x
import Derived.Test.YtlonijlcddlhjaaZ14v
import Derived.Test.YtlonijlcddlhjaaKGeomSizes
namespace Go.Proofs.Ytlonijlcddlhjaa.G
open Go.RowKit
set_option linter.unusedVariables false
set_option linter.unusedSimpArgs false

theorem cl_mul {a b : Int} (hb : 1 ≤ b) : a ≤ cl a b * b ∧ (cl a b - 1) * b < a := by
  unfold cl
  have e := Int.mul_ediv_add_emod (a + b - 1) b
  have r0 := Int.emod_nonneg (a + b - 1) (b := b) (by omega)
  have r1 := Int.emod_lt_of_pos (a + b - 1) (b := b) (by omega)
  rw [Int.sub_mul, Int.one_mul, Int.mul_comm _ b]
  omega
theorem mos_at {w h : Int} {cs : List Cp} (h0 : Chk w h cs = 0) : Mos w h cs = (mxH cs, mxV cs) := by unfold Mos; rw [if_pos h0]
theorem mos_no {w h : Int} {cs : List Cp} (h0 : Chk w h cs ≠ 0) : Mos w h cs = (0, 0) := by unfold Mos; rw [if_neg h0]
theorem GeomSizes_row (g w h : Int) (s : Sl) (k : Int) (W : World) (hg : 0 ≤ g ∧ g ≤ 255) (hw : -9223372036854775808 ≤ w ∧ w ≤ 9223372036854775807) (hh : -9223372036854775808 ≤ h ∧ h ≤ 9223372036854775807) (hs : SlH W.heap none 4 4 (X23 none W.heap) s) (hk : -9223372036854775808 ≤ k ∧ k ≤ 9223372036854775807) :
    mosaiclaw14_GeomSizes.s g w h s k W.heap (fun r H' => r = true ∧ Keep W.heap H') := by
  obtain ⟨cs, v0, hok, hl4⟩ := comps_view hs
  have n0 := v0.n
  have c0 := v0.c
  have hl : cs.length ≤ 140737488355328 := by omega
  unfold mosaiclaw14_GeomSizes.s
  intro b1 H2 c2 g1 g1'
  have k2 : Keep W.heap H2 := c2.keep (by simp)
  refine alive_ok14 fun H4 k4 => ⟨Pv.keep k4 (by simp; omega), gMost_ok ((v0.keep k2).keep k4) hok hl fun H7 k7 => ⟨Pv.keep k7 (by have := k4.size; simp; omega), ?_⟩⟩
  have y4 := k4.size
  have y7 := k7.size
  have kA := (k2.trans k4).trans k7
  refine gSamples_ok (v0.keep kA) hok hl fun H10 k10 => ⟨Pv.keep k10 (by simp; omega), gBlocks_ok (v0.keep (kA.trans k10)) hok hl fun H13 k13 => ⟨Pv.keep k13 (by have := k10.size; simp; omega), ?_⟩⟩
  have y10 := k10.size
  have y13 := k13.size
  have kB := (kA.trans k10).trans k13
  refine Join.intro (fun b H' => (b = true ↔ ¬ (Chk w h cs = 0 ∧ 0 ≤ k ∧ k < cs.length)) ∧ Keep W.heap H') ?_ fun J hJ => ?_
  rotate_left
  · refine gCheck_ok (v0.keep kB) hok hl fun H50 k50 => ⟨Pv.keep k50 (by simp; omega), ?_⟩
    by_cases h0 : Chk w h cs = 0
    · refine ite_f (bnei h0) ?_
      by_cases h1 : k < 0
      · exact ite_t (dect h1) (hJ _ _ ⟨⟨fun _ => by omega, fun _ => rfl⟩, kB.trans k50⟩)
      · refine ite_f (decf h1) (hJ _ _ ⟨?_, kB.trans k50⟩)
        rw [decide_eq_true_iff]
        constructor
        · intro; omega
        · intro hh; have : ¬ k < cs.length := fun q => hh ⟨h0, by omega, q⟩; omega
    · exact ite_t (bnet h0) (hJ _ _ ⟨⟨fun _ => fun q => h0 q.1, fun _ => rfl⟩, kB.trans k50⟩)
  rintro b17 H17 ⟨hb17, k17⟩
  by_cases hc : Chk w h cs = 0 ∧ 0 ≤ k ∧ k < cs.length
  rotate_left
  · refine ite_t (hb17.2 hc) ?_
    have hsam := sam_no hc
    have hblo : Blo w h cs k = (0, 0) := by unfold Blo; rw [hsam]; decide
    rw [hsam, hblo]
    refine Join.intro (fun b H' => b = true ∧ Keep W.heap H') ?_ fun J hJ => ?_
    · rintro _ H20 ⟨rfl, k20⟩
      refine Join.intro (fun b H' => b = true ∧ Keep W.heap H') (fun _ _ hh => hh) fun J hJ => ?_
      exact ite_t rfl (ite_t rfl (ite_t rfl (ite_t rfl (ite_t rfl (hJ _ _ ⟨rfl, k20⟩)))))
    · refine gCheck_ok (v0.keep k17) hok hl fun H25 k25 => ?_
      by_cases h0 : Chk w h cs = 0
      · exact ite_t (beqi h0) (hJ _ _ ⟨rfl, k17.trans k25⟩)
      · rw [mos_no h0]
        exact ite_f (beqf h0) (ite_t rfl (hJ _ _ ⟨rfl, k17.trans k25⟩))
  · have hf : b17 = false := by
      cases b17 with
      | false => rfl
      | true => exact absurd hc (hb17.1 rfl)
    obtain ⟨h0, hk0, hk1⟩ := hc
    have fr := chk_fr h0
    obtain ⟨c, hcc⟩ : ∃ c, cs[k.toNat]? = some c := ⟨_, get_some (by omega)⟩
    have hcm := List.mem_of_getElem? hcc
    obtain ⟨⟨ch1, ch4⟩, cv1, cv4⟩ := fr.fac c hcm
    obtain ⟨r1, r2⟩ := fr.rat c hcm
    have w1 := fr.w1
    have h1 := fr.h1
    have mh := fr.mh
    have mv := fr.mv
    have hsam := sam_at h0 hk0 hcc
    obtain ⟨⟨sx0, sx1⟩, sy0, sy1⟩ := sam_le (w := w) (h := h) (cs := cs) (i := k)
    have hblo : Blo w h cs k = (cl (Sam w h cs k).1 8, cl (Sam w h cs k).2 8) := rfl
    obtain ⟨⟨bx0, bx1⟩, by0, by1⟩ := blo_le (w := w) (h := h) (cs := cs) (i := k)
    rw [hblo] at bx0 bx1 by0 by1 ⊢
    simp only at bx0 bx1 by0 by1 ⊢
    obtain ⟨ax, ax'⟩ := cl_mul (a := (Sam w h cs k).1) (b := 8) (by omega)
    obtain ⟨ay, ay'⟩ := cl_mul (a := (Sam w h cs k).2) (b := 8) (by omega)
    obtain ⟨dx, dx'⟩ := cl_mul (a := w * c.h) (b := mxH cs) (by omega)
    obtain ⟨dy, dy'⟩ := cl_mul (a := h * c.v) (b := mxV cs) (by omega)
    have ex : cl (w * c.h) (mxH cs) = (Sam w h cs k).1 := by rw [hsam]
    have ey : cl (h * c.v) (mxV cs) = (Sam w h cs k).2 := by rw [hsam]
    rw [ex] at dx dx'
    rw [ey] at dy dy'
    obtain ⟨pw0, pw1⟩ := mul_le4 (a := w) (b := c.h) (by omega) (by omega)
    obtain ⟨ph0, ph1⟩ := mul_le4 (a := h) (b := c.v) (by omega) (by omega)
    have mx : 0 ≤ (Sam w h cs k).1 * mxH cs ∧ (Sam w h cs k).1 * mxH cs ≤ 262140 * 4 := ⟨Int.mul_nonneg sx0 (by omega), Int.mul_le_mul sx1 mh.2 (by omega) (by omega)⟩
    have my : 0 ≤ (Sam w h cs k).2 * mxV cs ∧ (Sam w h cs k).2 * mxV cs ≤ 262140 * 4 := ⟨Int.mul_nonneg sy0 (by omega), Int.mul_le_mul sy1 mv.2 (by omega) (by omega)⟩
    rw [Int.sub_mul, Int.one_mul] at dx' dy'
    rw [mos_at h0]
    generalize hX : (Sam w h cs k).1 = X at *
    generalize hY : (Sam w h cs k).2 = Y at *
    generalize cl X 8 = BX at *
    generalize cl Y 8 = BY at *
    obtain ⟨b, o, ha, hA⟩ := (v0.keep k17).get hcc
    refine ite_f hf ⟨hk0, by omega, _, ha, _, _, _, _, hA, ?_⟩
    intro b35 H37 c35 g35 g35'
    have k37 : Keep W.heap H37 := k17.trans (c35.keep (by simp))
    have cok := hok c hcm
    obtain ⟨_, ⟨o1, o2⟩, ⟨o3, o4⟩, _⟩ := cok
    rw [wu (x := c.h) (by omega), wu (x := c.v) (by omega), w64 (x := w * c.h) (by omega), w64 (x := h * c.v) (by omega), w64 (x := X * mxH cs) (by omega), w64 (x := Y * mxV cs) (by omega), w64 (x := X - 1) (by omega), w64 (x := Y - 1) (by omega),
      w64 (x := 8 * BX) (by omega), w64 (x := 8 * BY) (by omega), w64 (x := X + 8) (by omega), w64 (x := Y + 8) (by omega), w64 (x := (X - 1) * mxH cs) (by rw [Int.sub_mul, Int.one_mul]; omega), w64 (x := (Y - 1) * mxV cs) (by rw [Int.sub_mul, Int.one_mul]; omega), Int.sub_mul, Int.one_mul, Int.sub_mul, Int.one_mul]
    refine Join.intro (fun b H' => b = true ∧ Keep W.heap H') ?_ fun J hJ => ite_t (dect (by omega)) (hJ _ _ ⟨dect (by omega), k37⟩)
    rintro _ H40 ⟨rfl, k40⟩
    refine Join.intro (fun b H' => b = true ∧ Keep W.heap H') ?_ fun J hJ => ite_t (dect (by omega)) (hJ _ _ ⟨dect (by omega), k40⟩)
    rintro _ H43 ⟨rfl, k43⟩
    refine Join.intro (fun b H' => b = true ∧ Keep W.heap H') ?_ fun J hJ => ite_t (dect (by omega)) (ite_t (dect (by omega)) (ite_t (dect (by omega)) (hJ _ _ ⟨dect (by omega), k43⟩)))
    rintro _ H46 ⟨rfl, k46⟩
    rw [if_pos rfl, if_pos rfl, if_pos rfl, if_pos trivial]
    refine ⟨by omega, ite_t (beqi r1) ⟨by omega, ite_t (beqi r2) (ite_t (dect mh.2) ⟨dect mv.2, k46⟩)⟩⟩
end Go.Proofs.Ytlonijlcddlhjaa.G
