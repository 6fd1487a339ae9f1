/- Of this text what the row needs. -/
import Derived.Test.YtlfdfikgbdgfdaaQSpanBackZ17a
namespace Go.Proofs.Ytlfdfikgbdgfdaa.G
open Go.RowKit
set_option linter.unusedVariables false
set_option linter.unusedSimpArgs false
set_option maxRecDepth 20000
section
variable {H : Hp} {j : Jb} {cs : List Cp} {ps : List Pa} {TV : Nat → List Nat}
theorem jchk_no (h : jChk j cs ps TV = 0) : Prt j.w j.h cs ps = 0 ∧ rdE j TV ps = 0 ∧ 0 ≤ j.f ∧ 0 ≤ j.u ∧ j.f ≤ (Uni j.w j.h cs ps).1 * (Uni j.w j.h cs ps).2 ∧ j.u ≤ (Uni j.w j.h cs ps).1 * (Uni j.w j.h cs ps).2 - j.f := by
  unfold jChk at h
  by_cases h1 : Prt j.w j.h cs ps ≠ 0
  · rw [if_pos h1] at h; exact absurd h h1
  rw [if_neg h1] at h
  by_cases h2 : rdE j TV ps ≠ 0
  · rw [if_pos h2] at h; exact absurd h h2
  rw [if_neg h2] at h
  split at h
  · cases h
  · exact ⟨by omega, by omega, by omega, by omega, by omega, by omega⟩
theorem uniw {w h : Int} {cs : List Cp} {ps : List Pa} : IntKind.wrap .i64 ((Uni w h cs ps).1 * (Uni w h cs ps).2) = (Uni w h cs ps).1 * (Uni w h cs ps).2 := by
  have := uni_area (w := w) (h := h) (cs := cs) (ps := ps)
  exact w64 (by omega)
set_option maxHeartbeats 1000000 in
theorem jmay_ok {Q : Sl × Sl × Int → Hp → Prop} (J : JV H j cs ps TV)
    (h0 : jChk j cs ps TV ≠ 0 → ∀ H', Keep H H' → Q (⟨none, 0, 0⟩, ⟨none, 0, 0⟩, jChk j cs ps TV) H')
    (h : jChk j cs ps TV = 0 → ∀ dl al ts us H', Own H' 76 1 dl (ts.flatMap cPt) → Own H' 76 1 al (us.flatMap cPt) → ts.length = ps.length → us.length = ps.length → TbL H H' j TV ps (fun p => p.dc.toNat) ts [] → TbL H H' j TV ps (fun p => 4 + p.ac.toNat) us [] → (∀ b ∈ fp dl ++ fp al, H.size ≤ b) → Keep H H' → Q (dl, al, 0) H') :
    span_may.s j.g j.w j.h j.s j.t j.d0.1 j.d0.2 j.d1.1 j.d1.2 j.d2.1 j.d2.2 j.d3.1 j.d3.2 j.a0.1 j.a0.2 j.a1.1 j.a1.2 j.a2.1 j.a2.2 j.a3.1 j.a3.2 j.f j.u H Q := by
  have hf := J.hf
  have hu := J.hu
  have hl := J.hl
  have hm := J.hm
  obtain ⟨a0, a1⟩ := uni_area (w := j.w) (h := j.h) (cs := cs) (ps := ps)
  have hJ : jChk j cs ps TV = if Prt j.w j.h cs ps ≠ 0 then Prt j.w j.h cs ps else if rdE j TV ps ≠ 0 then rdE j TV ps else
    if j.f < 0 ∨ j.u < 0 ∨ (Uni j.w j.h cs ps).1 * (Uni j.w j.h cs ps).2 < j.f ∨ (Uni j.w j.h cs ps).1 * (Uni j.w j.h cs ps).2 - j.f < j.u then 3 else 0 := rfl
  unfold span_may.s
  intro b1 H2 c2 g1 g1' b3 H4 c4 g3 g3'
  have k2 : Keep H H2 := c2.keep (by simp)
  have k4 : Keep H H4 := k2.trans (c4.keep (by simp))
  have y2 := c2.size
  have y4 := c4.size
  have J4 := J.keep k4
  have out : ∀ {A : Hp}, Keep H A → jChk j cs ps TV ≠ 0 → Gr [b3] A (fun H8 => Q (⟨none, 0, 0⟩, ⟨none, 0, 0⟩, jChk j cs ps TV) H8) := fun {A} kA hn => fun H8 c8 => h0 hn H8 ((kA.ch (F := [])).trans c8 (by simp; omega) |>.keep (by simp))
  refine gParts_ok J4.hs J4.hok (by omega) J4.ht J4.hpk fun H6 k6 => ⟨Pv.keep k6 (by simp; omega), ?_⟩
  have y6 := k6.size
  by_cases hP : Prt j.w j.h cs ps = 0
  rotate_left
  · rw [if_pos hP] at hJ
    refine ite_t (bnet hP) ?_
    rw [← hJ]
    exact out (k4.trans k6) (by rw [hJ]; exact hP)
  rw [if_neg (by omega)] at hJ
  have k6' := k4.trans k6
  refine ite_f (bnei hP) (ready_ok (J.keep k6') hP (fun hn H10 k10 => ⟨Pv.keep k10 (by simp; omega), ?_⟩) fun hz dl al ts us H10 od oa tl ul td ta fr k10 => ⟨Pv.keep k10 (by simp; omega), ?_⟩)
  · rw [if_pos hn] at hJ
    intro b12 H14 c14 g12 g12'
    refine ite_t (bnet hn) ?_
    rw [← hJ]
    exact out ((k6'.trans k10).trans (c14.keep (by simp))) (by rw [hJ]; exact hn)
  rw [if_neg (by omega)] at hJ
  intro b12 H14 c14 g12 g12'
  have y10 := k10.size
  have y14 := c14.size
  have k14 : Keep H10 H14 := c14.keep (by simp)
  have kA := (k6'.trans k10).trans k14
  have J14 := J.keep kA
  refine ite_f rfl (gUnits_ok J14.hs J14.hok (by omega) J14.ht J14.hpk fun H17 k17 => ⟨Pv.keep k17 (by simp; omega), ?_⟩)
  have y17 := k17.size
  dsimp only
  rw [uniw]
  generalize (Uni j.w j.h cs ps).1 * (Uni j.w j.h cs ps).2 = T at *
  refine Join.intro (fun (b : Bool) H' => H17 = H' ∧ b = (decide (j.f < 0) || decide (j.u < 0) || decide (T < j.f) || decide (IntKind.wrap .i64 (T - j.f) < j.u))) ?_ fun J hJ => join_or4 (hJ _ _ ⟨rfl, rfl⟩)
  rintro _ _ ⟨rfl, rfl⟩
  by_cases hb : j.f < 0 ∨ j.u < 0 ∨ T < j.f ∨ T - j.f < j.u
  · rw [if_pos hb] at hJ
    have hc : (decide (j.f < 0) || decide (j.u < 0) || decide (T < j.f) || decide (IntKind.wrap .i64 (T - j.f) < j.u)) = true := by
      by_cases q : j.f < 0
      · simp [q]
      · rw [w64 (by omega)]
        simp; omega
    refine ite_t hc ?_
    have := out (kA.trans k17) (by rw [hJ]; decide)
    rw [hJ] at this
    exact this
  · rw [if_neg hb] at hJ
    have hc : (decide (j.f < 0) || decide (j.u < 0) || decide (T < j.f) || decide (IntKind.wrap .i64 (T - j.f) < j.u)) = false := by
      rw [w64 (by omega)]
      simp; omega
    refine ite_f hc fun H23 c23 => ?_
    have kB : Keep H10 H17 := k14.trans k17
    have y17' := kB.size
    have e10 : H.size ≤ H10.size := (k6'.trans k10).size
    have c23' : Ch [b3] H17 H23 := c23
    have n3 : ∀ b ∈ fp dl ++ fp al, b ∉ [b3] := fun b hb hh => by have := fr b hb; simp at hh; omega
    have tt : ∀ {f : Pa → Nat} {zs : List Nat}, TbL H6 H10 j TV ps f zs [] → TbL H H23 j TV ps f zs [] := fun {f zs} t i p u hp hu => by
      obtain ⟨q0, sv, q1, q2⟩ := t i p u hp hu
      refine ⟨q0, sv, (q1.keep kB).ch c23' (fun b hb hh => by have := (q2 b hb).1; simp at hh; omega), fun b hb => ?_⟩
      have := q2 b hb
      have := c23'.size
      have := k6'.size
      exact ⟨by omega, by omega, by simp⟩
    refine h hJ dl al ts us H23 ((od.kp kB).ch c23' fun b hb => n3 b (by simp [hb])) ((oa.kp kB).ch c23' fun b hb => n3 b (by simp [hb])) tl ul (tt td) (tt ta) (fun b hb => ?_) (((k6'.trans k10).trans kB).ch (F := []) |>.trans c23' (by simp; omega) |>.keep (by simp))
    have := fr b hb; have := k6'.size; omega
end
end Go.Proofs.Ytlfdfikgbdgfdaa.G
