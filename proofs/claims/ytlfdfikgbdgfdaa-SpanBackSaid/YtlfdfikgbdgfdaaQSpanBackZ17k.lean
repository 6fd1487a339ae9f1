/- Of this text what the row needs. -/
import Derived.Test.YtlfdfikgbdgfdaaQSpanBackZ17b
namespace Go.Proofs.Ytlfdfikgbdgfdaa.G
open Go.RowKit
set_option linter.unusedVariables false
set_option linter.unusedSimpArgs false
theorem Check17k_ok {H : Hp} {j : Jb} {cs : List Cp} {ps : List Pa} {TV : Nat → List Nat} {Q : Int → Hp → Prop} (J : JV H j cs ps TV) (h : ∀ H', Keep H H' → Q (jChk j cs ps TV) H') :
    span_Check.s j.g j.w j.h j.s j.t j.d0.1 j.d0.2 j.d1.1 j.d1.2 j.d2.1 j.d2.2 j.d3.1 j.d3.2 j.a0.1 j.a0.2 j.a1.1 j.a1.2 j.a2.1 j.a2.2 j.a3.1 j.a3.2 j.f j.u H Q := by
  unfold span_Check.s
  intro b1 H2 c2 g1 g1'
  have k2 : Keep H H2 := c2.keep (by simp)
  refine jmay_ok (J.keep k2) (fun _ H4 k4 => ?_) fun hz dl al ts us H4 _ _ _ _ _ _ _ k4 => ?_
  · intro b5 H7 c7 g5 g5'
    exact h H7 ((k2.trans k4).trans (c7.keep (by simp)))
  · intro b5 H7 c7 g5 g5'
    have := h H7 ((k2.trans k4).trans (c7.keep (by simp)))
    rwa [hz] at this
end Go.Proofs.Ytlfdfikgbdgfdaa.G
