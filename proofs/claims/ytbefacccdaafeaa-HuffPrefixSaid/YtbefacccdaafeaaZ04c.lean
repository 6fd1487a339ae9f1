/- Layer 4: HuffCheck. -/
import Derived.Test.YtbefacccdaafeaaZ04b
import Derived.Test.YtbefacccdaafeaaKHuffCheck
import Derived.Test.YtbefacccdaafeaaGT
namespace Go.Proofs.Ytbefacccdaafeaa.G
open Go.RowKit
set_option linter.unusedVariables false
set_option linter.unusedSimpArgs false

theorem bytes_view {H : Hp} {m : Option Nat} {s : Sl} (h : SlH H m 1 1 (X5 m H) s) : ∃ vs : List Nat, SlV H s 1 cB vs ∧ (∀ v ∈ vs, v < 256) ∧ (s.c = 0 ∨ szL m 1 s.c) := by
  obtain ⟨xs, h1, h2, h3⟩ := h.view (f := cB) (B := fun v => v < 256) fun cs ⟨a, e, hb⟩ => ⟨a.toNat, by rw [e, cB, Int.toNat_of_nonneg hb.1], by omega⟩
  exact ⟨xs, h1, h2, h3⟩
theorem HuffCheck_row (c : Cn) (s : Sl) (W : World) (hc : ∀ v ∈ c.1, 0 ≤ v ∧ v ≤ 255) (hs : SlH W.heap none 1 1 (X5 none W.heap) s) : mosaiclaw04_HuffCheck.s c s W.heap (fun r H' => r = true ∧ Keep W.heap H') := by
  obtain ⟨vs, v0, hv, z0⟩ := bytes_view hs
  have n0 := v0.n
  have c0 := v0.c
  have hl : vs.length ≤ 140737488351232 := by
    rcases z0 with z | z
    · omega
    · have : s.c * 1 ≤ 140737488351232 := z
      omega
  unfold mosaiclaw04_HuffCheck.s
  intro b1 H2 c2 g1 g1'
  have k2 : Keep W.heap H2 := c2.keep (by simp)
  refine twin_ok (v0.keep k2) (by omega) fun full m H4 T4 k4 f4 => ⟨Pv.keep k4 (by simp; omega), ?_⟩
  have y4 := k4.size
  intro b6 H8 c8 g8 g8'
  have k8 : Keep H4 H8 := c8.keep (by simp)
  have y8 := k8.size
  have kA := (k2.trans k4).trans k8
  have T8 := T4.keep k8
  refine rCheck_ok hc (v0.keep kA) (by omega) fun H10 k10 => ⟨Pv.keep k10 (by simp; omega), ?_⟩
  have y10 := k10.size
  refine Check_ok hc (T8.keep k10).view hv (by omega) fun H15 k15 => ⟨Pv.keep k15 (by simp; omega), ite_t (beqi rfl) ?_⟩
  have y15 := k15.size
  have kB := k10.trans k15
  refine Room_ok hc (T8.keep kB).view hv (by omega) fun H20 k20 => ⟨Pv.keep k20 (by simp; omega), ?_⟩
  have y20 := k20.size
  refine rRoom_ok hc (v0.keep ((kA.trans kB).trans k20)) (by omega) fun H23 k23 => ⟨Pv.keep k23 (by simp; omega), ite_t (beqi rfl) ?_⟩
  have y23 := k23.size
  have kC := (kB.trans k20).trans k23
  refine Check_ok hc (T8.keep kC).view hv (by omega) fun H27 k27 => ⟨Pv.keep k27 (by simp; omega), ite_t (beqi rfl) ?_⟩
  have y27 := k27.size
  have kD := kC.trans k27
  exact kept_ok (v0.keep (kA.trans kD)) (T8.keep kD) (by omega) fun H32 k32 => ⟨Pv.keep k32 (by simp; omega), rfl, (kA.trans kD).trans k32⟩
end Go.Proofs.Ytbefacccdaafeaa.G
