/- Of this text what the row needs. -/
import Derived.Test.YtlfdfikgbdgfdaaQSpanBackZ17a
namespace Go.Proofs.Ytlfdfikgbdgfdaa.G
open Go.RowKit
set_option linter.unusedVariables false
set_option linter.unusedSimpArgs false
theorem vals_view {H : Hp} {s : Sl} (h : SlH H none 1 1 (X5 none H) s) : ∃ vs : List Nat, SlV H s 1 cB vs ∧ (∀ v ∈ vs, v < 256) ∧ vs.length ≤ 140737488351232 := by
  obtain ⟨xs, h1, h2, h3⟩ := h.view (f := cB) (B := fun v => v < 256) fun cs ⟨a, e, hb⟩ => ⟨a.toNat, by rw [e, cB, Int.toNat_of_nonneg hb.1], by omega⟩
  refine ⟨xs, h1, h2, ?_⟩
  have n0 := h1.n
  have c0 := h1.c
  rcases h3 with z | z
  · omega
  · have : s.c * 1 ≤ 140737488351232 := z
    omega
theorem job_view {H : Hp} {j : Jb} (hs : SlH H none 4 4 (X98 none H) j.s) (ht : SlH H none 16 3 (X67 none H) j.t)
    (c0 : cOk j.d0.1 ∧ SlH H none 1 1 (X5 none H) j.d0.2) (c1 : cOk j.d1.1 ∧ SlH H none 1 1 (X5 none H) j.d1.2) (c2 : cOk j.d2.1 ∧ SlH H none 1 1 (X5 none H) j.d2.2) (c3 : cOk j.d3.1 ∧ SlH H none 1 1 (X5 none H) j.d3.2)
    (b0 : cOk j.a0.1 ∧ SlH H none 1 1 (X5 none H) j.a0.2) (b1 : cOk j.a1.1 ∧ SlH H none 1 1 (X5 none H) j.a1.2) (b2 : cOk j.a2.1 ∧ SlH H none 1 1 (X5 none H) j.a2.2) (b3 : cOk j.a3.1 ∧ SlH H none 1 1 (X5 none H) j.a3.2)
    (hf : -9223372036854775808 ≤ j.f ∧ j.f ≤ 9223372036854775807) (hu : -9223372036854775808 ≤ j.u ∧ j.u ≤ 9223372036854775807) : ∃ cs ps TV, JV H j cs ps TV := by
  obtain ⟨cs, v0, hok, hl4⟩ := comps_view hs
  obtain ⟨ps, u0, hpk, hm4⟩ := parts_view ht
  have all : ∀ x ∈ j.sp, cOk x.1 ∧ SlH H none 1 1 (X5 none H) x.2 := by
    intro x hx
    simp only [Jb.sp, List.mem_cons, List.mem_nil_iff, or_false] at hx
    rcases hx with rfl | rfl | rfl | rfl | rfl | rfl | rfl | rfl <;> assumption
  have each : ∀ k : Nat, ∃ vs : List Nat, ∀ x, j.sp[k]? = some x → SlV H x.2 1 cB vs ∧ (∀ v ∈ vs, v < 256) ∧ cOk x.1 ∧ vs.length ≤ 140737488351232 := fun k => by
    cases hx : j.sp[k]? with
    | none => exact ⟨[], fun x h => by cases h⟩
    | some x =>
      obtain ⟨a1, a2⟩ := all x (List.mem_of_getElem? hx)
      obtain ⟨vs, q1, q2, q3⟩ := vals_view a2
      exact ⟨vs, fun y h => by injection h with h; subst h; exact ⟨q1, q2, a1, q3⟩⟩
  obtain ⟨TV, hT⟩ := Classical.axiomOfChoice each
  exact ⟨cs, ps, TV, ⟨v0, u0, hok, hpk, by omega, by omega, hT, hf, hu⟩⟩
end Go.Proofs.Ytlfdfikgbdgfdaa.G
