/- Layer 14: lists of components and of parts that come in. -/
import Derived.Test.YtlonijlcddlhjaaZ14
import Derived.Test.YtlonijlcddlhjaaGT
namespace Go.Proofs.Ytlonijlcddlhjaa.G
open Go.RowKit
theorem cp_ofv {m : Option Nat} {H : Hp} {xs : List Value} (h : X23 m H xs) : ∃ c : Cp, xs = cC c ∧ c.ok := by
  obtain ⟨x0, x1, x2, x3, rfl, h0, h1, h2, h3⟩ := h
  exact ⟨⟨x0, x1, x2, x3⟩, rfl, h0, h1, h2, h3⟩
theorem pa_ofv {m : Option Nat} {H : Hp} {xs : List Value} (h : X52 m H xs) : ∃ p : Pa, xs = cP p ∧ p.ok := by
  obtain ⟨x0, x1, x2, rfl, h0, h1, h2⟩ := h
  exact ⟨⟨x0, x1, x2⟩, rfl, h0, h1, h2⟩
theorem comps_view {H : Hp} {s : Sl} (hs : SlH H none 4 4 (X23 none H) s) : ∃ cs, Cs H s cs ∧ (∀ c ∈ cs, c.ok) ∧ cs.length * 4 ≤ 140737488351232 := by
  obtain ⟨cs, v1, o1, b1⟩ := hs.view fun _ => cp_ofv
  have n1 := v1.n
  have c1 := v1.c
  refine ⟨cs, v1, o1, ?_⟩
  rcases b1 with b1 | b1
  · omega
  · have : s.c * 4 ≤ 140737488351232 := b1
    omega
theorem parts_view {H : Hp} {s : Sl} (hs : SlH H none 16 3 (X52 none H) s) : ∃ ps, Ps H s ps ∧ (∀ p ∈ ps, p.ok) ∧ ps.length * 16 ≤ 140737488351232 := by
  obtain ⟨cs, v1, o1, b1⟩ := hs.view fun _ => pa_ofv
  have n1 := v1.n
  have c1 := v1.c
  refine ⟨cs, v1, o1, ?_⟩
  rcases b1 with b1 | b1
  · omega
  · have : s.c * 16 ≤ 140737488351232 := b1
    omega
end Go.Proofs.Ytlonijlcddlhjaa.G
