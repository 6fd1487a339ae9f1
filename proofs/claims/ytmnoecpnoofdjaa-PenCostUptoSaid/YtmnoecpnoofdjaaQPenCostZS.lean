/- Of this text what the row needs. -/
import Derived.Test.YtmnoecpnoofdjaaQPenCostZA
namespace Go.Proofs.Ytmnoecpnoofdjaa.G
open Go.RowKit
set_option linter.unusedVariables false
def SeqG {α : Type} (it : (α → Hp → (Bool → Hp → Prop) → Prop) → Hp → (Unit → Hp → Prop) → Prop) (H0 : Hp) (P : List Nat) (xs : List α) : Prop :=
  ∀ (Y : α → Hp → (Bool → Hp → Prop) → Prop) (Q : Unit → Hp → Prop) (I : Nat → List Nat → Hp → Prop) (Z : Hp → Prop) (G0 : List Nat), (∀ k ∈ G0, k ∉ P) → I 0 G0 H0 →
    (∀ i G H H', I i G H → Keep H H' → I i G H') → (∀ i G H, I i G H → ∀ k ∈ G, k < H.size) →
    (∀ i G x H K, xs[i]? = some x → I i G H → (∀ G' H', I (i + 1) G' H' → Ch G H H' → (∀ k ∈ G', k ∈ G ∨ H.size ≤ k) → K true H') → (∀ H', Z H' → Ch G H H' → K false H') → Y x H K) →
    (∀ G H', I xs.length G H' → Q () H') → (∀ H', Z H' → Q () H') → it Y H0 Q
theorem SeqG.ok {α : Type} {it : (α → Hp → (Bool → Hp → Prop) → Prop) → Hp → (Unit → Hp → Prop) → Prop} {H0 : Hp} {P : List Nat} {xs : List α} (h : SeqG it H0 P xs) : SeqOk it H0 P xs := by
  intro Y Q F I Z hF h0 hk hY hQ hZ
  refine h Y Q (fun i G H => G = F ∧ I i H ∧ Ch F H0 H) (fun H => Z H ∧ Ch F H0 H) F (fun k hk => (hF k hk).2) ⟨rfl, h0, Ch.refl _ _⟩ ?_ ?_ ?_ ?_ ?_
  · rintro i G H H' ⟨h1, h2, h3⟩ k
    exact ⟨h1, hk _ _ _ h2 k, h3.trans (k.ch (F := [])) (by simp)⟩
  · rintro i G H ⟨rfl, h2, h3⟩ k hk
    have := (hF k hk).1
    have := h3.size
    omega
  · rintro i G x H K hx ⟨rfl, h2, h3⟩ hT hZ'
    exact hY i x H K hx h2 h3 (fun H' g c => hT G H' ⟨rfl, g, h3.same c⟩ c fun k hk => .inl hk) fun H' g c => hZ' H' ⟨g, h3.same c⟩ c
  · rintro G H' ⟨rfl, h2, h3⟩
    exact hQ H' h2 h3
  · rintro H' ⟨h2, h3⟩
    exact hZ H' h2 h3
end Go.Proofs.Ytmnoecpnoofdjaa.G
