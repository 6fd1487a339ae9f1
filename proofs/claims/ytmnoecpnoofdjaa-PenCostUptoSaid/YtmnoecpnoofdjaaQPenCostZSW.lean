/- Of this text what the row needs. -/
import Derived.Test.YtmnoecpnoofdjaaQPenCostZS
namespace Go.Proofs.Ytmnoecpnoofdjaa.G
open Go.RowKit
set_option linter.unusedVariables false
def SeqW {α : Type} (it : (α → Hp → (Bool → Hp → Prop) → Prop) → Hp → (Unit → Hp → Prop) → Prop) (H0 : Hp) (P : List Nat) (xs : List α) : Prop :=
  ∀ (Y : α → Hp → (Bool → Hp → Prop) → Prop) (Q : Unit → Hp → Prop) (I : Nat → List Nat → Hp → Prop) (Z : List Nat → Hp → Prop) (G0 : List Nat), (∀ k ∈ G0, k ∉ P) → I 0 G0 H0 →
    (∀ i G H H' F, I i G H → Ch F H H' → (∀ k ∈ F, H0.size ≤ k ∧ k ∉ G) → I i G H') → (∀ G H H' F, Z G H → Ch F H H' → (∀ k ∈ F, H0.size ≤ k ∧ k ∉ G) → Z G H') → (∀ i G H, I i G H → ∀ k ∈ G, k < H.size) →
    (∀ i G x H K, xs[i]? = some x → I i G H → (∀ G' H', I (i + 1) G' H' → Ch G H H' → (∀ k ∈ G', k ∈ G ∨ H.size ≤ k) → K true H') → (∀ G' H', Z G' H' → Ch G H H' → (∀ k ∈ G', k ∈ G ∨ H.size ≤ k) → K false H') → Y x H K) →
    (∀ G H', I xs.length G H' → Q () H') → (∀ G H', Z G H' → Q () H') → it Y H0 Q
theorem SeqG.w {α : Type} {it : (α → Hp → (Bool → Hp → Prop) → Prop) → Hp → (Unit → Hp → Prop) → Prop} {H0 : Hp} {P : List Nat} {xs : List α} (h : SeqG it H0 P xs) : SeqW it H0 P xs := by
  intro Y Q I Z G0 hG h0 hk hkz hlt hY hQ hZ
  refine h Y Q I (fun H => ∃ G, Z G H) G0 hG h0 (fun i G H H' hi k => hk i G H H' [] hi k.ch (by simp)) hlt ?_ hQ fun H' ⟨G, hz⟩ => hZ G H' hz
  intro i G x H K hx hi hT hF
  exact hY i G x H K hx hi hT fun G' H' hz c g => hF H' ⟨G', hz⟩ c
end Go.Proofs.Ytmnoecpnoofdjaa.G
