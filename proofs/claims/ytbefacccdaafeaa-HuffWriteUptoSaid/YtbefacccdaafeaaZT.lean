/- A sink of the program and one of the document, side by side. -/
import Derived.Test.YtbefacccdaafeaaZR
namespace Go.Proofs.Ytbefacccdaafeaa.G
open Go.RowKit
set_option linter.unusedVariables false
set_option linter.unusedSimpArgs false

/-- No block of one in the other. -/
def Dis (A B : List Nat) : Prop := ∀ b ∈ A, b ∉ B
theorem Dis.symm {A B : List Nat} (h : Dis A B) : Dis B A := fun b hb ha => h b ha hb
theorem Dis.step {A A' B : List Nat} {H : Hp} (h : Dis A B) (hB : ∀ b ∈ B, b < H.size) (hA : ∀ b ∈ A', b ∈ A ∨ H.size ≤ b) : Dis A' B := fun b hb hb' => by
  rcases hA b hb with h1 | h1
  · exact h b h1 hb'
  · have := hB b hb'; omega
theorem Dis.two {A A' B B' : List Nat} {H : Hp} (h : Dis A B) (hA : ∀ b ∈ A', b ∈ A ∨ H.size ≤ b) (hB : ∀ b ∈ B, b < H.size) (hB' : ∀ b ∈ B', b ∈ B) : Dis A' B' := fun b hb hb' => (h.step hB hA) b hb (hB' b hb')
theorem cons_sub {k : Nat} {F F' : List Nat} {n : Nat} (h : ∀ b ∈ F', b ∈ F ∨ n ≤ b) : ∀ b ∈ k :: F', b ∈ k :: F ∨ n ≤ b := fun b hb => by
  rcases List.mem_cons.1 hb with rfl | hb
  · exact .inl (by simp)
  · rcases h b hb with h | h
    · exact .inl (by simp [h])
    · exact .inr h

/-- A sink and the document's with the same bits; F are their blocks. -/
def Two (H : Hp) (F : List Nat) (k r : Nat) (l : List Bool) : Prop := ∃ s t, Snk H k s l ∧ Rsn H r t l ∧ Dis (k :: fp s) (r :: fp t) ∧ ∀ b, b ∈ F ↔ b ∈ k :: fp s ∨ b ∈ r :: fp t
theorem Two.ch {H H' : Hp} {F G : List Nat} {k r : Nat} {l : List Bool} (h : Two H F k r l) (c : Ch G H H') (hd : Dis F G) : Two H' F k r l := by
  obtain ⟨s, t, h1, h2, h3, h4⟩ := h
  exact ⟨s, t, h1.ch c fun b hb => hd b ((h4 b).2 (.inl hb)), h2.ch c fun b hb => hd b ((h4 b).2 (.inr hb)), h3, h4⟩
theorem Two.keep {H H' : Hp} {F : List Nat} {k r : Nat} {l : List Bool} (h : Two H F k r l) (c : Keep H H') : Two H' F k r l := h.ch (c.ch (F := [])) fun b _ => by simp
theorem Two.lts {H : Hp} {F : List Nat} {k r : Nat} {l : List Bool} (h : Two H F k r l) : ∀ b ∈ F, b < H.size := by
  obtain ⟨s, t, h1, h2, h3, h4⟩ := h
  intro b hb
  rcases (h4 b).1 hb with h | h
  · exact h1.lts b h
  · exact h2.lts b h
/-- Both sinks are turned, the one and then the other. -/
theorem Two.both {H H1 H2 : Hp} {F : List Nat} {k r : Nat} {s s' t t' : Sl} {l : List Bool} (h2 : Rsn H r t l) (h3 : Dis (k :: fp s) (r :: fp t)) (h1 : Snk H k s l) (hF : ∀ b, b ∈ F ↔ b ∈ k :: fp s ∨ b ∈ r :: fp t)
    {m : List Bool} (a1 : Snk H1 k s' m) (c1 : Ch (k :: fp s) H H1) (f1 : ∀ b ∈ fp s', b ∈ fp s ∨ H.size ≤ b) (a2 : Rsn H2 r t' m) (c2 : Ch (r :: fp t) H1 H2) (f2 : ∀ b ∈ fp t', b ∈ fp t ∨ H1.size ≤ b) :
    ∃ F', Two H2 F' k r m ∧ Ch F H H2 ∧ ∀ b ∈ F', b ∈ F ∨ H.size ≤ b := by
  have g1 := cons_sub (k := k) f1
  have g2 := cons_sub (k := r) f2
  have d1 : Dis (k :: fp s') (r :: fp t) := h3.step h2.lts g1
  have d2 : Dis (r :: fp t') (k :: fp s') := d1.symm.step a1.lts g2
  refine ⟨(k :: fp s') ++ (r :: fp t'), ⟨s', t', a1.ch c2 fun b hb => d1 b hb, a2, d2.symm, fun b => by simp only [List.mem_append]⟩, ?_, ?_⟩
  · refine (c1.mono fun i hi => .inl ((hF i).2 (.inl hi))).trans c2 fun i hi => .inl ((hF i).2 (.inr hi))
  · intro b hb
    have := c1.size
    rcases List.mem_append.1 hb with hb | hb
    · rcases g1 b hb with h | h
      · exact .inl ((hF b).2 (.inl h))
      · exact .inr h
    · rcases g2 b hb with h | h
      · exact .inl ((hF b).2 (.inr h))
      · exact .inr (by omega)
theorem Two.new {H : Hp} {k r : Nat} (hs : Snk H k ⟨none, 0, 0⟩ []) (hr : Rsn H r ⟨none, 0, 0⟩ []) (hne : k ≠ r) : Two H [k, r] k r [] :=
  ⟨_, _, hs, hr, fun b hb => by simp [fp] at hb ⊢; omega, fun b => by simp [fp]⟩
theorem Two.rest {H : Hp} {F : List Nat} {k r : Nat} {l : List Bool} (h : Two H F k r l) : ∃ s t, Snk H k s l ∧ Rsn H r t l := by
  obtain ⟨s, t, h1, h2, _⟩ := h
  exact ⟨s, t, h1, h2⟩
end Go.Proofs.Ytbefacccdaafeaa.G
