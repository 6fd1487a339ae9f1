/- Layer 1: what is written. -/
import Derived.Test.YtcjmcmkohfaleaaZR
import Derived.Test.YtcjmcmkohfaleaaKmosaiclaw01
import Derived.Test.YtcjmcmkohfaleaaKBitsWrite
import Derived.Test.YtcjmcmkohfaleaaGT
namespace Go.Proofs.Ytcjmcmkohfaleaa.G
open Go.RowKit
set_option linter.unusedVariables false
set_option linter.unusedSimpArgs false

/-- No block of one in the other. -/
def Dis (A B : List Nat) : Prop := ∀ b ∈ A, b ∉ B
theorem Dis.symm {A B : List Nat} (h : Dis A B) : Dis B A := fun b hb ha => h b ha hb
theorem Dis.step {A A' B : List Nat} {H : Hp} (h : Dis A B) (hB : ∀ b ∈ B, b < H.size) (hA : ∀ b ∈ A', b ∈ A ∨ H.size ≤ b) : Dis A' B := fun b hb hb' => by
  rcases hA b hb with h1 | h1
  · exact h b h1 hb'
  · have := hB b hb'; omega
theorem Dis.two {A A' B B' : List Nat} {H : Hp} (h : Dis A B) (hA : ∀ b ∈ A', b ∈ A ∨ H.size ≤ b) (hB : ∀ b ∈ B, b < H.size) (hB' : ∀ b ∈ B', b ∈ B) : Dis A' B' := fun b hb hb' => (h.step hB hA) b hb (hB' b hb')
theorem cons_sub {k : Nat} {F F' : List Nat} {n : Nat} (h : ∀ b ∈ F', b ∈ F ∨ n ≤ b) : ∀ b ∈ k :: F', b ∈ k :: F ∨ n ≤ b := fun b hb => by
  rcases List.mem_cons.1 hb with rfl | hb
  · exact .inl (by simp)
  · rcases h b hb with h | h
    · exact .inl (by simp [h])
    · exact .inr h

/-- A sink and the document's with the same bits; F are their blocks. -/
def Two (H : Hp) (F : List Nat) (k r : Nat) (l : List Bool) : Prop := ∃ s t, Snk H k s l ∧ Rsn H r t l ∧ Dis (k :: fp s) (r :: fp t) ∧ ∀ b, b ∈ F ↔ b ∈ k :: fp s ∨ b ∈ r :: fp t
theorem Two.ch {H H' : Hp} {F G : List Nat} {k r : Nat} {l : List Bool} (h : Two H F k r l) (c : Ch G H H') (hd : Dis F G) : Two H' F k r l := by
  obtain ⟨s, t, h1, h2, h3, h4⟩ := h
  exact ⟨s, t, h1.ch c fun b hb => hd b ((h4 b).2 (.inl hb)), h2.ch c fun b hb => hd b ((h4 b).2 (.inr hb)), h3, h4⟩
theorem Two.keep {H H' : Hp} {F : List Nat} {k r : Nat} {l : List Bool} (h : Two H F k r l) (c : Keep H H') : Two H' F k r l := h.ch (c.ch (F := [])) fun b _ => by simp
theorem Two.lts {H : Hp} {F : List Nat} {k r : Nat} {l : List Bool} (h : Two H F k r l) : ∀ b ∈ F, b < H.size := by
  obtain ⟨s, t, h1, h2, h3, h4⟩ := h
  intro b hb
  rcases (h4 b).1 hb with h | h
  · exact h1.lts b h
  · exact h2.lts b h
/-- Both sinks are turned, the one and then the other. -/
theorem Two.both {H H1 H2 : Hp} {F : List Nat} {k r : Nat} {s s' t t' : Sl} {l : List Bool} (h2 : Rsn H r t l) (h3 : Dis (k :: fp s) (r :: fp t)) (h1 : Snk H k s l) (hF : ∀ b, b ∈ F ↔ b ∈ k :: fp s ∨ b ∈ r :: fp t)
    {m : List Bool} (a1 : Snk H1 k s' m) (c1 : Ch (k :: fp s) H H1) (f1 : ∀ b ∈ fp s', b ∈ fp s ∨ H.size ≤ b) (a2 : Rsn H2 r t' m) (c2 : Ch (r :: fp t) H1 H2) (f2 : ∀ b ∈ fp t', b ∈ fp t ∨ H1.size ≤ b) :
    ∃ F', Two H2 F' k r m ∧ Ch F H H2 ∧ ∀ b ∈ F', b ∈ F ∨ H.size ≤ b := by
  have g1 := cons_sub (k := k) f1
  have g2 := cons_sub (k := r) f2
  have d1 : Dis (k :: fp s') (r :: fp t) := h3.step h2.lts g1
  have d2 : Dis (r :: fp t') (k :: fp s') := d1.symm.step a1.lts g2
  refine ⟨(k :: fp s') ++ (r :: fp t'), ⟨s', t', a1.ch c2 fun b hb => d1 b hb, a2, d2.symm, fun b => by simp only [List.mem_append]⟩, ?_, ?_⟩
  · refine (c1.mono fun i hi => .inl ((hF i).2 (.inl hi))).trans c2 fun i hi => .inl ((hF i).2 (.inr hi))
  · intro b hb
    have := c1.size
    rcases List.mem_append.1 hb with hb | hb
    · rcases g1 b hb with h | h
      · exact .inl ((hF b).2 (.inl h))
      · exact .inr h
    · rcases g2 b hb with h | h
      · exact .inl ((hF b).2 (.inr h))
      · exact .inr (by omega)
theorem write_ok {H : Hp} {F : List Nat} {k r : Nat} {l : List Bool} {d v n : Int} {Q : Bool → Hp → Prop} (h : Two H F k r l) (hl : l.length ≤ 140737488355000)
    (hQ : ∀ H' F' l', Two H' F' k r l' → Ch F H H' → (∀ b ∈ F', b ∈ F ∨ H.size ≤ b) → l'.length ≤ l.length + 16 → Q true H') : mosaiclaw01_write.s (some ⟨k, 0, none⟩) (some ⟨r, 0, none⟩) d v n H Q := by
  unfold mosaiclaw01_write.s
  intro b1 H2 c2 hb hb'
  have k2 : Keep H H2 := c2.keep (by simp)
  have hlt := h.lts
  have z2 := k2.size
  replace hQ : ∀ H' F' l', Two H' F' k r l' → Ch F H2 H' → (∀ b ∈ F', b ∈ F ∨ H.size ≤ b) → l'.length ≤ l.length + 16 → Q true H' := fun H' F' l' a c f g => hQ H' F' l' a ((k2.ch (F := F)).trans c fun i hi => .inl hi) f g
  have h2 := h.keep k2
  obtain ⟨s, t, hs, ht, hd, hF⟩ := h2
  have hsl := hs.lts
  have b1s : b1 ∉ k :: fp s := fun hh => by have := hlt b1 ((hF b1).2 (.inl hh)); omega
  refine Join.intro (fun _ H' => ∃ F' l', Two H' F' k r l' ∧ Ch F H2 H' ∧ (∀ b ∈ F', b ∈ F ∨ H.size ≤ b) ∧ l'.length ≤ l.length + 16) ?_ ?_
  · rintro ⟨⟩ H' ⟨F', l', a, b, c, d⟩
    exact hQ H' F' l' a b c d
  intro J hJ
  have wk : ∀ {F' : List Nat}, (∀ b ∈ F', b ∈ F ∨ H2.size ≤ b) → ∀ b ∈ F', b ∈ F ∨ H.size ≤ b := fun f b hb => by
    rcases f b hb with h | h
    · exact .inl h
    · exact .inr (by omega)
  have same : ∀ H', Keep H2 H' → ∃ F' l', Two H' F' k r l' ∧ Ch F H2 H' ∧ (∀ b ∈ F', b ∈ F ∨ H.size ≤ b) ∧ l'.length ≤ l.length + 16 := fun H' k' =>
    ⟨F, l, (Two.keep ⟨s, t, hs, ht, hd, hF⟩ k'), k'.ch, fun b hb => .inl hb, by omega⟩
  by_cases h8 : d = 8
  · refine ite_t (beqi h8) (Put_ok hs hl (fun hb => ⟨fun b hb => rfl, rPut_ok ht hl (fun _ => ?_) fun h0 h16 => by omega⟩) fun h0 h16 s' H3 a1 c1 f1 => ⟨?_, ?_⟩)
    · obtain ⟨F', l', a, b, c, d⟩ := same _ (Keep.refl _)
      exact hQ _ F' l' a b c d
    · exact Pv.ch c1 fun b hb => by simp at hb; subst hb; exact ⟨hb', b1s⟩
    · refine rPut_ok (ht.ch c1 fun b hb hb' => hd b hb' hb) hl (fun hh => by omega) fun _ _ t' H4 a2 c2 f2 => ?_
      obtain ⟨F', q1, q2, q3⟩ := Two.both ht hd hs hF a1 c1 f1 a2 c2 f2
      exact hQ _ F' _ q1 q2 (wk q3) (by simp [bl_len]; omega)
  refine ite_f (beqf h8) ?_
  by_cases h9 : d = 9
  · refine ite_t (beqi h9) (Len_ok hs (by omega) (rLen_ok ht ?_))
    rw [beqi rfl]
    obtain ⟨F', l', a, b, c, d⟩ := same _ (Keep.refl _)
    exact hQ _ F' l' a b c d
  refine ite_f (beqf h9) ?_
  by_cases h10 : d = 10
  · refine ite_t (beqi h10) (Pad_ok hs hl fun s' H3 a1 c1 f1 => rPad_ok (ht.ch c1 fun b hb hb' => hd b hb' hb) hl fun t' H4 a2 c2 f2 => ?_)
    obtain ⟨F', q1, q2, q3⟩ := Two.both ht hd hs hF a1 c1 f1 a2 c2 f2
    exact hJ _ _ ⟨F', _, q1, q2, wk q3, by simp; omega⟩
  refine ite_f (beqf h10) ?_
  by_cases h11 : d = 11
  · refine ite_t (beqi h11) (Text_ok hs (by omega) fun H3 k3 => rText_ok (ht.ch (k3.ch (F := [])) (by simp)) hl fun H4 k4 => ?_)
    rw [beq_self_eq_true]
    obtain ⟨F', l', a, b, c, d⟩ := same _ (k3.trans k4)
    exact hQ _ F' l' a b c d
  · refine ite_f (beqf h11) (hJ _ _ (same _ (Keep.refl _)))
end Go.Proofs.Ytcjmcmkohfaleaa.G
