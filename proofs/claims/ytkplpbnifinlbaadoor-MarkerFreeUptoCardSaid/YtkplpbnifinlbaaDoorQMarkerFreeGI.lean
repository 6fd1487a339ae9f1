/- Of this text what the row needs. -/
import Derived.Test.YtkplpbnifinlbaaDoorQMarkerFreeGH
import Derived.Test.YtkplpbnifinlbaaDoorQMarkerFreeGQ
import Derived.RangeFuncRecord
import Derived.Scope
namespace Go.Proofs.YtkplpbnifinlbaaDoor.G
open Go.RowKit
set_option linter.unusedVariables false
set_option linter.unusedSimpArgs false
structure Ch (F : List Nat) (H H' : Hp) : Prop where
  size : H.size ≤ H'.size
  block : ∀ k, k < H.size → k ∉ F → H'[k]? = H[k]?
theorem Ch.refl (F : List Nat) (H : Hp) : Ch F H H := ⟨Nat.le_refl _, fun _ _ _ => rfl⟩
theorem Ch.trans {F G : List Nat} {A B C : Hp} (h : Ch F A B) (k : Ch G B C) (hs : ∀ i ∈ G, i ∈ F ∨ A.size ≤ i) : Ch F A C :=
  ⟨Nat.le_trans h.size k.size, fun i hi hF => (k.block i (Nat.lt_of_lt_of_le hi h.size) fun hG => by rcases hs i hG with h1 | h1; exact hF h1; omega).trans (h.block i hi hF)⟩
theorem Ch.same {F : List Nat} {A B C : Hp} (h : Ch F A B) (k : Ch F B C) : Ch F A C := h.trans k fun i hi => .inl hi
theorem Ch.mono {F G : List Nat} {A B : Hp} (h : Ch F A B) (hs : ∀ i ∈ F, i ∈ G ∨ A.size ≤ i) : Ch G A B :=
  ⟨h.size, fun i hi hG => h.block i hi fun hF => by rcases hs i hF with h1 | h1; exact hG h1; omega⟩
theorem Ch.keep {F : List Nat} {A B : Hp} (h : Ch F A B) (hs : ∀ i ∈ F, A.size ≤ i) : Keep A B := ⟨h.size, fun i hi => h.block i hi fun hF => by have := hs i hF; omega⟩
theorem Keep.ch {F : List Nat} {A B : Hp} (h : Keep A B) : Ch F A B := ⟨h.size, fun i hi _ => h.block i hi⟩
theorem Same.ch {b : Nat} {A B : Hp} (h : Same A B b) : Ch [b] A B := ⟨by rw [h.size]; exact Nat.le_refl _, fun i hi hb => h.block i (by simpa using hb)⟩
theorem Bk.ch {H H' : Hp} {b : Nat} {T : TypeId} {cs : List Value} {F : List Nat} (h : Bk H b T cs) (c : Ch F H H') (hb : b ∉ F) : Bk H' b T cs := (c.block b h.lt hb).trans h
end Go.Proofs.YtkplpbnifinlbaaDoor.G
