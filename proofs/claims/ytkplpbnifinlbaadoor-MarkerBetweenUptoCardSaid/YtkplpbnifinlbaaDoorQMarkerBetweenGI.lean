/- Of this text what the row needs. -/
import Derived.Test.YtkplpbnifinlbaaDoorQMarkerBetweenGH
import Derived.Test.YtkplpbnifinlbaaDoorQMarkerBetweenGR
namespace Go.Proofs.YtkplpbnifinlbaaDoor.G
open Go.RowKit
set_option linter.unusedVariables false
set_option linter.unusedSimpArgs false
structure Ch (F : List Nat) (H H' : Hp) : Prop where
  size : H.size ≤ H'.size
  block : ∀ k, k < H.size → k ∉ F → H'[k]? = H[k]?
theorem Ch.refl (F : List Nat) (H : Hp) : Ch F H H := ⟨Nat.le_refl _, fun _ _ _ => rfl⟩
theorem Ch.trans {F G : List Nat} {A B C : Hp} (h : Ch F A B) (k : Ch G B C) (hs : ∀ i ∈ G, i ∈ F ∨ A.size ≤ i) : Ch F A C :=
  ⟨Nat.le_trans h.size k.size, fun i hi hF => (k.block i (Nat.lt_of_lt_of_le hi h.size) fun hG => by rcases hs i hG with h1 | h1; exact hF h1; omega).trans (h.block i hi hF)⟩
theorem Ch.same {F : List Nat} {A B C : Hp} (h : Ch F A B) (k : Ch F B C) : Ch F A C := h.trans k fun i hi => .inl hi
theorem Ch.mono {F G : List Nat} {A B : Hp} (h : Ch F A B) (hs : ∀ i ∈ F, i ∈ G ∨ A.size ≤ i) : Ch G A B :=
  ⟨h.size, fun i hi hG => h.block i hi fun hF => by rcases hs i hF with h1 | h1; exact hG h1; omega⟩
theorem Ch.keep {F : List Nat} {A B : Hp} (h : Ch F A B) (hs : ∀ i ∈ F, A.size ≤ i) : Keep A B := ⟨h.size, fun i hi => h.block i hi fun hF => by have := hs i hF; omega⟩
theorem Keep.ch {F : List Nat} {A B : Hp} (h : Keep A B) : Ch F A B := ⟨h.size, fun i hi _ => h.block i hi⟩
theorem Same.ch {b : Nat} {A B : Hp} (h : Same A B b) : Ch [b] A B := ⟨by rw [h.size]; exact Nat.le_refl _, fun i hi hb => h.block i (by simpa using hb)⟩
theorem Bk.ch {H H' : Hp} {b : Nat} {T : TypeId} {cs : List Value} {F : List Nat} (h : Bk H b T cs) (c : Ch F H H') (hb : b ∉ F) : Bk H' b T cs := (c.block b h.lt hb).trans h
theorem at_ch {H H' : Hp} {b : Nat} {o : Obj} {F : List Nat} (h : H[b]? = some o) (c : Ch F H H') (hb : b ∉ F) : H'[b]? = some o := (c.block b (Array.getElem?_eq_some_iff.1 h).1 hb).trans h
theorem Lp.ch {H H' : Hp} {b : Nat} {r : Loop} {F : List Nat} (h : Lp H b r) (c : Ch F H H') (hb : b ∉ F) : Lp H' b r := at_ch h c hb
theorem Lp.lt {H : Hp} {l : Nat} {r : Loop} (h : Lp H l r) : l < H.size := (Array.getElem?_eq_some_iff.1 h).1
theorem put_same {H : Hp} {l : Nat} {o : Obj} : Same H (H.setIfInBounds l o) l := ⟨by simp, fun k hk => by rw [Array.getElem?_setIfInBounds_ne (Ne.symm hk)]⟩
theorem putL_same {H : Hp} {l : Nat} {r : Loop} : Same H (putL H l r) l := put_same
theorem putL_lp {H : Hp} {l : Nat} {r q : Loop} (h : Lp H l r) : Lp (putL H l q) l q := by
  unfold Lp putL
  rw [Array.getElem?_setIfInBounds, if_pos rfl, if_pos h.lt]
theorem Up_s {H : Hp} {l : Nat} {r q : Loop} {K : Hp → Prop} (h : Lp H l r) (k : ∀ H', Same H H' l → Lp H' l q → K H') : Up (putL H l q) K := k _ putL_same (putL_lp h)
theorem tkD_nil {H : Hp} {K : Hp → Prop} (h : K H) : tkD [] H K := h
theorem tkD_cons {H : Hp} {D : Nat} {Ds : List Nat} {K : Hp → Prop} (h : H[D]? = some (.deferred (some []))) (k : ∀ H', Same H H' D → tkD Ds H' K) : tkD (D :: Ds) H K := ⟨h, k _ put_same⟩
theorem tkD_one {H : Hp} {D : Nat} {K : Hp → Prop} (h : H[D]? = some (.deferred (some []))) (k : ∀ H', Same H H' D → K H') : tkD [D] H K := tkD_cons h fun H' s => tkD_nil (k H' s)
theorem Rg_i {H : Hp} {K : Loop → Nat → Hp → Prop} (h : ∀ r H', Rdy r → Keep H H' → H'.size = H.size + 2 → H'[H.size]? = some (.deferred (some [])) → Lp H' (H.size + 1) r → K r H.size H') : Rg H K := fun r hr => by
  refine h r _ hr ⟨by simp; omega, fun k hk => ?_⟩ (by simp) ?_ ?_
  · rw [Array.getElem?_push, if_neg (by simp; omega), Array.getElem?_push, if_neg (by omega)]
  · rw [Array.getElem?_push, if_neg (by simp), Array.getElem?_push, if_pos rfl]
  · unfold Lp; rw [Array.getElem?_push, if_pos (by simp)]
def SeqOk {α : Type} (it : (α → Hp → (Bool → Hp → Prop) → Prop) → Hp → (Unit → Hp → Prop) → Prop) (H0 : Hp) (P : List Nat) (xs : List α) : Prop :=
  ∀ (Y : α → Hp → (Bool → Hp → Prop) → Prop) (Q : Unit → Hp → Prop) (F : List Nat) (I : Nat → Hp → Prop) (Z : Hp → Prop), (∀ k ∈ F, k < H0.size ∧ k ∉ P) → I 0 H0 → (∀ i H H', I i H → Keep H H' → I i H') →
    (∀ i x H K, xs[i]? = some x → I i H → Ch F H0 H → (∀ H', I (i + 1) H' → Ch F H H' → K true H') → (∀ H', Z H' → Ch F H H' → K false H') → Y x H K) →
    (∀ H', I xs.length H' → Ch F H0 H' → Q () H') → (∀ H', Z H' → Ch F H0 H' → Q () H') → it Y H0 Q
end Go.Proofs.YtkplpbnifinlbaaDoor.G
