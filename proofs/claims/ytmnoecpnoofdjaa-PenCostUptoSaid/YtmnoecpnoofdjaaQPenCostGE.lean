/- Of this text what the row needs. -/
import Derived.Test.YtmnoecpnoofdjaaQPenCostGD
import Derived.Below
import Derived.OpenShut
namespace Go.Proofs.Ytmnoecpnoofdjaa.G
open Go.RowKit
structure Keep (H H' : Hp) : Prop where
  size : H.size ≤ H'.size
  block : ∀ k, k < H.size → H'[k]? = H[k]?
theorem Keep.refl (H : Hp) : Keep H H := ⟨Nat.le_refl _, fun _ _ => rfl⟩
theorem Keep.trans {A B C : Hp} (h : Keep A B) (k : Keep B C) : Keep A C := ⟨Nat.le_trans h.size k.size, fun i hi => (k.block i (Nat.lt_of_lt_of_le hi h.size)).trans (h.block i hi)⟩
theorem Keep.below {w w' : World} (h : Keep w.heap w'.heap) (so : Sm w w') : Below w.heap.size w w' := ⟨so.os, so.tape, so.output, h.size, h.block⟩
theorem w64 {x : Int} (h : -9223372036854775808 ≤ x ∧ x ≤ 9223372036854775807) : IntKind.wrap .i64 x = x := IntWalk.i64_in _ h
theorem wu64 {x : Int} (h : 0 ≤ x ∧ x ≤ 18446744073709551615) : IntKind.wrap .u64 x = x := IntWalk.u64_in _ h
theorem w32 {x : Int} (h : -2147483648 ≤ x ∧ x ≤ 2147483647) : IntKind.wrap .i32 x = x := IntWalk.i32_in _ h
theorem wu32 {x : Int} (h : 0 ≤ x ∧ x ≤ 4294967295) : IntKind.wrap .u32 x = x := IntWalk.u32_in _ h
theorem w8 {x : Int} (h : -128 ≤ x ∧ x ≤ 127) : IntKind.wrap .i8 x = x := IntWalk.i8_in _ h
theorem wu8 {x : Int} (h : 0 ≤ x ∧ x ≤ 255) : IntKind.wrap .u8 x = x := IntWalk.u8_in _ h
theorem w16 {x : Int} (h : -32768 ≤ x ∧ x ≤ 32767) : IntKind.wrap .i16 x = x := IntWalk.i16_in _ h
theorem wu16 {x : Int} (h : 0 ≤ x ∧ x ≤ 65535) : IntKind.wrap .u16 x = x := IntWalk.u16_in _ h
theorem Lt.of {α : Type} {a : α} {K : α → Prop} (h : K a) : Lt a K := fun x e => by subst e; exact h
theorem ite_t {c : Bool} {A B : Prop} (hc : c = true) (h : A) : if c = true then A else B := by rw [if_pos hc]; exact h
theorem ite_f {c : Bool} {A B : Prop} (hc : c = false) (h : B) : if c = true then A else B := by rw [if_neg (by simp [hc])]; exact h
theorem beqi {a b : Int} (h : a = b) : (a == b) = true := by subst h; simp
theorem beqf {a b : Int} (h : a ≠ b) : (a == b) = false := beq_eq_false_iff_ne.2 h
theorem bnei {a b : Int} (h : a = b) : (a != b) = false := by subst h; simp
theorem bnet {a b : Int} (h : a ≠ b) : (a != b) = true := bne_iff_ne.2 h
theorem dect {p : Prop} [Decidable p] (h : p) : decide p = true := decide_eq_true h
theorem decf {p : Prop} [Decidable p] (h : ¬ p) : decide p = false := decide_eq_false h
end Go.Proofs.Ytmnoecpnoofdjaa.G
