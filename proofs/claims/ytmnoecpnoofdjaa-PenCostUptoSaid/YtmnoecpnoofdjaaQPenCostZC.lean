/- Of this text what the row needs. -/
import Derived.Test.YtmnoecpnoofdjaaQPenCostZBt
namespace Go.Proofs.Ytmnoecpnoofdjaa.G
open Go.RowKit
set_option linter.unusedVariables false
set_option linter.unusedSimpArgs false
def byt (f : ByteArray) (p : Nat) : Nat := (bt f (p : Int)).toNat
theorem byt_cast (f : ByteArray) (p : Nat) : bt f (p : Int) = (byt f p : Int) := by have := bt_range f p; unfold byt; omega
def wd (x : Nat) : Nat := if x = 255 then 2 else 1
def Run (f : ByteArray) : Nat → List Nat → Nat → Prop
  | p, [], e => p = e
  | p, x :: r, e => p < f.size ∧ byt f p = x ∧ Run f (p + wd x) r e
def remB : Nat → Nat → List Nat → List (Bool × Nat)
  | _, _, [] => []
  | p, b, x :: r => (bl (b + 1) x).map (fun c => (c, p)) ++ remB (p + wd x) 7 r
def Src (H : Hp) (k : Nat) (l : List (Bool × Nat)) (e u : Nat) : Prop := ∃ (f : ByteArray) (p b : Nat) (xs : List Nat), Bk H k 125 (c125 f (p : Int) (b : Int) (e : Int) (l.length : Int) (u : Int)) ∧ Run f p xs e ∧ b < 8 ∧ l = remB p b xs ∧ f.size ≤ 1152921504606846976 ∧ l.length + u ≤ 9223372036854775800
theorem Src.ch {H H' : Hp} {k : Nat} {l : List (Bool × Nat)} {e u : Nat} {F : List Nat} (h : Src H k l e u) (c : Ch F H H') (hk : k ∉ F) : Src H' k l e u := by
  obtain ⟨f, p, b, xs, h1, h2⟩ := h
  exact ⟨f, p, b, xs, h1.ch c hk, h2⟩
theorem Src.keep {H H' : Hp} {k : Nat} {l : List (Bool × Nat)} {e u : Nat} (h : Src H k l e u) (c : Keep H H') : Src H' k l e u := h.ch (c.ch (F := [])) (by simp)
theorem Src.lt {H : Hp} {k : Nat} {l : List (Bool × Nat)} {e u : Nat} (h : Src H k l e u) : k < H.size := by
  obtain ⟨f, p, b, xs, h1, _⟩ := h
  exact h1.lt
def bitAt (l : List (Bool × Nat)) (i : Nat) : Bool := match l[i]? with | some c => c.1 | none => true
def ext (l : List (Bool × Nat)) (n : Nat) : List Bool := (List.range n).map (bitAt l)
end Go.Proofs.Ytmnoecpnoofdjaa.G
