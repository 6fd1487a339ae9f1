/- Of this text what the row needs. -/
import Derived.Test.YtkplpbnifinlbaaDoorQMarkerFreeGB
namespace Go.Proofs.YtkplpbnifinlbaaDoor.G
open Go.RowKit
set_option linter.unusedSimpArgs false
structure Sl where
  a : Option Addr
  n : Nat
  c : Nat
def Ints (n : Nat) : Type := { l : List Int // l.length = n }
def ints (k : IntKind) (l : List Int) : List Value := l.map (.int k)
def Bools (n : Nat) : Type := { l : List Bool // l.length = n }
def bools (l : List Bool) : List Value := l.map .bool
def zInts (n : Nat) : Ints n := ⟨List.replicate n 0, by simp⟩
theorem enters_ {P : Program} {f : FuncId} {fn : Func} {c : Code} (hf : P.funcs[f]? = some fn) (hname : (fn.name == "runtime.NumGoroutine") = false) (hb : fn.body = some c) : ∀ args w, (callFunc f args).run P w = .ok (.enter f args) w := by
  intro args w
  have h1 : fn.name ≠ "runtime.NumGoroutine" := by simpa using hname
  simp [callFunc, hf, h1, hb, mark]
theorem bif_ {b : Bool} {A B G : Prop} (h : if b = true then A else B) (ht : b = true → A → G) (hf : b = false → B → G) : G := by
  cases b with
  | true => exact ht rfl (by simpa using h)
  | false => exact hf rfl (by simpa using h)
def ldS (H : Hp) (p : Addr) (K : ByteArray → Prop) : Prop := ∃ v, cellAt H p = some (.string v) ∧ K v
theorem ones_nil : ∀ u ∈ ([] : List Value), u.oneCell' = true := fun _ h => by cases h
theorem ones_cons {v : Value} {l : List Value} (h : v.oneCell' = true) (t : ∀ u ∈ l, u.oneCell' = true) : ∀ u ∈ v :: l, u.oneCell' = true := fun u hu => by
  rcases List.mem_cons.1 hu with rfl | hu
  · exact h
  · exact t u hu
def ldA (H : Hp) (p : Addr) (cs : List Value) : Prop := p.spot = none ∧ ∀ j v, cs[j]? = some v → cellAt H (p.add j) = some v
def st (H : Hp) (p : Addr) (v : Value) (K : Hp → Prop) : Prop := (∃ o, cellAt H p = some o) ∧ frozenAt H p = false ∧ K (setAt H p v)
def setsAt (H : Hp) (b : Nat) : Nat → List Value → Hp
  | _, [] => H
  | o, v :: r => setsAt (setAt H ⟨b, o, none⟩ v) b (o + 1) r
def mayW (H : Hp) (p : Addr) (m : Nat) : Prop := p.spot = none ∧ ∀ j, j < m → (∃ o, cellAt H (p.add j) = some o) ∧ frozenAt H (p.add j) = false
def stA (H : Hp) (p : Addr) (vs : List Value) (K : Hp → Prop) : Prop := mayW H p vs.length ∧ K (setsAt H p.block p.off vs)
def Lt {α : Type} (a : α) (K : α → Prop) : Prop := ∀ x, x = a → K x
section
variable {r : Option Nat} {P : Program} {n : Nat} {f : Nat → Value} {H : Hp} {d : Option Tmp} {ty : TypeId} {pos : String} {af : Array Edge} {g : Option (Nat × Bool)}
variable {x y : Operand} {T e : TypeId} {p : Addr} {v : Value}
theorem run_isAgg_no {dsc : TypeDesc} (hu : P.underlying T = some dsc) (hd : dsc.isRow = false) (w : World) : (isAgg T).run P w = .ok false w := by
  unfold isAgg
  rw [Sem.run_bind, run_underlying hu w]
  cases dsc <;> simp_all
theorem at_load {dsc : TypeDesc} (hu : P.underlying T = some dsc) (hd : dsc.isRow = false) (hx : ev n f x = .pointer (some p)) (hc : cellAt H p = some v) :
    At r P n f ⟨d, .load T x, ty, pos, af, g⟩ H v := by
  intro w hw
  subst hw
  have h := run_isAgg_no hu hd w
  have hc' : w.cell? p = some v := hc
  cases r <;> simp [Oper.semAt, execOp, hx, Instr.loadAt, Instr.sureAddr, loadVar, h, hc', Sem.run_bind]
theorem rangeAt_of {w : World} {cs : List Value} (h : ldA w.heap p cs) : p = ⟨p.block, p.off, none⟩ ∧ w.rangeAt p.block p.off cs := by
  obtain ⟨hs, hc⟩ := h
  have hp : p = ⟨p.block, p.off, none⟩ := by cases p; simp_all
  refine ⟨hp, fun j v hv => ?_⟩
  have := hc j v hv
  rw [hp, Addr.add_mid] at this
  exact this
theorem heap_setCells (b : Nat) : ∀ (vs : List Value) (o : Nat) (w : World), (w.setCells b o vs).heap = setsAt w.heap b o vs
  | [], _, _ => rfl
  | v :: vs, o, w => by
    show ((w.setCell ⟨b, o, none⟩ v).setCells b (o + 1) vs).heap = _
    rw [heap_setCells b vs (o + 1)]
    rfl
theorem sm_setCells (b : Nat) : ∀ (vs : List Value) (o : Nat) (w : World), Sm w (w.setCells b o vs)
  | [], _, w => Sm.refl w
  | v :: vs, o, w => (show Sm w (w.setCell ⟨b, o, none⟩ v) from ⟨rfl, rfl, rfl⟩).trans (sm_setCells b vs (o + 1) _)
theorem ef_store {sz : (P.info? T).map (·.size) = some 1} (hx : ev n f x = .pointer (some p)) (hy : ev n f y = v) (h1 : v.oneCell' = true) (hc : ∃ o, cellAt H p = some o) (hf : frozenAt H p = false) :
    Ef r P n f ⟨d, .store T x y, ty, pos, af, g⟩ H undef (setAt H p v) := by
  intro w hw
  subst hw
  obtain ⟨o, hc⟩ := hc
  have hc' : w.cell? p = some o := hc
  have hf' : w.frozen? p = false := hf
  have hcells : v.cells = #[v] := by cases v <;> simp_all [Value.cells, Value.oneCell']
  have hs : ∀ w, (sizeOf T).run P w = .ok 1 w := by
    intro w
    cases hq : P.info? T with
    | none => simp [hq] at sz
    | some i => simp [hq] at sz; simp [sizeOf, typeInfo, hq, sz, Sem.run_bind]
  have hst : (store p v .plain).run P w = .ok () (w.setCell p v) := by rw [run_store P w p v .plain h1, hc', hf']; rfl
  refine ⟨w.setCell p v, .inr ⟨?_, rfl⟩, rfl, ⟨rfl, rfl, rfl⟩⟩
  cases r <;> simp [Oper.semAt, execOp, hx, hy, Instr.storeAt, Instr.sureAddr, storeVar, hs, hcells, storeCells, Addr.add, hst, Sem.run_bind]
theorem ef_storeA {cs : List Value} (sz : (P.info? T).map (·.size) = some cs.length) (hx : ev n f x = .pointer (some p)) (hy : ev n f y = .agg cs.toArray) (h1 : ∀ u ∈ cs, u.oneCell' = true) (hm : mayW H p cs.length) :
    Ef r P n f ⟨d, .store T x y, ty, pos, af, g⟩ H undef (setsAt H p.block p.off cs) := by
  intro w hw
  subst hw
  obtain ⟨hs, hm⟩ := hm
  have hp : p = ⟨p.block, p.off, none⟩ := by cases p; simp_all
  have ht : w.there p.block p.off cs.toArray.size := by
    intro j hj
    have := hm j (by simpa using hj)
    rw [hp, Addr.add_mid] at this
    obtain ⟨⟨o, ho⟩, hf⟩ := this
    exact ⟨by rw [cell_eq, ho]; rfl, hf⟩
  have h := run_storeAt_mid (P := P) w p.block p.off T cs.toArray ht (by simpa using sz) (by simpa using h1)
  rw [← hp] at h
  refine ⟨w.setCells p.block p.off cs, .inr ⟨?_, rfl⟩, heap_setCells .., sm_setCells ..⟩
  cases r <;> simp [Oper.semAt, execOp, hx, hy, h, Sem.run_bind]
theorem ef_alloc {z : Value} {cs : List Value} (hz : (P.info? T).bind (·.zero) = some z) (hcs : z.cells = cs.toArray) :
    Ef r P n f ⟨d, .alloc T, ty, pos, af, g⟩ H (.pointer (some ⟨H.size, 0, none⟩)) (H.push (.cells cs.toArray T)) := by
  intro w hw
  subst hw
  cases hq : P.info? T with
  | none => simp [hq] at hz
  | some i =>
    have hz' : i.zero = some z := by simpa [hq] using hz
    refine ⟨w.alloc (.cells cs.toArray T), .inl ?_, rfl, ⟨rfl, rfl, rfl⟩⟩
    cases r <;> simp [Oper.semAt, execOp, Instr.alloc, zeroValue, typeInfo, hq, hz', newVar, newRow, hcs, Sem.run_bind]
theorem at_build {l : List (Nat × Operand)} {ps : List (Nat × Value)} {cs : List Value}
    (hp : l.map (fun q => (q.1, ev n f q.2)) = ps) (h : ∀ w, (Instr.build T ps.toArray).run P w = .ok (.agg cs.toArray) w) :
    At r P n f ⟨d, .build T l.toArray, ty, pos, af, g⟩ H (.agg cs.toArray) := by
  intro w _
  subst hp
  have h' := h w
  cases r <;> simp [Oper.semAt, execOp, h', Sem.run_bind]
section sub
variable {s : Sl} {sz : Nat} {lo hi : Operand} {l u : Int} {k k' : IntKind}
end sub
end
end Go.Proofs.YtkplpbnifinlbaaDoor.G
