/- Of this text what the row needs. -/
import Derived.Test.YtmnoecpnoofdjaaQPenCostGB
namespace Go.Proofs.Ytmnoecpnoofdjaa.G
open Go.RowKit
set_option linter.unusedSimpArgs false
structure Sl where
  a : Option Addr
  n : Nat
  c : Nat
def Sl.nil : Sl := ⟨none, 0, 0⟩
def Ints (n : Nat) : Type := { l : List Int // l.length = n }
def ints (k : IntKind) (l : List Int) : List Value := l.map (.int k)
theorem ints_length (k : IntKind) (l : List Int) : (ints k l).length = l.length := by simp [ints]
def Bools (n : Nat) : Type := { l : List Bool // l.length = n }
def bools (l : List Bool) : List Value := l.map .bool
def zInts (n : Nat) : Ints n := ⟨List.replicate n 0, by simp⟩
def zBools (n : Nat) : Bools n := ⟨List.replicate n false, by simp⟩
def ixI {n : Nat} (l : Ints n) (i : Int) : Int := l.1.getD i.toNat 0
theorem info_ex {P : Program} {T : TypeId} {z : Value} {s b : Nat} (h : (P.info? T).map (fun i => (i.zero, i.size, i.bytes)) = some (some z, s, b)) : ∃ i, P.info? T = some i ∧ i.zero = some z ∧ i.size = s ∧ i.bytes = b := by
  cases hq : P.info? T with
  | none => simp [hq] at h
  | some i => simp [hq] at h; exact ⟨i, rfl, h.1, h.2.1, h.2.2⟩
theorem enters_ {P : Program} {f : FuncId} {fn : Func} {c : Code} (hf : P.funcs[f]? = some fn) (hname : (fn.name == "runtime.NumGoroutine") = false) (hb : fn.body = some c) : ∀ args w, (callFunc f args).run P w = .ok (.enter f args) w := by
  intro args w
  have h1 : fn.name ≠ "runtime.NumGoroutine" := by simpa using hname
  simp [callFunc, hf, h1, hb, mark]
theorem sl_some {a : Option Addr} {p : Addr} {n c : Nat} (h : a = some p) : Value.slice a n c = .slice (some p) n c := by rw [h]
theorem bif_ {b : Bool} {A B G : Prop} (h : if b = true then A else B) (ht : b = true → A → G) (hf : b = false → B → G) : G := by
  cases b with
  | true => exact ht rfl (by simpa using h)
  | false => exact hf rfl (by simpa using h)
def ldI (k : IntKind) (H : Hp) (p : Addr) (K : Int → Prop) : Prop := ∃ v, cellAt H p = some (.int k v) ∧ K v
def ldB (H : Hp) (p : Addr) (K : Bool → Prop) : Prop := ∃ v, cellAt H p = some (.bool v) ∧ K v
def ldP (H : Hp) (p : Addr) (K : Option Addr → Prop) : Prop := ∃ v, cellAt H p = some (.pointer v) ∧ K v
def ldL (H : Hp) (p : Addr) (K : Sl → Prop) : Prop := ∃ s : Sl, cellAt H p = some (.slice s.a s.n s.c) ∧ K s
theorem ones_ints (k : IntKind) (l : List Int) : ∀ u ∈ ints k l, u.oneCell' = true := fun u hu => by
  obtain ⟨b, _, rfl⟩ := List.mem_map.1 hu
  rfl
theorem ones_nil : ∀ u ∈ ([] : List Value), u.oneCell' = true := fun _ h => by cases h
theorem ones_cons {v : Value} {l : List Value} (h : v.oneCell' = true) (t : ∀ u ∈ l, u.oneCell' = true) : ∀ u ∈ v :: l, u.oneCell' = true := fun u hu => by
  rcases List.mem_cons.1 hu with rfl | hu
  · exact h
  · exact t u hu
theorem ones_app {l m : List Value} (h : ∀ u ∈ l, u.oneCell' = true) (t : ∀ u ∈ m, u.oneCell' = true) : ∀ u ∈ l ++ m, u.oneCell' = true := fun u hu => by
  rcases List.mem_append.1 hu with hu | hu
  · exact h u hu
  · exact t u hu
def mkI {n : Nat} (l : List Int) (h : l.length = n) : Ints n := ⟨l, h⟩
def mkB {n : Nat} (l : List Bool) (h : l.length = n) : Bools n := ⟨l, h⟩
def ldF (H : Hp) (p : Addr) (K : Value → Prop) : Prop := ∃ v, cellAt H p = some v ∧ K v
def ldA (H : Hp) (p : Addr) (cs : List Value) : Prop := p.spot = none ∧ ∀ j v, cs[j]? = some v → cellAt H (p.add j) = some v
def st (H : Hp) (p : Addr) (v : Value) (K : Hp → Prop) : Prop := (∃ o, cellAt H p = some o) ∧ frozenAt H p = false ∧ K (setAt H p v)
def setsAt (H : Hp) (b : Nat) : Nat → List Value → Hp
  | _, [] => H
  | o, v :: r => setsAt (setAt H ⟨b, o, none⟩ v) b (o + 1) r
def mayW (H : Hp) (p : Addr) (m : Nat) : Prop := p.spot = none ∧ ∀ j, j < m → (∃ o, cellAt H (p.add j) = some o) ∧ frozenAt H (p.add j) = false
def stA (H : Hp) (p : Addr) (vs : List Value) (K : Hp → Prop) : Prop := mayW H p vs.length ∧ K (setsAt H p.block p.off vs)
def nwA (H : Hp) (T : TypeId) (cs : Array Value) (K : Addr → Hp → Prop) : Prop := K ⟨H.size, 0, none⟩ (H.push (.cells cs T))
def nw (H : Hp) (T : TypeId) (cs : List Value) (K : Addr → Hp → Prop) : Prop := K ⟨H.size, 0, none⟩ (H.push (.cells cs.toArray T))
def rdS (H : Hp) (a : Option Addr) (cs : List Value) : Prop := (∀ u ∈ cs, u.oneCell' = true) ∧ ∀ j v, cs[j]? = some v → ∃ p, a = some p ∧ cellAt H (p.add j) = some v
def Lt {α : Type} (a : α) (K : α → Prop) : Prop := ∀ x, x = a → K x
def someA (x : Option Addr) (K : Addr → Prop) : Prop := ∃ p, x = some p ∧ K p
def apS (H : Hp) (s : Sl) (e : TypeId) (size bytes : Nat) (zero : Array Value) (m : Nat) (xs : List Value) (K : Sl → Hp → Prop) : Prop :=
  (s.n + m ≤ s.c → (s.a = none ∧ xs = [] ∧ K ⟨none, s.n + m, s.c⟩ H) ∨ (∃ b o, s.a = some ⟨b, o, none⟩ ∧ mayW H ⟨b, o + s.n * size, none⟩ xs.length ∧ K ⟨some ⟨b, o, none⟩, s.n + m, s.c⟩ (setsAt H b (o + s.n * size) xs))) ∧
  (s.c < s.n + m → ∃ os, os.length = s.n * size ∧ rdS H s.a os ∧ (s.n + m) * bytes ≤ 140737488355328 ∧ s.n + m ≤ 9223372036854775807 ∧
    ∀ cap, s.n + m ≤ cap → K ⟨some ⟨H.size, 0, none⟩, s.n + m, cap⟩ (H.push (.cells ((os ++ xs).toArray ++ Builtin.zeroCells zero (cap - (s.n + m))) e)))
def slS (s : Sl) (size : Nat) (lo hi : Int) : Sl := ⟨if s.c = lo.toNat then s.a else s.a.map (·.add (lo.toNat * size)), hi.toNat - lo.toNat, s.c - lo.toNat⟩
section
variable {r : Option Nat} {P : Program} {n : Nat} {f : Nat → Value} {H : Hp} {d : Option Tmp} {ty : TypeId} {pos : String} {af : Array Edge} {g : Option (Nat × Bool)}
variable {x y : Operand} {T e : TypeId} {p : Addr} {v : Value}
theorem run_isAgg_no {dsc : TypeDesc} (hu : P.underlying T = some dsc) (hd : dsc.isRow = false) (w : World) : (isAgg T).run P w = .ok false w := by
  unfold isAgg
  rw [Sem.run_bind, run_underlying hu w]
  cases dsc <;> simp_all
theorem at_load {dsc : TypeDesc} (hu : P.underlying T = some dsc) (hd : dsc.isRow = false) (hx : ev n f x = .pointer (some p)) (hc : cellAt H p = some v) :
    At r P n f ⟨d, .load T x, ty, pos, af, g⟩ H v := by
  intro w hw
  subst hw
  have h := run_isAgg_no hu hd w
  have hc' : w.cell? p = some v := hc
  cases r <;> simp [Oper.semAt, execOp, hx, Instr.loadAt, Instr.sureAddr, loadVar, h, hc', Sem.run_bind]
theorem rangeAt_of {w : World} {cs : List Value} (h : ldA w.heap p cs) : p = ⟨p.block, p.off, none⟩ ∧ w.rangeAt p.block p.off cs := by
  obtain ⟨hs, hc⟩ := h
  have hp : p = ⟨p.block, p.off, none⟩ := by cases p; simp_all
  refine ⟨hp, fun j v hv => ?_⟩
  have := hc j v hv
  rw [hp, Addr.add_mid] at this
  exact this
theorem at_loadA {dsc : TypeDesc} {cs : List Value} (hu : P.underlying T = some dsc) (hd : dsc.isRow = true) (hz : (P.info? T).map (·.size) = some cs.length) (hx : ev n f x = .pointer (some p)) (hc : ldA H p cs) :
    At r P n f ⟨d, .load T x, ty, pos, af, g⟩ H (.agg cs.toArray) := by
  intro w hw
  subst hw
  obtain ⟨hp, hr⟩ := rangeAt_of hc
  have h := run_loadAt_mid w p.block p.off T cs dsc hr hu hd hz
  rw [← hp] at h
  cases r <;> simp [Oper.semAt, execOp, hx, h, Sem.run_bind]
theorem heap_setCells (b : Nat) : ∀ (vs : List Value) (o : Nat) (w : World), (w.setCells b o vs).heap = setsAt w.heap b o vs
  | [], _, _ => rfl
  | v :: vs, o, w => by
    show ((w.setCell ⟨b, o, none⟩ v).setCells b (o + 1) vs).heap = _
    rw [heap_setCells b vs (o + 1)]
    rfl
theorem sm_setCells (b : Nat) : ∀ (vs : List Value) (o : Nat) (w : World), Sm w (w.setCells b o vs)
  | [], _, w => Sm.refl w
  | v :: vs, o, w => (show Sm w (w.setCell ⟨b, o, none⟩ v) from ⟨rfl, rfl, rfl⟩).trans (sm_setCells b vs (o + 1) _)
theorem ef_store {sz : (P.info? T).map (·.size) = some 1} (hx : ev n f x = .pointer (some p)) (hy : ev n f y = v) (h1 : v.oneCell' = true) (hc : ∃ o, cellAt H p = some o) (hf : frozenAt H p = false) :
    Ef r P n f ⟨d, .store T x y, ty, pos, af, g⟩ H undef (setAt H p v) := by
  intro w hw
  subst hw
  obtain ⟨o, hc⟩ := hc
  have hc' : w.cell? p = some o := hc
  have hf' : w.frozen? p = false := hf
  have hcells : v.cells = #[v] := by cases v <;> simp_all [Value.cells, Value.oneCell']
  have hs : ∀ w, (sizeOf T).run P w = .ok 1 w := by
    intro w
    cases hq : P.info? T with
    | none => simp [hq] at sz
    | some i => simp [hq] at sz; simp [sizeOf, typeInfo, hq, sz, Sem.run_bind]
  have hst : (store p v .plain).run P w = .ok () (w.setCell p v) := by rw [run_store P w p v .plain h1, hc', hf']; rfl
  refine ⟨w.setCell p v, .inr ⟨?_, rfl⟩, rfl, ⟨rfl, rfl, rfl⟩⟩
  cases r <;> simp [Oper.semAt, execOp, hx, hy, Instr.storeAt, Instr.sureAddr, storeVar, hs, hcells, storeCells, Addr.add, hst, Sem.run_bind]
theorem ef_storeA {cs : List Value} (sz : (P.info? T).map (·.size) = some cs.length) (hx : ev n f x = .pointer (some p)) (hy : ev n f y = .agg cs.toArray) (h1 : ∀ u ∈ cs, u.oneCell' = true) (hm : mayW H p cs.length) :
    Ef r P n f ⟨d, .store T x y, ty, pos, af, g⟩ H undef (setsAt H p.block p.off cs) := by
  intro w hw
  subst hw
  obtain ⟨hs, hm⟩ := hm
  have hp : p = ⟨p.block, p.off, none⟩ := by cases p; simp_all
  have ht : w.there p.block p.off cs.toArray.size := by
    intro j hj
    have := hm j (by simpa using hj)
    rw [hp, Addr.add_mid] at this
    obtain ⟨⟨o, ho⟩, hf⟩ := this
    exact ⟨by rw [cell_eq, ho]; rfl, hf⟩
  have h := run_storeAt_mid (P := P) w p.block p.off T cs.toArray ht (by simpa using sz) (by simpa using h1)
  rw [← hp] at h
  refine ⟨w.setCells p.block p.off cs, .inr ⟨?_, rfl⟩, heap_setCells .., sm_setCells ..⟩
  cases r <;> simp [Oper.semAt, execOp, hx, hy, h, Sem.run_bind]
theorem ef_alloc {z : Value} {cs : List Value} (hz : (P.info? T).bind (·.zero) = some z) (hcs : z.cells = cs.toArray) :
    Ef r P n f ⟨d, .alloc T, ty, pos, af, g⟩ H (.pointer (some ⟨H.size, 0, none⟩)) (H.push (.cells cs.toArray T)) := by
  intro w hw
  subst hw
  cases hq : P.info? T with
  | none => simp [hq] at hz
  | some i =>
    have hz' : i.zero = some z := by simpa [hq] using hz
    refine ⟨w.alloc (.cells cs.toArray T), .inl ?_, rfl, ⟨rfl, rfl, rfl⟩⟩
    cases r <;> simp [Oper.semAt, execOp, Instr.alloc, zeroValue, typeInfo, hq, hz', newVar, newRow, hcs, Sem.run_bind]
theorem ef_box {cs : List Value} (hx : ev n f x = v) (hcs : v.cells = cs.toArray) :
    Ef r P n f ⟨d, .box T x, ty, pos, af, g⟩ H (.pointer (some ⟨H.size, 0, none⟩)) (H.push (.cells cs.toArray T)) := by
  intro w hw
  subst hw
  refine ⟨w.alloc (.cells cs.toArray T), .inl ?_, rfl, ⟨rfl, rfl, rfl⟩⟩
  cases r <;> simp [Oper.semAt, execOp, hx, Instr.box, newVar, newRow, hcs, Sem.run_bind]
theorem at_build {l : List (Nat × Operand)} {ps : List (Nat × Value)} {cs : List Value}
    (hp : l.map (fun q => (q.1, ev n f q.2)) = ps) (h : ∀ w, (Instr.build T ps.toArray).run P w = .ok (.agg cs.toArray) w) :
    At r P n f ⟨d, .build T l.toArray, ty, pos, af, g⟩ H (.agg cs.toArray) := by
  intro w _
  subst hp
  have h' := h w
  cases r <;> simp [Oper.semAt, execOp, h', Sem.run_bind]
theorem at_lenL {a : Option Addr} {l c : Nat} (hu : P.underlying T = some (.slice e)) (hx : ev n f x = .slice a l c) : At r P n f ⟨d, .call ⟨.builtin .len, #[x], #[T]⟩, ty, pos, af, g⟩ H (.int .i64 (l : Int)) := by
  intro w _; cases r <;> simp [Oper.semAt, execOp, resolve, invoke, builtin, Builtin.len_, goInt, hx, run_underlying hu, Sem.run_bind]
theorem at_ixI {k k' : IntKind} {i : Int} {len : Nat} {l : Ints len} (hu : P.underlying T = some (.array len e)) (he : P.underlying e = some (.int k)) (hz : (P.info? e).map (·.size) = some 1) (hx : ev n f x = .agg (ints k l.1).toArray) (hy : ev n f y = .int k' i) (h0 : 0 ≤ i) (h1 : i < (len : Int)) :
    At r P n f ⟨d, .index T x y, ty, pos, af, g⟩ H (.int k (ixI l i)) := by
  intro w _
  have h := run_isAgg_no he rfl w
  have hs : ∀ w, (sizeOf e).run P w = .ok 1 w := by
    intro w
    cases hq : P.info? e with
    | none => simp [hq] at hz
    | some i => simp [hq] at hz; simp [sizeOf, typeInfo, hq, hz, Sem.run_bind]
  have hl : i.toNat < l.1.length := by rw [l.2]; omega
  have hv : (ints k l.1)[i.toNat]? = some (.int k (ixI l i)) := by
    unfold ints ixI
    rw [List.getElem?_map, List.getElem?_eq_getElem hl, List.getD_eq_getElem?_getD, List.getElem?_eq_getElem hl]
    rfl
  cases r <;> simp [Oper.semAt, execOp, hx, hy, Instr.index, asIntOf, run_underlying hu, h0, h1, hs, part, h, hv, Sem.run_bind]
section sub
variable {s : Sl} {sz : Nat} {lo hi : Operand} {l u : Int} {k k' : IntKind}
theorem run_size (hz : (P.info? e).map (·.size) = some sz) (w : World) : (sizeOf e).run P w = .ok sz w := by
  cases hq : P.info? e with
  | none => simp [hq] at hz
  | some i => simp [hq] at hz; simp [sizeOf, typeInfo, hq, hz, Sem.run_bind]
theorem at_subLh (hu : P.underlying T = some (.slice e)) (hz : (P.info? e).map (·.size) = some sz) (hx : ev n f x = .slice s.a s.n s.c) (hh : ev n f hi = .int k' u) (h0 : 0 ≤ u) (h2 : u ≤ (s.c : Int)) :
    At r P n f ⟨d, .slice T x none (some hi) none, ty, pos, af, g⟩ H (.slice (slS s sz 0 u).a (slS s sz 0 u).n (slS s sz 0 u).c) := by
  intro w _
  cases r <;> simp [Oper.semAt, execOp, hx, hh, Instr.sliceAt, Instr.slice, Instr.sliceBounds, Instr.sliceBound, asIntOf, run_underlying hu, run_size hz, h0, h2, Sem.run_bind, slS]
theorem at_subAl {lo : Operand} {l : Nat} {len : Nat} {p : Addr} (hu : P.underlying T = some (.array len e)) (hz : (P.info? e).map (·.size) = some sz) (hx : ev n f x = .pointer (some p)) (hl : ev n f lo = .int k (l : Int)) (h2 : l < len) :
    At r P n f ⟨d, .slice T x (some lo) none none, ty, pos, af, g⟩ H (.slice (some (p.add (l * sz))) (len - l) (len - l)) := by
  intro w _
  have h3 : len ≠ l := by omega
  have h4 : l ≤ len := by omega
  cases r <;> simp [Oper.semAt, execOp, hx, hl, Instr.sliceAt, Instr.sureAddr, Instr.sliceBounds, Instr.sliceBound, asIntOf, run_underlying hu, run_size hz, h3, h4, Sem.run_bind]
end sub
theorem src_of {w : World} {T' e' : TypeId} {s : Sl} {sz m : Nat} {xs : List Value} (hk : P.underlying T' = some (.slice e')) (hs : s.n = m) (hl : xs.length = m * sz) (hr : rdS w.heap s.a xs) : Src P sz T' (.slice s.a s.n s.c) m xs w := by
  subst hs
  obtain ⟨h1, h2⟩ := hr
  cases ha : s.a with
  | some p =>
    refine Src.ofSlice w hk p s.n s.c xs hl (fun j u hj => ?_) h1
    obtain ⟨q, hq, hc⟩ := h2 j u hj
    rw [ha] at hq
    cases hq
    exact hc
  | none =>
    have hx : xs = [] := by
      cases xs with
      | nil => rfl
      | cons x xs =>
        obtain ⟨q, hq, _⟩ := h2 0 x rfl
        rw [ha] at hq
        cases hq
    subst hx
    exact ⟨.inl ⟨e', hk⟩, fun _ => rfl, run_firstCells_none w sz s.n s.n s.c, run_firstCells_none w.drew sz s.n s.n s.c, hl, fun _ h => by cases h⟩
theorem fx_append {s t : Sl} {K : Sl → Hp → Prop} {T' e' : TypeId} {i : TypeInfo} {z : Value} {size bytes m : Nat} {xs : List Value} (hu : P.underlying T = some (.slice e)) (hu' : P.underlying T' = some (.slice e')) (hi : P.info? e = some i) (hz : i.zero = some z)
    (hsz : i.size = size) (hby : i.bytes = bytes) (hx : ev n f x = .slice s.a s.n s.c) (hy : ev n f y = .slice t.a t.n t.c) (hm : t.n = m) (hl : xs.length = m * size) (hr : rdS H t.a xs) (h : apS H s e size bytes z.cells m xs K) :
    Fx r P n f ⟨d, .call ⟨.builtin .append, #[x, y], #[T, T']⟩, ty, pos, af, g⟩ H (fun v H' => ∃ s' : Sl, v = .slice s'.a s'.n s'.c ∧ K s' H') := by
  intro w hw
  subst hw hsz hby
  have hsrc : Src P i.size T' (.slice t.a t.n t.c) m xs w := src_of hu' hm hl hr
  by_cases hroom : s.n + m ≤ s.c
  · rcases h.1 hroom with ⟨ha, rfl, hK⟩ | ⟨b, o, ha, hmw, hK⟩
    · refine ⟨.slice none (s.n + m) s.c, w, ?_, Sm.refl _, ⟨none, s.n + m, s.c⟩, rfl, hK⟩
      rcases hsrc.kind with ⟨e', hk⟩ | hk <;>
        cases r <;> simp [Oper.semAt, execOp, resolve, invoke, builtin, hx, hy, ha, Builtin.append_, run_underlying hu, run_underlying hk, sizeOf, typeInfo, hi, hsrc.len, hroom, hsrc.cells, Sem.run_bind]
    · have hw' := run_append_room_src w T T' ty e i hu hi b o s.n s.c (.slice t.a t.n t.c) m xs hsrc hroom
        (fun j hj => by
          obtain ⟨⟨v, hv⟩, _⟩ := hmw.2 j hj
          rw [Addr.add_mid] at hv
          rw [cell_eq, hv]; rfl)
        (fun j hj => by
          have := (hmw.2 j hj).2
          rw [Addr.add_mid] at this
          exact this)
      refine ⟨.slice (some ⟨b, o, none⟩) (s.n + m) s.c, w.setCells b (o + s.n * i.size) xs, ?_, sm_setCells .., ⟨some ⟨b, o, none⟩, s.n + m, s.c⟩, rfl, by rw [heap_setCells]; exact hK⟩
      cases r <;> simp [Oper.semAt, execOp, resolve, invoke, builtin, hx, hy, ha, hw', Sem.run_bind]
  · obtain ⟨os, hol, hor, hby, h63, hK⟩ := h.2 (by omega)
    have hold : (Builtin.firstCells i.size s.n (.slice s.a s.n s.c)).run P w.drew = .ok os.toArray w.drew := by
      have := src_of (P := P) (w := w) (s := s) (sz := i.size) (m := s.n) hu rfl hol hor
      exact this.cellsD
    have hfit := growslice_fits (old := s.c) (need := s.n + m) (bytes := i.bytes) (by omega) hby
    have hw' := run_append_grow_src w T T' ty e i z hu hi hz s.a s.n s.c os hold (.slice t.a t.n t.c) m xs hsrc (by omega) (by omega) hfit
    refine ⟨.slice (some ⟨w.heap.size, 0, none⟩) (s.n + m) (grownCap w (s.n + m) s.c e), w.drew.alloc (.cells ((os ++ xs).toArray ++ Builtin.zeroCells z.cells (grownCap w (s.n + m) s.c e - (s.n + m))) e), ?_, ?_, ⟨some ⟨w.heap.size, 0, none⟩, s.n + m, grownCap w (s.n + m) s.c e⟩, rfl, hK (grownCap w (s.n + m) s.c e) ?_⟩
    · cases r <;> (simp [Oper.semAt, execOp, resolve, invoke, builtin, hx, hy, Sem.run_bind]; rw [hw']; rfl)
    · exact ⟨rfl, rfl, rfl⟩
    · unfold grownCap Question.cut
      exact Nat.le_add_right _ _
theorem rdS_new (H : Hp) (T : TypeId) (cs : List Value) (h1 : ∀ u ∈ cs, u.oneCell' = true) : rdS (H.push (.cells cs.toArray T)) (some ⟨H.size, 0, none⟩) cs := by
  refine ⟨h1, fun j v hv => ⟨_, rfl, ?_⟩⟩
  rw [Addr.add_mid]
  simp [cellAt, hv]
theorem foldl_set_list : ∀ (cs : List Value) (k off : Nat) (A : Array Value), off + k + cs.length ≤ A.size →
    ((cs.zipIdx k).foldl (fun B (q : Value × Nat) => B.setIfInBounds (off + q.2) q.1) A).toList = A.toList.take (off + k) ++ cs ++ A.toList.drop (off + k + cs.length)
  | [], k, off, A, h => by simp
  | c :: cs, k, off, A, h => by
    rw [List.zipIdx_cons, List.foldl_cons, foldl_set_list cs (k + 1) off _ (by simp at h ⊢; omega)]
    have hk : off + k < A.toList.length := by simp at h ⊢; omega
    simp only [Array.toList_setIfInBounds]
    rw [show off + (k + 1) = off + k + 1 from by omega, List.take_succ_eq_append_getElem (by simpa using hk), List.getElem_set_self, List.take_set_of_le (Nat.le_refl _), List.drop_set_of_lt (by omega)]
    simp [show off + k + 1 + cs.length = off + k + (cs.length + 1) from by omega]
theorem fill_list (sz : Nat) : ∀ (vs : List Value) (k : Nat) (A : Array Value), (∀ v ∈ vs, v.cells.size = sz) → A.size = (k + vs.length) * sz →
    Instr.fill (fun j => some (j * sz, sz)) A ((vs.zipIdx k).map fun q => (q.2, q.1)) = some (A.toList.take (k * sz) ++ vs.flatMap (·.cells.toList)).toArray
  | [], k, A, _, hA => by
    have : A.toList.take (k * sz) = A.toList := List.take_of_length_le (by simp at hA ⊢; omega)
    simp [Instr.fill, this]
  | v :: vs, k, A, h, hA => by
    have hv : v.cells.size = sz := h v (by simp)
    have hle : k * sz + sz ≤ A.size := by
      rw [hA, ← Nat.succ_mul]
      exact Nat.mul_le_mul_right _ (by simp)
    rw [List.zipIdx_cons, List.map_cons, Instr.fill]
    simp only [hv]
    rw [if_neg (by simp; omega)]
    have hB : (v.cells.zipIdx.foldl (fun B (q : Value × Nat) => B.setIfInBounds (k * sz + q.2) q.1) A).toList = A.toList.take (k * sz) ++ v.cells.toList ++ A.toList.drop (k * sz + sz) := by
      have := foldl_set_list v.cells.toList 0 (k * sz) A (by simpa [hv] using hle)
      rw [← Array.foldl_toList, Array.toList_zipIdx, this]
      simp [hv]
    generalize hC : (v.cells.zipIdx.foldl (fun B (q : Value × Nat) => B.setIfInBounds (k * sz + q.2) q.1) A) = C at hB
    have hCs : C.size = (k + 1 + vs.length) * sz := by
      have := congrArg List.length hB
      simp [hv] at this
      simp at hA
      rw [show k + 1 + vs.length = k + (vs.length + 1) from by omega, ← hA]
      omega
    rw [fill_list sz vs (k + 1) C (fun u hu => h u (by simp [hu])) hCs, hB]
    have e : (A.toList.take (k * sz) ++ v.cells.toList).length = (k + 1) * sz := by simp [hv, Nat.succ_mul]; omega
    rw [List.take_append_of_le_length (by rw [e]; exact Nat.le_refl _), List.take_of_length_le (by rw [e]; exact Nat.le_refl _)]
    simp
theorem fill_full {sz n : Nat} {vs : List Value} {A : Array Value} {ps : List (Nat × Value)} {cs : List Value} (hp : (vs.zipIdx 0).map (fun q => (q.2, q.1)) = ps) (hc : vs.flatMap (·.cells.toList) = cs) (h : ∀ v ∈ vs, v.cells.size = sz) (hn : vs.length = n) (hA : A.size = n * sz) :
    Instr.fill (fun j => some (j * sz, sz)) A ps = some cs.toArray := by
  subst hp hc hn
  rw [fill_list sz vs 0 A h (by simpa using hA)]
  simp
theorem run_buildSlice {len : Nat} {ps : Array (Nat × Value)} {cs : List Value} {i : TypeInfo} {z : Value} (hu : P.underlying T = some (.slice e)) (hi : P.info? e = some i) (hz : i.zero = some z)
    (hb : len * i.size ≤ 16777216) (hf : Instr.fill (fun j => some (j * i.size, i.size)) ((Array.range (len * i.size)).map (z.cells[· % z.cells.size]!)) ps.toList = some cs.toArray) (w : World) :
    (Instr.buildSlice T len ps).run P w = .ok (.slice (some ⟨w.heap.size, 0, none⟩) len len) (w.alloc (.cells cs.toArray e)) := by
  have hb' : ¬ (16777216 < len * i.size) := by omega
  by_cases h0 : len * i.size = 0
  · have hr0 : ∀ (F : Nat → Value), Array.map F (Array.range 0) = #[] := fun F => by apply Array.eq_empty_of_size_eq_zero; simp
    rw [h0, hr0] at hf
    simp [Instr.buildSlice, run_underlying hu, sizeOf, typeInfo, hi, h0, newRow, Sem.run_bind, hf, hr0]
  · simp [Instr.buildSlice, run_underlying hu, sizeOf, typeInfo, zeroValue, hi, hz, hb', h0, hf, newRow, Sem.run_bind]
theorem ef_buildSlice {len : Nat} {l : List (Nat × Operand)} {ps : List (Nat × Value)} {cs : List Value} {i : TypeInfo} {z : Value} (hu : P.underlying T = some (.slice e)) (hi : P.info? e = some i) (hz : i.zero = some z)
    (hp : l.map (fun q => (q.1, ev n f q.2)) = ps) (hb : len * i.size ≤ 16777216)
    (hf : Instr.fill (fun j => some (j * i.size, i.size)) ((Array.range (len * i.size)).map (z.cells[· % z.cells.size]!)) ps = some cs.toArray) :
    Ef r P n f ⟨d, .buildSlice T len l.toArray, ty, pos, af, g⟩ H (.slice (some ⟨H.size, 0, none⟩) len len) (H.push (.cells cs.toArray e)) := by
  intro w hw
  subst hw
  have h := run_buildSlice (ps := ps.toArray) hu hi hz hb hf w
  rw [← hp] at h
  refine ⟨w.alloc (.cells cs.toArray e), .inl ?_, rfl, ⟨rfl, rfl, rfl⟩⟩
  cases r <;> simp [Oper.semAt, execOp, h, Sem.run_bind]
theorem ef_makeSlice {l : Int} {k k' : IntKind} {i : TypeInfo} {z : Value} {sz : Nat} (hu : P.underlying T = some (.slice e)) (hi : P.info? e = some i) (hz : i.zero = some z) (hsz : i.size = sz)
    (hx : ev n f x = .int k l) (hy : ev n f y = .int k' l) (h0 : 0 ≤ l) (hb : (i.bytes : Int) * l ≤ 281474976710656) (h63 : l ≤ 9223372036854775807) :
    Ef r P n f ⟨d, .makeSlice T x y, ty, pos, af, g⟩ H (.slice (some ⟨H.size, 0, none⟩) l.toNat l.toNat) (H.push (.cells (madeCells z.cells (l.toNat * sz)) e)) := by
  intro w hw
  subst hw hsz
  have h := run_make (P := P) w T e i z hu hi hz k k' l l h0 (Int.le_refl _) hb h63
  refine ⟨w.alloc (.cells (madeCells z.cells (l.toNat * i.size)) e), .inl ?_, rfl, ⟨rfl, rfl, rfl⟩⟩
  cases r <;> simp [Oper.semAt, execOp, hx, hy, h, Sem.run_bind]
end
end Go.Proofs.Ytmnoecpnoofdjaa.G
