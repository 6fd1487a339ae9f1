/- Of this text what the row needs. -/
import Derived.Test.YtkplpbnifinlbaaDoorQMarkerBetweenGB
namespace Go.Proofs.YtkplpbnifinlbaaDoor.G
open Go.RowKit
set_option linter.unusedSimpArgs false
structure Sl where
  a : Option Addr
  n : Nat
  c : Nat
def Ints (n : Nat) : Type := { l : List Int // l.length = n }
def ints (k : IntKind) (l : List Int) : List Value := l.map (.int k)
def Bools (n : Nat) : Type := { l : List Bool // l.length = n }
def bools (l : List Bool) : List Value := l.map .bool
def zInts (n : Nat) : Ints n := ⟨List.replicate n 0, by simp⟩
theorem info_ex {P : Program} {T : TypeId} {z : Value} {s b : Nat} (h : (P.info? T).map (fun i => (i.zero, i.size, i.bytes)) = some (some z, s, b)) : ∃ i, P.info? T = some i ∧ i.zero = some z ∧ i.size = s ∧ i.bytes = b := by
  cases hq : P.info? T with
  | none => simp [hq] at h
  | some i => simp [hq] at h; exact ⟨i, rfl, h.1, h.2.1, h.2.2⟩
theorem enters_ {P : Program} {f : FuncId} {fn : Func} {c : Code} (hf : P.funcs[f]? = some fn) (hname : (fn.name == "runtime.NumGoroutine") = false) (hb : fn.body = some c) : ∀ args w, (callFunc f args).run P w = .ok (.enter f args) w := by
  intro args w
  have h1 : fn.name ≠ "runtime.NumGoroutine" := by simpa using hname
  simp [callFunc, hf, h1, hb, mark]
theorem bif_ {b : Bool} {A B G : Prop} (h : if b = true then A else B) (ht : b = true → A → G) (hf : b = false → B → G) : G := by
  cases b with
  | true => exact ht rfl (by simpa using h)
  | false => exact hf rfl (by simpa using h)
def ldI (k : IntKind) (H : Hp) (p : Addr) (K : Int → Prop) : Prop := ∃ v, cellAt H p = some (.int k v) ∧ K v
def ldB (H : Hp) (p : Addr) (K : Bool → Prop) : Prop := ∃ v, cellAt H p = some (.bool v) ∧ K v
def ldS (H : Hp) (p : Addr) (K : ByteArray → Prop) : Prop := ∃ v, cellAt H p = some (.string v) ∧ K v
theorem ones_nil : ∀ u ∈ ([] : List Value), u.oneCell' = true := fun _ h => by cases h
theorem ones_cons {v : Value} {l : List Value} (h : v.oneCell' = true) (t : ∀ u ∈ l, u.oneCell' = true) : ∀ u ∈ v :: l, u.oneCell' = true := fun u hu => by
  rcases List.mem_cons.1 hu with rfl | hu
  · exact h
  · exact t u hu
def ldA (H : Hp) (p : Addr) (cs : List Value) : Prop := p.spot = none ∧ ∀ j v, cs[j]? = some v → cellAt H (p.add j) = some v
def st (H : Hp) (p : Addr) (v : Value) (K : Hp → Prop) : Prop := (∃ o, cellAt H p = some o) ∧ frozenAt H p = false ∧ K (setAt H p v)
def setsAt (H : Hp) (b : Nat) : Nat → List Value → Hp
  | _, [] => H
  | o, v :: r => setsAt (setAt H ⟨b, o, none⟩ v) b (o + 1) r
def mayW (H : Hp) (p : Addr) (m : Nat) : Prop := p.spot = none ∧ ∀ j, j < m → (∃ o, cellAt H (p.add j) = some o) ∧ frozenAt H (p.add j) = false
def stA (H : Hp) (p : Addr) (vs : List Value) (K : Hp → Prop) : Prop := mayW H p vs.length ∧ K (setsAt H p.block p.off vs)
def nw (H : Hp) (T : TypeId) (cs : List Value) (K : Addr → Hp → Prop) : Prop := K ⟨H.size, 0, none⟩ (H.push (.cells cs.toArray T))
def rdS (H : Hp) (a : Option Addr) (cs : List Value) : Prop := (∀ u ∈ cs, u.oneCell' = true) ∧ ∀ j v, cs[j]? = some v → ∃ p, a = some p ∧ cellAt H (p.add j) = some v
def Lt {α : Type} (a : α) (K : α → Prop) : Prop := ∀ x, x = a → K x
section
variable {r : Option Nat} {P : Program} {n : Nat} {f : Nat → Value} {H : Hp} {d : Option Tmp} {ty : TypeId} {pos : String} {af : Array Edge} {g : Option (Nat × Bool)}
variable {x y : Operand} {T e : TypeId} {p : Addr} {v : Value}
theorem run_isAgg_no {dsc : TypeDesc} (hu : P.underlying T = some dsc) (hd : dsc.isRow = false) (w : World) : (isAgg T).run P w = .ok false w := by
  unfold isAgg
  rw [Sem.run_bind, run_underlying hu w]
  cases dsc <;> simp_all
theorem at_load {dsc : TypeDesc} (hu : P.underlying T = some dsc) (hd : dsc.isRow = false) (hx : ev n f x = .pointer (some p)) (hc : cellAt H p = some v) :
    At r P n f ⟨d, .load T x, ty, pos, af, g⟩ H v := by
  intro w hw
  subst hw
  have h := run_isAgg_no hu hd w
  have hc' : w.cell? p = some v := hc
  cases r <;> simp [Oper.semAt, execOp, hx, Instr.loadAt, Instr.sureAddr, loadVar, h, hc', Sem.run_bind]
theorem rangeAt_of {w : World} {cs : List Value} (h : ldA w.heap p cs) : p = ⟨p.block, p.off, none⟩ ∧ w.rangeAt p.block p.off cs := by
  obtain ⟨hs, hc⟩ := h
  have hp : p = ⟨p.block, p.off, none⟩ := by cases p; simp_all
  refine ⟨hp, fun j v hv => ?_⟩
  have := hc j v hv
  rw [hp, Addr.add_mid] at this
  exact this
theorem at_loadA {dsc : TypeDesc} {cs : List Value} (hu : P.underlying T = some dsc) (hd : dsc.isRow = true) (hz : (P.info? T).map (·.size) = some cs.length) (hx : ev n f x = .pointer (some p)) (hc : ldA H p cs) :
    At r P n f ⟨d, .load T x, ty, pos, af, g⟩ H (.agg cs.toArray) := by
  intro w hw
  subst hw
  obtain ⟨hp, hr⟩ := rangeAt_of hc
  have h := run_loadAt_mid w p.block p.off T cs dsc hr hu hd hz
  rw [← hp] at h
  cases r <;> simp [Oper.semAt, execOp, hx, h, Sem.run_bind]
theorem heap_setCells (b : Nat) : ∀ (vs : List Value) (o : Nat) (w : World), (w.setCells b o vs).heap = setsAt w.heap b o vs
  | [], _, _ => rfl
  | v :: vs, o, w => by
    show ((w.setCell ⟨b, o, none⟩ v).setCells b (o + 1) vs).heap = _
    rw [heap_setCells b vs (o + 1)]
    rfl
theorem sm_setCells (b : Nat) : ∀ (vs : List Value) (o : Nat) (w : World), Sm w (w.setCells b o vs)
  | [], _, w => Sm.refl w
  | v :: vs, o, w => (show Sm w (w.setCell ⟨b, o, none⟩ v) from ⟨rfl, rfl, rfl⟩).trans (sm_setCells b vs (o + 1) _)
theorem ef_store {sz : (P.info? T).map (·.size) = some 1} (hx : ev n f x = .pointer (some p)) (hy : ev n f y = v) (h1 : v.oneCell' = true) (hc : ∃ o, cellAt H p = some o) (hf : frozenAt H p = false) :
    Ef r P n f ⟨d, .store T x y, ty, pos, af, g⟩ H undef (setAt H p v) := by
  intro w hw
  subst hw
  obtain ⟨o, hc⟩ := hc
  have hc' : w.cell? p = some o := hc
  have hf' : w.frozen? p = false := hf
  have hcells : v.cells = #[v] := by cases v <;> simp_all [Value.cells, Value.oneCell']
  have hs : ∀ w, (sizeOf T).run P w = .ok 1 w := by
    intro w
    cases hq : P.info? T with
    | none => simp [hq] at sz
    | some i => simp [hq] at sz; simp [sizeOf, typeInfo, hq, sz, Sem.run_bind]
  have hst : (store p v .plain).run P w = .ok () (w.setCell p v) := by rw [run_store P w p v .plain h1, hc', hf']; rfl
  refine ⟨w.setCell p v, .inr ⟨?_, rfl⟩, rfl, ⟨rfl, rfl, rfl⟩⟩
  cases r <;> simp [Oper.semAt, execOp, hx, hy, Instr.storeAt, Instr.sureAddr, storeVar, hs, hcells, storeCells, Addr.add, hst, Sem.run_bind]
theorem ef_storeA {cs : List Value} (sz : (P.info? T).map (·.size) = some cs.length) (hx : ev n f x = .pointer (some p)) (hy : ev n f y = .agg cs.toArray) (h1 : ∀ u ∈ cs, u.oneCell' = true) (hm : mayW H p cs.length) :
    Ef r P n f ⟨d, .store T x y, ty, pos, af, g⟩ H undef (setsAt H p.block p.off cs) := by
  intro w hw
  subst hw
  obtain ⟨hs, hm⟩ := hm
  have hp : p = ⟨p.block, p.off, none⟩ := by cases p; simp_all
  have ht : w.there p.block p.off cs.toArray.size := by
    intro j hj
    have := hm j (by simpa using hj)
    rw [hp, Addr.add_mid] at this
    obtain ⟨⟨o, ho⟩, hf⟩ := this
    exact ⟨by rw [cell_eq, ho]; rfl, hf⟩
  have h := run_storeAt_mid (P := P) w p.block p.off T cs.toArray ht (by simpa using sz) (by simpa using h1)
  rw [← hp] at h
  refine ⟨w.setCells p.block p.off cs, .inr ⟨?_, rfl⟩, heap_setCells .., sm_setCells ..⟩
  cases r <;> simp [Oper.semAt, execOp, hx, hy, h, Sem.run_bind]
theorem ef_alloc {z : Value} {cs : List Value} (hz : (P.info? T).bind (·.zero) = some z) (hcs : z.cells = cs.toArray) :
    Ef r P n f ⟨d, .alloc T, ty, pos, af, g⟩ H (.pointer (some ⟨H.size, 0, none⟩)) (H.push (.cells cs.toArray T)) := by
  intro w hw
  subst hw
  cases hq : P.info? T with
  | none => simp [hq] at hz
  | some i =>
    have hz' : i.zero = some z := by simpa [hq] using hz
    refine ⟨w.alloc (.cells cs.toArray T), .inl ?_, rfl, ⟨rfl, rfl, rfl⟩⟩
    cases r <;> simp [Oper.semAt, execOp, Instr.alloc, zeroValue, typeInfo, hq, hz', newVar, newRow, hcs, Sem.run_bind]
theorem ef_box {cs : List Value} (hx : ev n f x = v) (hcs : v.cells = cs.toArray) :
    Ef r P n f ⟨d, .box T x, ty, pos, af, g⟩ H (.pointer (some ⟨H.size, 0, none⟩)) (H.push (.cells cs.toArray T)) := by
  intro w hw
  subst hw
  refine ⟨w.alloc (.cells cs.toArray T), .inl ?_, rfl, ⟨rfl, rfl, rfl⟩⟩
  cases r <;> simp [Oper.semAt, execOp, hx, Instr.box, newVar, newRow, hcs, Sem.run_bind]
theorem at_build {l : List (Nat × Operand)} {ps : List (Nat × Value)} {cs : List Value}
    (hp : l.map (fun q => (q.1, ev n f q.2)) = ps) (h : ∀ w, (Instr.build T ps.toArray).run P w = .ok (.agg cs.toArray) w) :
    At r P n f ⟨d, .build T l.toArray, ty, pos, af, g⟩ H (.agg cs.toArray) := by
  intro w _
  subst hp
  have h' := h w
  cases r <;> simp [Oper.semAt, execOp, h', Sem.run_bind]
section sub
variable {s : Sl} {sz : Nat} {lo hi : Operand} {l u : Int} {k k' : IntKind}
end sub
theorem rdS_new (H : Hp) (T : TypeId) (cs : List Value) (h1 : ∀ u ∈ cs, u.oneCell' = true) : rdS (H.push (.cells cs.toArray T)) (some ⟨H.size, 0, none⟩) cs := by
  refine ⟨h1, fun j v hv => ⟨_, rfl, ?_⟩⟩
  rw [Addr.add_mid]
  simp [cellAt, hv]
theorem foldl_set_list : ∀ (cs : List Value) (k off : Nat) (A : Array Value), off + k + cs.length ≤ A.size →
    ((cs.zipIdx k).foldl (fun B (q : Value × Nat) => B.setIfInBounds (off + q.2) q.1) A).toList = A.toList.take (off + k) ++ cs ++ A.toList.drop (off + k + cs.length)
  | [], k, off, A, h => by simp
  | c :: cs, k, off, A, h => by
    rw [List.zipIdx_cons, List.foldl_cons, foldl_set_list cs (k + 1) off _ (by simp at h ⊢; omega)]
    have hk : off + k < A.toList.length := by simp at h ⊢; omega
    simp only [Array.toList_setIfInBounds]
    rw [show off + (k + 1) = off + k + 1 from by omega, List.take_succ_eq_append_getElem (by simpa using hk), List.getElem_set_self, List.take_set_of_le (Nat.le_refl _), List.drop_set_of_lt (by omega)]
    simp [show off + k + 1 + cs.length = off + k + (cs.length + 1) from by omega]
theorem fill_list (sz : Nat) : ∀ (vs : List Value) (k : Nat) (A : Array Value), (∀ v ∈ vs, v.cells.size = sz) → A.size = (k + vs.length) * sz →
    Instr.fill (fun j => some (j * sz, sz)) A ((vs.zipIdx k).map fun q => (q.2, q.1)) = some (A.toList.take (k * sz) ++ vs.flatMap (·.cells.toList)).toArray
  | [], k, A, _, hA => by
    have : A.toList.take (k * sz) = A.toList := List.take_of_length_le (by simp at hA ⊢; omega)
    simp [Instr.fill, this]
  | v :: vs, k, A, h, hA => by
    have hv : v.cells.size = sz := h v (by simp)
    have hle : k * sz + sz ≤ A.size := by
      rw [hA, ← Nat.succ_mul]
      exact Nat.mul_le_mul_right _ (by simp)
    rw [List.zipIdx_cons, List.map_cons, Instr.fill]
    simp only [hv]
    rw [if_neg (by simp; omega)]
    have hB : (v.cells.zipIdx.foldl (fun B (q : Value × Nat) => B.setIfInBounds (k * sz + q.2) q.1) A).toList = A.toList.take (k * sz) ++ v.cells.toList ++ A.toList.drop (k * sz + sz) := by
      have := foldl_set_list v.cells.toList 0 (k * sz) A (by simpa [hv] using hle)
      rw [← Array.foldl_toList, Array.toList_zipIdx, this]
      simp [hv]
    generalize hC : (v.cells.zipIdx.foldl (fun B (q : Value × Nat) => B.setIfInBounds (k * sz + q.2) q.1) A) = C at hB
    have hCs : C.size = (k + 1 + vs.length) * sz := by
      have := congrArg List.length hB
      simp [hv] at this
      simp at hA
      rw [show k + 1 + vs.length = k + (vs.length + 1) from by omega, ← hA]
      omega
    rw [fill_list sz vs (k + 1) C (fun u hu => h u (by simp [hu])) hCs, hB]
    have e : (A.toList.take (k * sz) ++ v.cells.toList).length = (k + 1) * sz := by simp [hv, Nat.succ_mul]; omega
    rw [List.take_append_of_le_length (by rw [e]; exact Nat.le_refl _), List.take_of_length_le (by rw [e]; exact Nat.le_refl _)]
    simp
theorem fill_full {sz n : Nat} {vs : List Value} {A : Array Value} {ps : List (Nat × Value)} {cs : List Value} (hp : (vs.zipIdx 0).map (fun q => (q.2, q.1)) = ps) (hc : vs.flatMap (·.cells.toList) = cs) (h : ∀ v ∈ vs, v.cells.size = sz) (hn : vs.length = n) (hA : A.size = n * sz) :
    Instr.fill (fun j => some (j * sz, sz)) A ps = some cs.toArray := by
  subst hp hc hn
  rw [fill_list sz vs 0 A h (by simpa using hA)]
  simp
theorem run_buildSlice {len : Nat} {ps : Array (Nat × Value)} {cs : List Value} {i : TypeInfo} {z : Value} (hu : P.underlying T = some (.slice e)) (hi : P.info? e = some i) (hz : i.zero = some z)
    (hb : len * i.size ≤ 16777216) (hf : Instr.fill (fun j => some (j * i.size, i.size)) ((Array.range (len * i.size)).map (z.cells[· % z.cells.size]!)) ps.toList = some cs.toArray) (w : World) :
    (Instr.buildSlice T len ps).run P w = .ok (.slice (some ⟨w.heap.size, 0, none⟩) len len) (w.alloc (.cells cs.toArray e)) := by
  have hb' : ¬ (16777216 < len * i.size) := by omega
  by_cases h0 : len * i.size = 0
  · have hr0 : ∀ (F : Nat → Value), Array.map F (Array.range 0) = #[] := fun F => by apply Array.eq_empty_of_size_eq_zero; simp
    rw [h0, hr0] at hf
    simp [Instr.buildSlice, run_underlying hu, sizeOf, typeInfo, hi, h0, newRow, Sem.run_bind, hf, hr0]
  · simp [Instr.buildSlice, run_underlying hu, sizeOf, typeInfo, zeroValue, hi, hz, hb', h0, hf, newRow, Sem.run_bind]
theorem ef_buildSlice {len : Nat} {l : List (Nat × Operand)} {ps : List (Nat × Value)} {cs : List Value} {i : TypeInfo} {z : Value} (hu : P.underlying T = some (.slice e)) (hi : P.info? e = some i) (hz : i.zero = some z)
    (hp : l.map (fun q => (q.1, ev n f q.2)) = ps) (hb : len * i.size ≤ 16777216)
    (hf : Instr.fill (fun j => some (j * i.size, i.size)) ((Array.range (len * i.size)).map (z.cells[· % z.cells.size]!)) ps = some cs.toArray) :
    Ef r P n f ⟨d, .buildSlice T len l.toArray, ty, pos, af, g⟩ H (.slice (some ⟨H.size, 0, none⟩) len len) (H.push (.cells cs.toArray e)) := by
  intro w hw
  subst hw
  have h := run_buildSlice (ps := ps.toArray) hu hi hz hb hf w
  rw [← hp] at h
  refine ⟨w.alloc (.cells cs.toArray e), .inl ?_, rfl, ⟨rfl, rfl, rfl⟩⟩
  cases r <;> simp [Oper.semAt, execOp, h, Sem.run_bind]
theorem at_str {U : TypeId} {s : Sl} {b : ByteArray} (hs : P.underlying T = some (.slice e)) (hd : P.underlying U = some .string) (he : P.underlying e = some (.int .u8)) (hx : ev n f x = .slice s.a s.n s.c) (hn : s.n = b.size) (hr : rdS H s.a (byteCells b)) :
    At r P n f ⟨d, .convert T U x, ty, pos, af, g⟩ H (.string b) := by
  intro w hw
  subst hw
  have hb : b = ⟨b.data.toList.toArray⟩ := by rw [Array.toArray_toList]
  have hlen : b.size = b.data.toList.length := by rw [Array.length_toList]; rfl
  have hget : ∀ j (hj : j < b.data.toList.length), (byteCells b)[j]? = some (.int .u8 (b.data.toList[j].toNat : Int)) := fun j hj => by
    unfold byteCells
    rw [List.getElem?_map, List.getElem?_eq_getElem hj]
    rfl
  have h : (convert T U (.slice s.a s.n s.c)).run P w = .ok (.string b) w := by
    cases ha : s.a with
    | some p =>
      rw [hn, hlen]
      have := run_convert_bytes_back w T U e p s.c b.data.toList hs he hd (fun j hj => by
        obtain ⟨q, hq, hc⟩ := hr.2 j _ (hget j hj)
        rw [ha] at hq
        cases hq
        exact hc)
      rw [this, ← hb]
    | none =>
      have h0 : b.size = 0 := by
        rcases Nat.eq_zero_or_pos b.size with h0 | h0
        · exact h0
        · obtain ⟨q, hq, _⟩ := hr.2 0 _ (hget 0 (by omega))
          rw [ha] at hq
          cases hq
      have hbe : b = ByteArray.empty := by
        apply ByteArray.ext
        apply Array.eq_empty_of_size_eq_zero
        exact h0
      rw [run_convert_bytes_string w T U e none s.n s.c hs he hd, hbe]
      rfl
  cases r <;> simp [Oper.semAt, execOp, hx, h, Sem.run_bind]
end
end Go.Proofs.YtkplpbnifinlbaaDoor.G
