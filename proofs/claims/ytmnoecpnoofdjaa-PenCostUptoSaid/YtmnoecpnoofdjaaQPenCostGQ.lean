/- Of this text what the row needs. -/
import Derived.Test.YtmnoecpnoofdjaaQPenCostGO
import Derived.Laws.StructEq
import Derived.ChangeKeysEq
import Derived.Laws.Tables
namespace Go.Proofs.Ytmnoecpnoofdjaa.G
open Go.RowKit
set_option linter.unusedVariables false
set_option linter.unusedSimpArgs false
section
variable {r : Option Nat} {P : Program} {n : Nat} {f : Nat → Value} {H : Hp} {d : Option Tmp} {ty : TypeId} {pos : String} {af : Array Edge} {g : Option (Nat × Bool)} {dp : Nat} {T U : TypeId}
end
section
variable {P : Program} {n : Nat} {f0 : Nat → Value} {E : List (Nat × Value)} {w w0 : World}
theorem loadVar_one {T : TypeId} {p : Addr} {v : Value} {dsc : TypeDesc} (hu : P.underlying T = some dsc) (hd : dsc.isRow = false) (hc : cellAt w.heap p = some v) : (loadVar T p).run P w = .ok v w := by
  have h := run_isAgg_no hu hd w
  have hc' : w.cell? p = some v := hc
  simp [loadVar, h, hc', Sem.run_bind]
theorem loadVar_agg {T : TypeId} {p : Addr} {cs : List Value} {dsc : TypeDesc} (hu : P.underlying T = some dsc) (hd : dsc.isRow = true) (hz : (P.info? T).map (·.size) = some cs.length) (hc : ldA w.heap p cs) : (loadVar T p).run P w = .ok (.agg cs.toArray) w := by
  obtain ⟨hp, hr⟩ := rangeAt_of hc
  have h := run_loadAt_mid w p.block p.off T cs dsc hr hu hd hz
  rw [← hp] at h
  simpa [Instr.loadAt, Instr.sureAddr, Sem.run_bind] using h
def Rr (P : Program) (n : Nat) (f : Nat → Value) (w : World) : ResultVar → Value → Prop
  | .tmp t, v => t < n ∧ f t = v
  | .cell a T, v => a < n ∧ ∃ p, f a = .pointer (some p) ∧ (loadVar T p).run P w = .ok v w
theorem wk_retR1 {α : Type} {enc : α → Value} {K : α → Hp → Prop} {fn : Func} {c : ResultVar} {v : Value} {x : α} (hres : fn.results = #[c]) (hc : Rr P n (en f0 E) w c v) (he : v = enc x) (so : Sm w0 w) (h : K x w.heap) :
    Wk (bodyPost P fn (Rt enc K w0)) .ret n f0 E [] w := by
  refine bodyPost_ret (v := enc x) ?_ rfl ⟨x, rfl, h, so⟩
  subst he
  cases c with
  | tmp t => simp [results, hres, ac, hc.1, hc.2]
  | cell a T => obtain ⟨ha, p, hp, hl⟩ := hc; simp [results, hres, ac, ha, hp, asAddr, hl, Sem.run_bind]
theorem wk_retR3 {α : Type} {enc : α → Value} {K : α → Hp → Prop} {fn : Func} {c c' c'' : ResultVar} {v v' v'' : Value} {x : α} (hres : fn.results = #[c, c', c'']) (hc : Rr P n (en f0 E) w c v) (hc' : Rr P n (en f0 E) w c' v') (hc'' : Rr P n (en f0 E) w c'' v'') (he : .tuple #[v, v', v''] = enc x) (so : Sm w0 w) (h : K x w.heap) :
    Wk (bodyPost P fn (Rt enc K w0)) .ret n f0 E [] w := by
  refine bodyPost_ret (v := enc x) ?_ rfl ⟨x, rfl, h, so⟩
  rw [← he]
  cases c <;> cases c' <;> cases c'' <;> simp only [Rr] at hc hc' hc'' <;> simp [results, hres, ac, hc, hc', hc'', Sem.run_bind] <;> (try obtain ⟨ha, p, hp, hl⟩ := hc) <;> (try obtain ⟨ha', p', hp', hl'⟩ := hc') <;> (try obtain ⟨ha'', p'', hp'', hl''⟩ := hc'') <;> simp_all [asAddr, Sem.run_bind]
end
def placesOf : Nat → List Nat → List (Nat × Nat)
  | _, [] => []
  | o, s :: l => (o, s) :: placesOf (o + s) l
theorem places_get : ∀ (l : List Nat) (o j s : Nat), l[j]? = some s → (placesOf o l)[j]? = some (o + (l.take j).sum, s)
  | [], _, _, _, h => by simp at h
  | x :: l, o, 0, s, h => by simp at h; subst h; simp [placesOf]
  | x :: l, o, j + 1, s, h => by
    have := places_get l (o + x) j s (by simpa using h)
    simp only [placesOf, List.getElem?_cons_succ, this, List.take_succ_cons, List.sum_cons, Nat.add_assoc]
theorem flat_len (vs : List Value) : (vs.flatMap (·.cells.toList)).length = (vs.map (·.cells.size)).sum := by
  induction vs with
  | nil => rfl
  | cons v vs ih => simp [ih]
theorem fill_parts (place : Nat → Option (Nat × Nat)) (szs : List Nat) (hp : ∀ j s, szs[j]? = some s → place j = some ((szs.take j).sum, s)) :
    ∀ (ps : List (Nat × Value)) (vs : List Value), vs.map (·.cells.size) = szs → (∀ q ∈ ps, szs[q.1]? = some q.2.cells.size) →
      Instr.fill place (vs.flatMap (·.cells.toList)).toArray ps = some ((ps.foldl (fun vs q => vs.set q.1 q.2) vs).flatMap (·.cells.toList)).toArray
  | [], vs, _, _ => rfl
  | (j, v) :: ps, vs, hs, hq => by
    have h0 := hq (j, v) (by simp)
    simp only at h0
    have hj : j < vs.length := by
      have := (List.getElem?_eq_some_iff.1 h0).1
      rw [← hs] at this
      simpa using this
    have hvj : (vs[j]).cells.size = v.cells.size := by
      have := h0
      rw [← hs, List.getElem?_map, List.getElem?_eq_getElem hj] at this
      simpa using this
    have hoff : ((vs.take j).flatMap (·.cells.toList)).length = (szs.take j).sum := by rw [flat_len, List.map_take, hs]
    have hsplit : vs.flatMap (·.cells.toList) = (vs.take j).flatMap (·.cells.toList) ++ (vs[j]).cells.toList ++ (vs.drop (j + 1)).flatMap (·.cells.toList) := by
      have e : vs = vs.take j ++ vs[j] :: vs.drop (j + 1) := by rw [← List.drop_eq_getElem_cons hj, List.take_append_drop]
      rw [List.append_assoc]
      exact (congrArg (List.flatMap _) e).trans (by rw [List.flatMap_append, List.flatMap_cons])
    have htot : (szs.take j).sum + v.cells.size ≤ (vs.flatMap (·.cells.toList)).length := by
      rw [hsplit, ← hoff]; simp [hvj]
    rw [Instr.fill, hp j _ h0]
    simp only
    rw [if_neg (by simp only [Bool.or_eq_true, decide_eq_true_eq, List.size_toArray]; omega)]
    have hB : (v.cells.zipIdx.foldl (fun (cs : Array Value) (q : Value × Nat) => cs.setIfInBounds ((szs.take j).sum + q.2) q.1) (vs.flatMap (·.cells.toList)).toArray) = ((vs.set j v).flatMap (·.cells.toList)).toArray := by
      apply Array.toList_inj.1
      have h1 : v.cells.zipIdx.foldl (fun (cs : Array Value) (q : Value × Nat) => cs.setIfInBounds ((szs.take j).sum + q.2) q.1) (vs.flatMap (·.cells.toList)).toArray = (v.cells.toList.zipIdx 0).foldl (fun (cs : Array Value) (q : Value × Nat) => cs.setIfInBounds ((szs.take j).sum + q.2) q.1) (vs.flatMap (·.cells.toList)).toArray := by
        rw [← Array.foldl_toList, Array.toList_zipIdx]
      rw [h1, foldl_set_list _ _ _ _ (by simpa using htot)]
      have h2 : vs.set j v = vs.take j ++ v :: vs.drop (j + 1) := List.set_eq_take_append_cons_drop.trans (if_pos hj)
      rw [h2]
      simp only [List.flatMap_append, List.flatMap_cons, Nat.add_zero, Array.length_toList]
      rw [hsplit, ← hoff]
      generalize (vs.take j).flatMap (·.cells.toList) = X
      generalize (vs.drop (j + 1)).flatMap (·.cells.toList) = Y
      have hl : vs[j].cells.toList.length = v.cells.size := by simp [hvj]
      generalize vs[j].cells.toList = Z at hl
      rw [List.append_assoc X Z Y, List.take_left' rfl, List.append_assoc]
      congr 1
      congr 1
      rw [← List.append_assoc, ← hl, ← List.length_append, List.drop_left' rfl]
    have hB' := hB
    rw [show (v.cells.zipIdx.foldl (fun cs x => match x with | (c, i) => cs.setIfInBounds ((szs.take j).sum + i) c) (vs.flatMap (·.cells.toList)).toArray) = _ from hB']
    have ih := fill_parts place szs hp ps (vs.set j v) (by
      rw [List.map_set, hs]
      apply List.ext_getElem?
      intro i
      rw [List.getElem?_set]
      split
      · rename_i h; subst h; rw [if_pos (by rw [← hs]; simpa using hj), h0]
      · rfl) (fun q hq' => hq q (by simp [hq']))
    rw [ih]
    rfl
theorem build_struct {P : Program} {T : TypeId} {fs : Array Field} {szs : List Nat} {vs cs : List Value} {ps : List (Nat × Value)} {z : Value} (hz : (P.info? T).bind (·.zero) = some z) (hv : z.cells = (vs.flatMap (·.cells.toList)).toArray)
    (hu : P.underlying T = some (.struct fs)) (hm : fs.toList.mapM (fun f => (P.info? f.type).map fun i => (f.offset, i.size)) = some (placesOf 0 szs)) (hs : vs.map (·.cells.size) = szs) (hq : ∀ q ∈ ps, szs[q.1]? = some q.2.cells.size)
    (hc : (ps.foldl (fun vs q => vs.set q.1 q.2) vs).flatMap (·.cells.toList) = cs) (w : World) : (Instr.build T ps.toArray).run P w = .ok (.agg cs.toArray) w := by
  refine run_build w T ps.toArray cs.toArray ?_
  unfold Program.built
  cases hi : P.info? T with
  | none => simp [hi] at hz
  | some it =>
    simp [hi] at hz
    simp only [hu, hz, hm, hv]
    have := fill_parts (fun j => (placesOf 0 szs).toArray[j]?) szs (fun j s h => by simpa using places_get szs 0 j s h) ps vs hs hq
    rw [← hc]
    simpa using this
theorem build_array {P : Program} {T e : TypeId} {n sz : Nat} {vs cs : List Value} {ps : List (Nat × Value)} {z : Value} (hz : (P.info? T).bind (·.zero) = some z) (hv : z.cells = (vs.flatMap (·.cells.toList)).toArray)
    (hu : P.underlying T = some (.array n e)) (hm : (P.info? e).map (·.size) = some sz) (hs : vs.map (·.cells.size) = List.replicate n sz) (hq : ∀ q ∈ ps, q.1 < n ∧ q.2.cells.size = sz)
    (hc : (ps.foldl (fun vs q => vs.set q.1 q.2) vs).flatMap (·.cells.toList) = cs) (w : World) : (Instr.build T ps.toArray).run P w = .ok (.agg cs.toArray) w := by
  refine run_build w T ps.toArray cs.toArray ?_
  unfold Program.built
  cases hi : P.info? T with
  | none => simp [hi] at hz
  | some it =>
    cases hie : P.info? e with
    | none => simp [hie] at hm
    | some ie =>
      simp [hi] at hz
      simp [hie] at hm
      simp only [hu, hz, hie, hv, hm]
      have := fill_parts (fun j => some (j * sz, sz)) (List.replicate n sz) (fun j s h => by
        obtain ⟨hj, hs'⟩ := List.getElem?_eq_some_iff.1 h
        simp at hj hs'
        subst hs'
        simp [List.take_replicate, Nat.min_eq_left (Nat.le_of_lt hj)]) ps vs hs (fun q h => by
        obtain ⟨h1, h2⟩ := hq q h
        rw [List.getElem?_replicate, if_pos h1, h2])
      rw [← hc]
      simpa using this
theorem ints_len {n : Nat} (k : IntKind) (l : Ints n) : (ints k l.1).length = n := by simp [ints, l.2]
theorem bools_len {n : Nat} (l : Bools n) : (bools l.1).length = n := by simp [bools, l.2]
end Go.Proofs.Ytmnoecpnoofdjaa.G
