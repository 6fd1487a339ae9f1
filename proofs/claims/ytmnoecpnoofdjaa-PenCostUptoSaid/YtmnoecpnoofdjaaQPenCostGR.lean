/- Of this text what the row needs. -/
import Derived.Test.YtmnoecpnoofdjaaQPenCostGQ
import Derived.RangeFuncRecord
import Derived.Scope
namespace Go.Proofs.Ytmnoecpnoofdjaa.G
open Go.RowKit
set_option linter.unusedVariables false
set_option linter.unusedSimpArgs false
def Lp (H : Hp) (l : Nat) (r : Loop) : Prop := H[l]? = some (.loop r)
def Rdy (r : Loop) : Prop := r.state = .ready ∧ r.pending = none
def bsy (r : Loop) : Loop := { r with state := .busy }
def exh (r : Loop) : Loop := { r with state := .exhausted }
def dn (r : Loop) (c : Code) : Loop := { r with state := .done, pending := some c }
def putL (H : Hp) (l : Nat) (r : Loop) : Hp := H.setIfInBounds l (.loop r)
def Rg (H : Hp) (K : Loop → Nat → Hp → Prop) : Prop := ∀ r, Rdy r → K r H.size ((H.push (.deferred (some []))).push (.loop r))
def tkD : List Nat → Hp → (Hp → Prop) → Prop
  | [], H, K => K H
  | D :: Ds, H, K => H[D]? = some (.deferred (some [])) ∧ tkD Ds (H.setIfInBounds D (.deferred none)) K
def Up (H : Hp) (K : Hp → Prop) : Prop := K H
def mks (Ds : List Nat) : List Deferred := Ds.map fun D => { target := .collected D, args := #[] }
def YOk (P : Program) {α : Type} (encs : α → Array Value) (yv : Value) (Y : α → Hp → (Bool → Hp → Prop) → Prop) : Prop :=
  ∃ l, yv = .func (.yield l) #[] #[] ∧ ∀ x w K, Y x w.heap K → ∃ f tmps asg body, (Instr.yield l (encs x)).run P w = .ok (.round l f tmps asg body) w ∧
    RoundIn (fw none) 0 P l f tmps asg body w (fun e w' => ∃ b, e = .returned (.bool b) ∧ K b w'.heap ∧ Sm w w')
section
variable {r : Option Nat} {P : Program} {ops : Array Oper} {Q : Exit → Act → World → Prop} {n : Nat} {f0 : Nat → Value} {E : List (Nat × Value)} {ds : List Deferred} {w w0 : World} {rest : List Oper} {o : Oper}
theorem wl_yield {α : Type} {encs : α → Array Value} {yv : Value} {Y : α → Hp → (Bool → Hp → Prop) → Prop} {K : Bool → Hp → Prop} {x : Operand} {l : List Operand} {ats : Array TypeId} {a : α} {vl : List Value}
    {d : Option Tmp} {ty : TypeId} {pos : String} {af : Array Edge}
    (hY : YOk P encs yv Y) (hx : ev n (en f0 E) x = yv) (hl : l.map (ev n (en f0 E)) = vl) (hv : vl.toArray = encs a) (h : Y a w.heap K) (so : Sm w0 w)
    (next : ∀ b w', K b w'.heap → Sm w0 w' → Wl r P ops Q rest n f0 (dput d (.bool b) E) ds w') : Wl r P ops Q (⟨d, .call ⟨.value x, l.toArray, ats⟩, ty, pos, af, none⟩ :: rest) n f0 E ds w := by
  obtain ⟨k, rfl, hY⟩ := hY
  obtain ⟨f, tmps, asg, body, hr, hR⟩ := hY a w K h
  subst hl
  refine wl_oper rfl ⟨fun _ _ => trivial, ?_⟩
  have hrun : (Oper.semAt (fw r).round (ev n (en f0 E)) ⟨d, .call ⟨.value x, l.toArray, ats⟩, ty, pos, af, none⟩).run P w = .ok (.round k f tmps asg body) w := by
    rw [← hv] at hr
    cases r <;> simp [Oper.semAt, execOp, resolve, hx, Deferred.ofValue, invoke, Sem.run_bind, fw, hr]
  rw [ac_eval, hrun]
  refine ⟨fw_depth r, ?_⟩
  have hR' : RoundIn (fw r) 0 P k f tmps asg body w (fun e w' => ∃ b, e = .returned (.bool b) ∧ K b w'.heap ∧ Sm w w') := hR
  refine RoundIn.mono hR' ?_
  rintro e w' ⟨b, rfl, hK, hs⟩
  show wpListIn _ _ _ _ _ _ ((ac n (en f0 E) ds).put d (.bool b)) w'
  rw [ac_dput]
  exact next b w' hK (so.trans hs)
theorem wl_callV {α : Type} {x : Operand} {f : FuncId} {fs cs : List Value} {l : List Operand} {ats : Array TypeId} {al : List Value} {enc : α → Value} {K : α → Hp → Prop} {d : Option Tmp} {ty : TypeId} {pos : String} {af : Array Edge}
    (hc : Ca P f al.toArray w (Rt enc K w)) (he : ∀ args w, (callFunc f args).run P w = .ok (.enter f args) w) (hx : ev n (en f0 E) x = .func (.func f) fs.toArray cs.toArray) (ha : fs ++ l.map (ev n (en f0 E)) ++ cs = al) (so : Sm w0 w)
    (h : ∀ x w', K x w'.heap → Sm w0 w' → Wl r P ops Q rest n f0 (dput d (enc x) E) ds w') : Wl r P ops Q (⟨d, .call ⟨.value x, l.toArray, ats⟩, ty, pos, af, none⟩ :: rest) n f0 E ds w := by
  refine wl_call (f := f) (vals := al.toArray) ?_ rfl hc so h
  subst ha
  cases r <;> simp [Oper.semAt, execOp, resolve, hx, Deferred.ofValue, invoke, he, Sem.run_bind]
def RdK (w0 : World) (K : Bool → Hp → Prop) : Ending → World → Prop := fun e w' => ∃ b, e = .returned (.bool b) ∧ K b w'.heap ∧ Sm w0 w'
theorem wk_rdN {l : Nat} {rc : Loop} {K : Bool → Hp → Prop} (hr : Rdy rc) (h : Lp w.heap l (bsy rc) ∧ K true (putL w.heap l rc)) (so : Sm w0 w) : Wk (roundPost P l (RdK w0 K)) .normal n f0 E ds w := by
  refine ⟨_, _, run_endRound (P := P) none h.1, true, rfl, ?_, so.trans ⟨rfl, rfl, rfl⟩⟩
  have e : ({ bsy rc with state := if (none : Option Code).isNone then .ready else .done, pending := none } : Loop) = rc := by
    cases rc
    simp only [Rdy] at hr
    simp [bsy, hr.1, hr.2]
  rw [e]
  exact h.2
theorem wk_rdR {l : Nat} {rc : Loop} {K : Bool → Hp → Prop} (h : Lp w.heap l (bsy rc) ∧ K false (putL w.heap l (dn rc .ret))) (so : Sm w0 w) : Wk (roundPost P l (RdK w0 K)) .ret n f0 E ds w :=
  ⟨_, _, run_endRound (P := P) (some .ret) h.1, false, rfl, h.2, so.trans ⟨rfl, rfl, rfl⟩⟩
theorem wk_asg {l : Nat} {rc : Loop} {body : Code} {R : Ending → World → Prop} {K : Hp → Prop} (hr : Rdy rc) (h : Lp w.heap l rc ∧ Up (putL w.heap l (bsy rc)) K) (so : Sm w0 w)
    (next : ∀ w', K w'.heap → Sm w0 w' → Wc (some l) P body (roundPost P l R) n f0 E ds w') :
    Wk (Exit.then (fun a₁ w₁ => ∃ w₂, (Instr.beginRound l).run P w₁ = .ok () w₂ ∧ body.wpIn ((fw none).inRound l) 0 P (roundPost P l R) a₁ w₂) (fun _ _ _ => False)) .normal n f0 E ds w :=
  ⟨_, run_beginRound h.1 hr.1, next (w.putObj l (.loop (bsy rc))) h.2 (so.trans ⟨rfl, rfl, rfl⟩)⟩
theorem fold_ac {n : Nat} {f0 : Nat → Value} : ∀ (l : List (Nat × Value)) (E : List (Nat × Value)), l.foldl (fun (ts : Array Value) (q : Nat × Value) => ts.setIfInBounds q.1 q.2) (ac n (en f0 E) []).tmps = (ac n (en f0 (l.reverse ++ E)) []).tmps
  | [], E => rfl
  | (t, v) :: l, E => by
    rw [List.foldl_cons]
    have : (ac n (en f0 E) []).tmps.setIfInBounds t v = (ac n (en f0 ((t, v) :: E)) []).tmps := congrArg Act.tmps (ac_put n f0 E [] t v)
    simp only [this, fold_ac l, List.reverse_cons, List.append_assoc, List.cons_append, List.nil_append]
theorem yok {α : Type} {encs : α → Array Value} {Y : α → Hp → (Bool → Hp → Prop) → Prop} {l : Nat} {rc : Loop} {ps : List Nat} {asg body : Code} (hrec : rc.tmps = (ac n (en f0 E) []).tmps ∧ rc.params = ps.toArray ∧ rc.assign = asg ∧ rc.body = body)
    (hps : ∀ x, (encs x).size = ps.length)
    (hrd : ∀ x w K, Y x w.heap K → Lp w.heap l rc ∧
      Wc (some l) P asg (Exit.then (fun a₁ w₁ => ∃ w₂, (Instr.beginRound l).run P w₁ = .ok () w₂ ∧ body.wpIn ((fw none).inRound l) 0 P (roundPost P l (RdK w K)) a₁ w₂) (fun _ _ _ => False)) n f0 (((ps.zip (encs x).toList)).reverse ++ E) [] w) :
    YOk P encs (.func (.yield l) #[] #[]) Y := by
  refine ⟨l, rfl, fun x w K h => ?_⟩
  obtain ⟨hl, hc⟩ := hrd x w K h
  obtain ⟨h1, h2, h3, h4⟩ := hrec
  have hy := run_yield (P := P) (args := encs x) hl (by rw [h2]; simpa using hps x)
  refine ⟨_, _, _, _, hy, ?_⟩
  refine roundIn_of_wpIn trivial ?_
  simp only [h1, h2, h3, h4]
  have e : ((ps.toArray.zip (encs x)).foldl (fun (tmps : Array Value) (q : Nat × Value) => tmps.setIfInBounds q.1 q.2) (ac n (en f0 E) []).tmps) = (ac n (en f0 ((ps.zip (encs x).toList).reverse ++ E)) []).tmps := by
    rw [← fold_ac, ← Array.foldl_toList]
    simp
  have e' : ((ps.toArray.zip (encs x)).foldl (fun (tmps : Array Value) (x : Nat × Value) => match x with | (t, a) => tmps.setIfInBounds t a) (ac n (en f0 E) []).tmps) = (ac n (en f0 ((ps.zip (encs x).toList).reverse ++ E)) []).tmps := e
  rw [e']
  exact hc
theorem ev_const (n : Nat) (f : Nat → Value) (v : Value) : ev n f (.const v) = v := rfl
theorem wc_rng {g : Operand} {ps : List Nat} {asg body : Code} {f : FuncId} {caps : List Value} {S : Loop → Nat → Hp → Prop} {Ds : List Nat} (hg : ev n (en f0 E) g = .func (.func f) #[] caps.toArray)
    (he : ∀ args w, (callFunc f args).run P w = .ok (.enter f args) w) (so : Sm w0 w) (h : Rg w.heap S)
    (next : ∀ rc D w1, Rdy rc → (rc.tmps = (ac n (en f0 E) []).tmps ∧ rc.params = ps.toArray ∧ rc.assign = asg ∧ rc.body = body) → S rc D w1.heap → Sm w0 w1 →
      Ca P f (Value.func (.yield (D + 1)) #[] #[] :: caps).toArray w1 (rangePost (fw none) 0 P (D + 1) Q (ac n (en f0 E) (mks (D :: Ds))))) :
    Wc none P (.rangeFunc g ps.toArray asg body) Q n f0 E (mks Ds) w := by
  refine wpIn_rangeFunc fun fn _ => ?_
  have hg' : (ac n (en f0 E) (mks Ds)).eval g = .func (.func f) #[] caps.toArray := by rw [ac_eval]; exact hg
  have hh := h { state := .ready, pending := none, fn, tmps := (ac n (en f0 E) (mks Ds)).tmps, params := ps.toArray, assign := asg, body, defers := w.heap.size } ⟨rfl, rfl⟩
  have hc := next _ w.heap.size ((w.alloc (.deferred (some []))).alloc (.loop _)) ⟨rfl, rfl⟩ ⟨rfl, rfl, rfl, rfl⟩ hh (so.trans ⟨rfl, rfl, rfl⟩)
  refine ⟨_, _, _, { target := .fn (.func f) caps.toArray, args := #[.func (.yield (w.heap.size + 1)) #[] #[]] }, (w.alloc (.deferred (some []))).alloc (.loop { state := .ready, pending := none, fn, tmps := (ac n (en f0 E) (mks Ds)).tmps, params := ps.toArray, assign := asg, body, defers := w.heap.size }), f, _, _, run_enterLoop_outer (P := P) (w := w) fn _ ps.toArray asg body, ?hres, fun _ _ => trivial, ?hinv, (fun h => by cases h), hc⟩
  case hres => simp [resolve, rangeCall, ac_eval, hg, ev_const, Deferred.ofValue, Sem.run_bind]
  case hinv => simp [invoke, he, Sem.run_bind]
theorem rp_none {l : Nat} {rc : Loop} {v : Value} {K : Hp → Prop} (hr : Rdy rc) (h : Lp w.heap l rc ∧ Up (putL w.heap l (exh rc)) K) (so : Sm w0 w) (next : ∀ w', K w'.heap → Sm w0 w' → Wk Q .normal n f0 E ds w') :
    rangePost (fw r) 0 P l Q (ac n (en f0 E) ds) (.returned v) w :=
  ⟨_, w.putObj l (.loop (exh rc)), run_endLoop h.1 (by rw [hr.1]; decide), by
    rw [show rc.pending = none from hr.2]
    exact next _ h.2 (so.trans ⟨rfl, rfl, rfl⟩)⟩
theorem rp_jump {l : Nat} {rc : Loop} {v : Value} {c : Code} {K : Hp → Prop} (h : Lp w.heap l (dn rc c) ∧ Up (putL w.heap l (exh (dn rc c))) K) (so : Sm w0 w) (next : ∀ w', K w'.heap → Sm w0 w' → Wc r P c Q n f0 E ds w') :
    rangePost (fw r) 0 P l Q (ac n (en f0 E) ds) (.returned v) w :=
  ⟨_, w.putObj l (.loop (exh (dn rc c))), run_endLoop h.1 (show LoopState.done ≠ .busy by decide), next _ h.2 (so.trans ⟨rfl, rfl, rfl⟩)⟩
theorem leavesM {fn : Func} {tmps : Array Value} {R : Ending → World → Prop} {K : Hp → Prop} {w0 : World} : ∀ (Ds : List Nat) (w : World), tkD Ds w.heap K → Sm w0 w →
    (∀ w', K w'.heap → Sm w0 w' → LeavesIn (fw none) 0 P fn tmps R [] .returning w') → LeavesInM (fw none) 0 P fn tmps R (mks Ds) .returning w
  | [], w, h, so, next => next w h so
  | D :: Ds, w, h, so, next => ⟨(fun h => by cases h), .inl ⟨D, _, rfl, run_takeDeferred h.1, leavesM Ds _ h.2 (so.trans ⟨rfl, rfl, rfl⟩) next⟩⟩
theorem wk_tk {fn : Func} {R : Ending → World → Prop} {K : Hp → Prop} {Ds : List Nat} (h : tkD Ds w.heap K) (so : Sm w0 w) (next : ∀ w', K w'.heap → Sm w0 w' → Wk (bodyPost P fn R) .ret n f0 E [] w') :
    Wk (bodyPostM (fw none) 0 P fn R) .ret n f0 E (mks Ds) w := by
  refine leavesM Ds w h so fun w' hK so' => ?_
  obtain ⟨_, v, hr, hR⟩ := next w' hK so'
  exact ⟨v, hr, hR⟩
theorem wk_tkN {fn : Func} {R : Ending → World → Prop} {K : Hp → Prop} {Ds : List Nat} (h : tkD Ds w.heap K) (so : Sm w0 w) (next : ∀ w', K w'.heap → Sm w0 w' → Wk (bodyPost P fn R) .normal n f0 E [] w') :
    Wk (bodyPostM (fw none) 0 P fn R) .normal n f0 E (mks Ds) w := by
  refine leavesM Ds w h so fun w' hK so' => ?_
  obtain ⟨_, v, hr, hR⟩ := next w' hK so'
  exact ⟨v, hr, hR⟩
theorem ca_startM {f : FuncId} {fn : Func} {c : Code} {args : Array Value} {R : Ending → World → Prop} (hf : P.funcs[f]? = some fn) (hb : fn.body = some c) {n : Nat} (hnn : fn.ntmps = n) (hn : Nat.ble args.size n = true)
    (h : Wc none P c (bodyPostM (fw none) 0 P fn R) n (fun t => args.getD t undef) [] (mks []) w) : Ca P f args w R := by
  subst hnn
  refine callsIn_of_wp_marks hf hb trivial ?_
  rw [ac_start _ _ (Nat.le_of_ble_eq_true hn)]
  exact h
end
end Go.Proofs.Ytmnoecpnoofdjaa.G
