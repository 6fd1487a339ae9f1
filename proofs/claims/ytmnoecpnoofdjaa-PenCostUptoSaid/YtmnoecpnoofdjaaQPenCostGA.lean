/- Of this text what the row needs. -/
import Derived.RangeFuncIn
import Derived.Sort.QuietThIn
import Derived.LoopNIn
import Derived.Deep.LoopGhost
import Derived.WalkKit
import Derived.KernelRfl
namespace Go.Proofs.Ytmnoecpnoofdjaa.G
open Go.RowKit
abbrev Hp := Array Obj
def cellAt (H : Hp) (p : Addr) : Option Value :=
  match H[p.block]? with
  | some (.cells c _ _) => if p.spot.isSome then none else c[p.off]?
  | _ => none
def frozenAt (H : Hp) (p : Addr) : Bool :=
  match H[p.block]? with
  | some (.cells _ _ (lo, hi)) => lo ≤ p.off && p.off < hi
  | _ => false
def setAt (H : Hp) (p : Addr) (v : Value) : Hp :=
  H.modify p.block fun
    | .cells c elem frozen => .cells (if p.spot.isSome then c else c.setIfInBounds p.off v) elem frozen
    | o => o
theorem cell_eq (w : World) (p : Addr) : w.cell? p = cellAt w.heap p := rfl
structure Sm (w w' : World) : Prop where
  os : w'.os = w.os
  tape : w'.tape = w.tape
  output : w'.output = w.output
theorem Sm.refl (w : World) : Sm w w := ⟨rfl, rfl, rfl⟩
theorem Sm.trans {a b c : World} (h : Sm a b) (k : Sm b c) : Sm a c := ⟨k.os.trans h.os, k.tape.trans h.tape, k.output.trans h.output⟩
theorem Sm.heap (w : World) (H : Hp) : Sm w { w with heap := H } := ⟨rfl, rfl, rfl⟩
def Rt {α : Type} (enc : α → Value) (Q : α → Hp → Prop) (w : World) : Ending → World → Prop :=
  fun e w' => ∃ r, e = .returned (enc r) ∧ Q r w'.heap ∧ Sm w w'
def en (f0 : Nat → Value) : List (Nat × Value) → Nat → Value
  | [], t => f0 t
  | (d, v) :: E, t => bif Nat.beq t d then v else en f0 E t
def ac (n : Nat) (f : Nat → Value) (ds : List Deferred) : Act := { tmps := (Array.range n).map f, defers := ds }
def ev (n : Nat) (f : Nat → Value) : Operand → Value
  | .tmp t => bif Nat.blt t n then f t else undef
  | .const v => v
  | .global g => .pointer (some ⟨g, 0, none⟩)
  | .func f => .func (.func f) #[] #[]
theorem blt_iff (t n : Nat) : Nat.blt t n = true ↔ t < n := by unfold Nat.blt; rw [Nat.ble_eq]; omega
theorem ac_eval (n : Nat) (f : Nat → Value) (ds : List Deferred) : (ac n f ds).eval = ev n f := by
  funext x
  cases x with
  | tmp t =>
    simp only [Act.eval, ac, ev]
    by_cases h : t < n
    · rw [(blt_iff t n).2 h]
      simp [h]
    · have : Nat.blt t n = false := by
        cases hb : Nat.blt t n with
        | false => rfl
        | true => exact absurd ((blt_iff t n).1 hb) h
      rw [this]
      simp only [Array.getD_eq_getD_getElem?, cond_false]
      rw [Array.getElem?_eq_none (by rw [Array.size_map, Array.size_range]; exact Nat.le_of_not_lt h)]
      rfl
  | const v => rfl
  | global g => rfl
  | func f => rfl
theorem ac_put (n : Nat) (f0 : Nat → Value) (E : List (Nat × Value)) (ds : List Deferred) (d : Nat) (v : Value) :
    (ac n (en f0 E) ds).put (some d) v = ac n (en f0 ((d, v) :: E)) ds := by
  simp only [Act.put, ac]
  congr 1
  apply Array.ext
  · simp
  · intro i h1 h2
    have hi : i < n := by simpa using h2
    by_cases hd : d = i
    · subst hd
      simp [en]
    · have hb : Nat.beq i d = false := by
        cases hb : Nat.beq i d with
        | false => rfl
        | true => exact absurd (Nat.eq_of_beq_eq_true hb).symm hd
      rw [Array.getElem_setIfInBounds_ne (by simpa using hi) hd]
      simp [en, hb]
def dput (d : Option Tmp) (v : Value) (E : List (Nat × Value)) : List (Nat × Value) := match d with | some d => (d, v) :: E | none => E
theorem ac_dput (n : Nat) (f0 : Nat → Value) (E : List (Nat × Value)) (ds : List Deferred) (d : Option Tmp) (v : Value) :
    (ac n (en f0 E) ds).put d v = ac n (en f0 (dput d v E)) ds := by
  cases d with
  | none => rfl
  | some d => exact ac_put ..
def agree (f : Nat → Value) : List (Nat × Value) → Prop
  | [] => True
  | (d, v) :: E => f d = v ∧ agree f E
theorem en_agree (f : Nat → Value) : ∀ (E : List (Nat × Value)), agree f E → en f E = f
  | [], _ => rfl
  | (d, v) :: E, h => by
    funext t
    show (bif Nat.beq t d then v else en f E t) = f t
    cases hb : Nat.beq t d with
    | true => rw [Nat.eq_of_beq_eq_true hb, h.1]; rfl
    | false => rw [en_agree f E h.2]; rfl
theorem ac_prune {n : Nat} {f0 : Nat → Value} {E E' : List (Nat × Value)} {ds : List Deferred} (h : agree (en f0 E) E') :
    ∃ f1, ac n (en f0 E) ds = ac n (en f1 E') ds := ⟨en f0 E, by rw [en_agree _ _ h]⟩
theorem ac_start (n : Nat) (args : Array Value) (h : args.size ≤ n) :
    ({ tmps := args ++ Array.replicate (n - args.size) undef, defers := [] } : Act) = ac n (en (fun t => args.getD t undef) []) [] := by
  simp only [ac, en]
  congr 1
  apply Array.ext
  · simp; omega
  · intro i h1 h2
    simp only [Array.getElem_map, Array.getElem_range, Array.getElem_append, Array.getElem_replicate]
    by_cases hi : i < args.size
    · simp [hi]
    · simp [hi]
def fw (r : Option Nat) : Fence := { Fence.wide with round := r }
def Wc (r : Option Nat) (P : Program) (c : Code) (Q : Exit → Act → World → Prop) (n : Nat) (f0 : Nat → Value) (E : List (Nat × Value)) (ds : List Deferred) (w : World) : Prop :=
  c.wpIn (fw r) 0 P Q (ac n (en f0 E) ds) w
def Wl (r : Option Nat) (P : Program) (ops : Array Oper) (Q : Exit → Act → World → Prop) (l : List Oper) (n : Nat) (f0 : Nat → Value) (E : List (Nat × Value)) (ds : List Deferred) (w : World) : Prop :=
  wpListIn (fw r) 0 P ops Q l (ac n (en f0 E) ds) w
def Wk (Q : Exit → Act → World → Prop) (e : Exit) (n : Nat) (f0 : Nat → Value) (E : List (Nat × Value)) (ds : List Deferred) (w : World) : Prop := Q e (ac n (en f0 E) ds) w
def Ca (P : Program) (f : FuncId) (args : Array Value) (w : World) (R : Ending → World → Prop) : Prop := CallsIn (fw none) 0 P f args w R
theorem Ca.calls {P : Program} {f : FuncId} {args : Array Value} {w : World} {R : Ending → World → Prop} (h : Ca P f args w R) : Calls P f args w R := callsIn_wide.1 h
theorem Ca.of {P : Program} {f : FuncId} {args : Array Value} {w : World} {R : Ending → World → Prop} (h : Calls P f args w R) : Ca P f args w R := callsIn_wide.2 h
theorem Ca.mono {P : Program} {f : FuncId} {args : Array Value} {w : World} {R R' : Ending → World → Prop} (h : Ca P f args w R) (hr : ∀ e w', R e w' → R' e w') : Ca P f args w R' := CallsIn.mono h hr
section
variable {r : Option Nat} {P : Program} {ops : Array Oper} {Q : Exit → Act → World → Prop} {n : Nat} {f0 : Nat → Value} {E E' : List (Nat × Value)} {ds : List Deferred} {w w0 : World} {rest : List Oper} {o : Oper}
theorem wc_prune (E' : List (Nat × Value)) {c : Code} (h : agree (en f0 E) E') (k : ∀ f1, Wc r P c Q n f1 E' ds w) : Wc r P c Q n f0 E ds w := by
  obtain ⟨f1, e⟩ := ac_prune (n := n) (ds := ds) h
  unfold Wc
  rw [e]
  exact k f1
theorem wk_prune (E' : List (Nat × Value)) {e : Exit} (h : agree (en f0 E) E') (k : ∀ f1, Wk Q e n f1 E' ds w) : Wk Q e n f0 E ds w := by
  obtain ⟨f1, e'⟩ := ac_prune (n := n) (ds := ds) h
  unfold Wk
  rw [e']
  exact k f1
theorem wc_seq {x y : Code} (h : Wc r P x (Exit.then (y.wpIn (fw r) 0 P Q) Q) n f0 E ds w) : Wc r P (.seq x y) Q n f0 E ds w := wpIn_seq h
theorem wc_in {c : Code} (h : Wc r P c Q n f0 E ds w) : c.wpIn (fw r) 0 P Q (ac n (en f0 E) ds) w := h
theorem wc_region {id : Nat} {l : List Oper} (h : Wl r P l.toArray Q l n f0 E ds w) : Wc r P (.region id l.toArray false) Q n f0 E ds w := wpIn_region_lit h
theorem wc_skip (h : Wk Q .normal n f0 E ds w) : Wc r P .skip Q n f0 E ds w := wpIn_skip h
theorem wc_ret (h : Wk Q .ret n f0 E ds w) : Wc r P .ret Q n f0 E ds w := wpIn_ret h
theorem wc_exit {i : Nat} (h : Wk Q (.exit i) n f0 E ds w) : Wc r P (.exit i) Q n f0 E ds w := wpIn_exit h
theorem wc_block {i : Nat} {c : Code} (h : Wc r P c (Exit.inBlock i Q) n f0 E ds w) : Wc r P (.block i c) Q n f0 E ds w := wpIn_block h
theorem wc_cond {c : Operand} {x y : Code} {b : Bool} {A B : Prop} (hc : ev n (en f0 E) c = .bool b) (h : if b = true then A else B) (ht : A → Wc r P x Q n f0 E ds w) (hf : B → Wc r P y Q n f0 E ds w) :
    Wc r P (.cond c x y) Q n f0 E ds w := by
  have hc' : (ac n (en f0 E) ds).eval c = .bool b := by rw [ac_eval]; exact hc
  cases b with
  | true => exact wpIn_cond hc' (ht (by simpa using h))
  | false => exact wpIn_cond hc' (hf (by simpa using h))
theorem wc_cond_f {c : Operand} {x y : Code} (hc : ev n (en f0 E) c = .bool false) (hf : Wc r P y Q n f0 E ds w) : Wc r P (.cond c x y) Q n f0 E ds w :=
  wpIn_cond_false (by rw [ac_eval]; exact hc) hf
open Classical in
theorem wc_loop {c : Code} (I : Nat → Act → World → Prop) (k0 : Nat) (h0 : I k0 (ac n (en f0 E) ds) w)
    (round : ∀ k a w, I k a w → c.wpIn (fw r) 0 P (Exit.then (fun a' w' => ∃ k', k' < k ∧ I k' a' w') Q) a w) : Wc r P (.loop c) Q n f0 E ds w := by
  refine wpIn_loop (fun a w => ∃ n, I n a w) (fun a w => leastOf (fun n => I n a w)) ⟨k0, h0⟩ ?_
  intro a w hI
  refine wpIn_mono (round _ a w (leastOf_spec hI).1) ?_
  intro e a' w' hq
  cases e with
  | normal =>
    obtain ⟨n', hlt, hI'⟩ := hq
    exact show (∃ n, I n a' w') ∧ leastOf (fun n => I n a' w') < leastOf (fun n => I n a w) from ⟨⟨n', hI'⟩, Nat.lt_of_le_of_lt ((leastOf_spec ⟨n', hI'⟩).2 n' hI') hlt⟩
  | exit id => exact hq
  | goto l => exact hq
  | ret => exact hq
  | panic ch => exact hq
  | outgrown => exact hq
theorem wk_then {y : Code} (h : Wc r P y Q n f0 E ds w) : Wk (Exit.then (y.wpIn (fw r) 0 P Q) Q) .normal n f0 E ds w := h
theorem wk_thenR {K : Act → World → Prop} (h : Wk Q .ret n f0 E ds w) : Wk (Exit.then K Q) .ret n f0 E ds w := h
theorem wk_thenE {K : Act → World → Prop} {i : Nat} (h : Wk Q (.exit i) n f0 E ds w) : Wk (Exit.then K Q) (.exit i) n f0 E ds w := h
theorem wk_blkN {i : Nat} (h : Wk Q .normal n f0 E ds w) : Wk (Exit.inBlock i Q) .normal n f0 E ds w := h
theorem wk_blkR {i : Nat} (h : Wk Q .ret n f0 E ds w) : Wk (Exit.inBlock i Q) .ret n f0 E ds w := h
theorem wk_blkE {i : Nat} (h : Wk Q .normal n f0 E ds w) : Wk (Exit.inBlock i Q) (.exit i) n f0 E ds w := by
  show (if i = i then _ else _)
  rw [if_pos rfl]
  exact h
theorem wk_blkO {i j : Nat} (hne : ¬ j = i) (h : Wk Q (.exit j) n f0 E ds w) : Wk (Exit.inBlock i Q) (.exit j) n f0 E ds w := by
  show (if j = i then _ else _)
  rw [if_neg hne]
  exact h
theorem wk_again {k : Nat} {I : Nat → Act → World → Prop} (h : I k (ac n (en f0 E) ds) w) : Wk (Exit.then (fun a' w' => ∃ k', k' < k + 1 ∧ I k' a' w') Q) .normal n f0 E ds w := ⟨k, by omega, h⟩
theorem ac_again {E' : List (Nat × Value)} (h : agree (en f0 E) E') : ac n (en f0 E) ds = ac n (en (en f0 E) E') ds := by rw [en_agree _ _ h]
def At (r : Option Nat) (P : Program) (n : Nat) (f : Nat → Value) (o : Oper) (H : Hp) (v : Value) : Prop :=
  ∀ w, w.heap = H → (o.semAt r (ev n f)).run P w = .ok (.value v) w
def Ef (r : Option Nat) (P : Program) (n : Nat) (f : Nat → Value) (o : Oper) (H : Hp) (v : Value) (H' : Hp) : Prop :=
  ∀ w, w.heap = H → ∃ w', ((o.semAt r (ev n f)).run P w = .ok (.value v) w' ∨ ((o.semAt r (ev n f)).run P w = .ok .skip w' ∧ v = undef)) ∧ w'.heap = H' ∧ Sm w w'
def Fx (r : Option Nat) (P : Program) (n : Nat) (f : Nat → Value) (o : Oper) (H : Hp) (K : Value → Hp → Prop) : Prop :=
  ∀ w, w.heap = H → ∃ v w', (o.semAt r (ev n f)).run P w = .ok (.value v) w' ∧ Sm w w' ∧ K v w'.heap
theorem fw_depth (r : Option Nat) : (fw r).depth.isSome = true → 1 ≤ 0 := fun h => by cases h
theorem wl_nil (h : Wk Q .normal n f0 E ds w) : Wl r P ops Q [] n f0 E ds w := h
theorem wl_oper (hg : o.guard = none) (h : o.wpIn (fw r) 0 P (ac n (en f0 E) ds) w (wpListIn (fw r) 0 P ops Q rest) Q) : Wl r P ops Q (o :: rest) n f0 E ds w := by
  unfold Wl
  simp only [wpListIn, Region.wanted, hg, if_true]
  exact h
theorem wl_val {v : Value} (hA : At r P n (en f0 E) o w.heap v) (hg : o.guard = none) (h : Wl r P ops Q rest n f0 (dput o.dst v E) ds w) : Wl r P ops Q (o :: rest) n f0 E ds w := by
  refine wl_oper hg ⟨fun _ _ => trivial, ?_⟩
  rw [ac_eval]
  rw [show (fw r).round = r from rfl, hA w rfl, Oper.uponIn_value, ac_dput]
  exact h
theorem wl_ef {v : Value} {H' : Hp} (hA : Ef r P n (en f0 E) o w.heap v H') (hg : o.guard = none) (so : Sm w0 w)
    (h : ∀ w', w'.heap = H' → Sm w0 w' → Wl r P ops Q rest n f0 (dput o.dst v E) ds w') : Wl r P ops Q (o :: rest) n f0 E ds w := by
  obtain ⟨w', hr, hw, hs⟩ := hA w rfl
  refine wl_oper hg ⟨fun _ _ => trivial, ?_⟩
  rw [ac_eval]
  have h' := h w' hw (so.trans hs)
  rcases hr with hr | ⟨hr, rfl⟩
  · rw [show (fw r).round = r from rfl, hr, Oper.uponIn_value, ac_dput]
    exact h'
  · rw [show (fw r).round = r from rfl, hr, Oper.uponIn_skip, ac_dput]
    exact h'
theorem wl_fx {K : Value → Hp → Prop} (hA : Fx r P n (en f0 E) o w.heap K) (hg : o.guard = none) (so : Sm w0 w)
    (h : ∀ v w', K v w'.heap → Sm w0 w' → Wl r P ops Q rest n f0 (dput o.dst v E) ds w') : Wl r P ops Q (o :: rest) n f0 E ds w := by
  obtain ⟨v, w', hr, hs, hK⟩ := hA w rfl
  refine wl_oper hg ⟨fun _ _ => trivial, ?_⟩
  rw [ac_eval, show (fw r).round = r from rfl, hr, Oper.uponIn_value, ac_dput]
  exact h v w' hK (so.trans hs)
theorem wl_on {j : Nat} {b : Bool} {d : Option Tmp} {op : Op} {ty : TypeId} {pos : String} {af : Array Edge} {t : Nat} (ht : (ops[j]?).bind (·.dst) = some t) (htn : t < n) (hv : en f0 E t = .bool b)
    (h : Wl r P ops Q (⟨d, op, ty, pos, af, none⟩ :: rest) n f0 E ds w) : Wl r P ops Q (⟨d, op, ty, pos, af, some (j, b)⟩ :: rest) n f0 E ds w := by
  have hy : yielded ops (ac n (en f0 E) ds).tmps j = some b := by
    unfold yielded
    rw [ht]
    simp [ac, htn, hv]
  unfold Wl at h ⊢
  simp only [wpListIn, Region.wanted, if_true] at h
  simp only [wpListIn, Region.wanted, hy, beq_self_eq_true, if_true]
  exact h
theorem wl_off {j : Nat} {b : Bool} {d : Option Tmp} {op : Op} {ty : TypeId} {pos : String} {af : Array Edge} {t : Nat} (ht : (ops[j]?).bind (·.dst) = some t) (htn : t < n) (hv : en f0 E t = .bool (!b))
    (h : Wl r P ops Q rest n f0 (dput d undef E) ds w) : Wl r P ops Q (⟨d, op, ty, pos, af, some (j, b)⟩ :: rest) n f0 E ds w := by
  have hy : yielded ops (ac n (en f0 E) ds).tmps j = some (!b) := by
    unfold yielded
    rw [ht]
    simp [ac, htn, hv]
  unfold Wl at h ⊢
  have hne : (some (!b) == some b) = false := by cases b <;> rfl
  simp only [wpListIn, Region.wanted, hy, hne]
  rw [ac_dput]
  exact ⟨fun _ _ => trivial, h⟩
theorem wl_off' {j : Nat} {b : Bool} {d : Option Tmp} {op : Op} {ty : TypeId} {pos : String} {af : Array Edge} {t : Nat} (ht : (ops[j]?).bind (·.dst) = some t) (htn : t < n) (hv : en f0 E t = undef)
    (h : Wl r P ops Q rest n f0 (dput d undef E) ds w) : Wl r P ops Q (⟨d, op, ty, pos, af, some (j, b)⟩ :: rest) n f0 E ds w := by
  have hy : yielded ops (ac n (en f0 E) ds).tmps j = none := by
    unfold yielded
    rw [ht]
    simp [ac, htn, hv, undef]
  unfold Wl at h ⊢
  simp only [wpListIn, Region.wanted, hy]
  rw [ac_dput]
  exact ⟨fun _ _ => trivial, h⟩
theorem wl_call {α : Type} {f : FuncId} {vals : Array Value} {enc : α → Value} {K : α → Hp → Prop}
    (hr : (o.semAt r (ev n (en f0 E))).run P w = .ok (.enter f vals) w) (hg : o.guard = none) (hc : Ca P f vals w (Rt enc K w)) (so : Sm w0 w)
    (h : ∀ x w', K x w'.heap → Sm w0 w' → Wl r P ops Q rest n f0 (dput o.dst (enc x) E) ds w') : Wl r P ops Q (o :: rest) n f0 E ds w := by
  refine wl_oper hg ⟨fun _ _ => trivial, ?_⟩
  rw [ac_eval, show (fw r).round = r from rfl, hr, Oper.uponIn_enter]
  refine ⟨fw_depth r, ?_⟩
  have hc' : CallsIn (fw r) 0 P f vals w (Rt enc K w) := hc
  refine CallsIn.mono hc' ?_
  rintro e w' ⟨x, rfl, hK, hs⟩
  show wpListIn _ _ _ _ _ _ ((ac n (en f0 E) ds).put o.dst (enc x)) w'
  rw [ac_dput]
  exact h x w' hK (so.trans hs)
theorem ca_start {f : FuncId} {fn : Func} {c : Code} {args : Array Value} {R : Ending → World → Prop} (hf : P.funcs[f]? = some fn) (hb : fn.body = some c) {n : Nat} (hnn : fn.ntmps = n) (hn : Nat.ble args.size n = true)
    (h : Wc none P c (bodyPost P fn R) n (fun t => args.getD t undef) [] [] w) : Ca P f args w R := by
  subst hnn
  refine callsIn_of_wp hf hb trivial ?_
  rw [ac_start _ _ (Nat.le_of_ble_eq_true hn)]
  exact h
theorem wk_ret1 {α : Type} {enc : α → Value} {K : α → Hp → Prop} {fn : Func} {t : Tmp} {x : α} (hres : fn.results = #[.tmp t]) (ht : t < n) (hv : en f0 E t = enc x) (so : Sm w0 w) (h : K x w.heap) :
    Wk (bodyPost P fn (Rt enc K w0)) .ret n f0 E [] w := by
  refine bodyPost_ret (results_tmp hres _ P w) rfl ⟨x, ?_, h, so⟩
  simp [ac, ht, hv]
theorem wk_ret0 {α : Type} {enc : α → Value} {K : α → Hp → Prop} {fn : Func} {x : α} (hres : fn.results = #[]) (hv : enc x = .tuple #[]) (so : Sm w0 w) (h : K x w.heap) :
    Wk (bodyPost P fn (Rt enc K w0)) .ret n f0 E [] w := by
  refine bodyPost_ret (results_none hres _ P w) rfl ⟨x, ?_, h, so⟩
  rw [hv]
theorem wk_ret0n {α : Type} {enc : α → Value} {K : α → Hp → Prop} {fn : Func} {x : α} (hres : fn.results = #[]) (hv : enc x = .tuple #[]) (so : Sm w0 w) (h : K x w.heap) :
    Wk (bodyPost P fn (Rt enc K w0)) .normal n f0 E [] w := wk_ret0 hres hv so h
theorem wk_ret2 {α : Type} {enc : α → Value} {K : α → Hp → Prop} {fn : Func} {t u : Tmp} {x : α} (hres : fn.results = #[.tmp t, .tmp u]) (ht : t < n) (hu : u < n) (hv : .tuple #[en f0 E t, en f0 E u] = enc x) (so : Sm w0 w) (h : K x w.heap) :
    Wk (bodyPost P fn (Rt enc K w0)) .ret n f0 E [] w := by
  refine bodyPost_ret (results_tmp2 hres _ P w) rfl ⟨x, ?_, h, so⟩
  rw [← hv]
  simp [ac, ht, hu]
theorem results_tmp3' {fn : Func} {t u s : Tmp} (h : fn.results = #[.tmp t, .tmp u, .tmp s]) (tmps : Array Value) (P : Program) (w : World) :
    (results fn tmps).run P w = .ok (.tuple #[tmps.getD t undef, tmps.getD u undef, tmps.getD s undef]) w := by simp [results, h]
theorem wk_ret3 {α : Type} {enc : α → Value} {K : α → Hp → Prop} {fn : Func} {t u s : Tmp} {x : α} (hres : fn.results = #[.tmp t, .tmp u, .tmp s]) (ht : t < n) (hu : u < n) (hs : s < n)
    (hv : .tuple #[en f0 E t, en f0 E u, en f0 E s] = enc x) (so : Sm w0 w) (h : K x w.heap) :
    Wk (bodyPost P fn (Rt enc K w0)) .ret n f0 E [] w := by
  refine bodyPost_ret (results_tmp3' hres _ P w) rfl ⟨x, ?_, h, so⟩
  rw [← hv]
  simp [ac, ht, hu, hs]
end
end Go.Proofs.Ytmnoecpnoofdjaa.G
