/- Of this text what the row needs. -/
import Derived.Test.YtmnoecpnoofdjaaQPenCostGC
namespace Go.Proofs.Ytmnoecpnoofdjaa.G
open Go.RowKit
set_option linter.unusedSimpArgs false
def Join {σ : Type} (K : σ → Hp → Prop) (body : (σ → Hp → Prop) → Prop) : Prop := body K
def Fix {σ : Type} (F : (σ → Hp → Prop) → σ → Hp → Prop) : Nat → σ → Hp → Prop
  | 0, _, _ => False
  | k + 1, s, H => F (Fix F k) s H
theorem Fix.un {σ : Type} {F : (σ → Hp → Prop) → σ → Hp → Prop} {k : Nat} {s : σ} {H : Hp} (h : Fix F (k + 1) s H) : F (Fix F k) s H := h
theorem Join.intro {σ : Type} {K : σ → Hp → Prop} {body : (σ → Hp → Prop) → Prop} (I : σ → Hp → Prop) (hk : ∀ s H, I s H → K s H) (hb : ∀ J : σ → Hp → Prop, (∀ s H, I s H → J s H) → body J) : Join K body := hb K hk
theorem Fix.intro {σ : Type} {F : (σ → Hp → Prop) → σ → Hp → Prop} (I : σ → Hp → Prop) (μ : σ → Hp → Nat) {s0 : σ} {H0 : Hp} (h0 : I s0 H0)
    (step : ∀ s H, I s H → ∀ rec : σ → Hp → Prop, (∀ s' H', I s' H' → μ s' H' < μ s H → rec s' H') → F rec s H) : ∃ k, Fix F k s0 H0 := by
  have key : ∀ m s H, I s H → μ s H ≤ m → Fix F (m + 1) s H := by
    intro m
    induction m with
    | zero => exact fun s H hI hm => step s H hI _ (fun s' H' _ hlt => by omega)
    | succ m ih => exact fun s H hI hm => step s H hI _ (fun s' H' hI' hlt => ih s' H' hI' (by omega))
  exact ⟨_, key _ _ _ h0 (Nat.le_refl _)⟩
section
variable {r : Option Nat} {P : Program} {ops : Array Oper} {Q : Exit → Act → World → Prop} {n : Nat} {f0 : Nat → Value} {E : List (Nat × Value)} {ds : List Deferred} {w w0 : World} {rest : List Oper} {o : Oper}
theorem wc_join {σ : Type} {K : σ → Hp → Prop} {body : (σ → Hp → Prop) → Prop} {c : Code} (El : σ → List (Nat × Value)) (h : Join K body)
    (hy : ∀ s w f1, K s w.heap → Sm w0 w → Wk Q .normal n f1 (El s) ds w)
    (hx : ∀ J : σ → Hp → Prop, body J → (∀ s w f1, J s w.heap → Sm w0 w → Wk Q .normal n f1 (El s) ds w) → Wc r P c Q n f0 E ds w) : Wc r P c Q n f0 E ds w := hx K h hy
theorem wl_new {T : TypeId} {cs : List Value} {K : Addr → Hp → Prop} (hE : Ef r P n (en f0 E) o w.heap (.pointer (some ⟨w.heap.size, 0, none⟩)) (w.heap.push (.cells cs.toArray T))) (hg : o.guard = none) (so : Sm w0 w)
    (h : nw w.heap T cs K) (next : ∀ p w', K p w'.heap → Sm w0 w' → Wl r P ops Q rest n f0 (dput o.dst (.pointer (some p)) E) ds w') : Wl r P ops Q (o :: rest) n f0 E ds w :=
  wl_ef hE hg so fun w' hw so' => next _ w' (by rw [hw]; exact h) so'
theorem wl_newS {T : TypeId} {cs : List Value} {l c : Nat} {K : Addr → Hp → Prop} (hE : Ef r P n (en f0 E) o w.heap (.slice (some ⟨w.heap.size, 0, none⟩) l c) (w.heap.push (.cells cs.toArray T))) (hg : o.guard = none) (so : Sm w0 w)
    (h1 : ∀ u ∈ cs, u.oneCell' = true) (h : nw w.heap T cs K) (next : ∀ p w', K p w'.heap → rdS w'.heap (some p) cs → Sm w0 w' → Wl r P ops Q rest n f0 (dput o.dst (.slice (some p) l c) E) ds w') : Wl r P ops Q (o :: rest) n f0 E ds w :=
  wl_ef hE hg so fun w' hw so' => next _ w' (by rw [hw]; exact h) (by rw [hw]; exact rdS_new _ _ _ h1) so'
theorem wl_mk {T : TypeId} {cs : Array Value} {l c : Nat} {K : Addr → Hp → Prop} (hE : Ef r P n (en f0 E) o w.heap (.slice (some ⟨w.heap.size, 0, none⟩) l c) (w.heap.push (.cells cs T))) (hg : o.guard = none) (so : Sm w0 w)
    (h : nwA w.heap T cs K) (next : ∀ p w', K p w'.heap → Sm w0 w' → Wl r P ops Q rest n f0 (dput o.dst (.slice (some p) l c) E) ds w') : Wl r P ops Q (o :: rest) n f0 E ds w :=
  wl_ef hE hg so fun w' hw so' => next _ w' (by rw [hw]; exact h) so'
theorem wl_set {t : Nat} {v : Value} (h : en f0 E t = v) (k : Wl r P ops Q rest n f0 ((t, v) :: E) ds w) : Wl r P ops Q rest n f0 E ds w := by
  have e : en f0 ((t, v) :: E) = en f0 E := by
    funext x
    show (bif Nat.beq x t then v else en f0 E x) = en f0 E x
    cases hb : Nat.beq x t with
    | true => rw [Nat.eq_of_beq_eq_true hb, h]; rfl
    | false => rfl
  unfold Wl at k ⊢
  rwa [e] at k
theorem wl_st {p : Addr} {v : Value} {K : Hp → Prop} (h : st w.heap p v K) (hg : o.guard = none) (so : Sm w0 w) (hE : (∃ u, cellAt w.heap p = some u) → frozenAt w.heap p = false → Ef r P n (en f0 E) o w.heap undef (setAt w.heap p v))
    (next : ∀ w', K w'.heap → Sm w0 w' → Wl r P ops Q rest n f0 (dput o.dst undef E) ds w') : Wl r P ops Q (o :: rest) n f0 E ds w :=
  wl_ef (hE h.1 h.2.1) hg so fun w' hw so' => next w' (by rw [hw]; exact h.2.2) so'
theorem wl_stA {p : Addr} {cs : List Value} {K : Hp → Prop} (h : stA w.heap p cs K) (hg : o.guard = none) (so : Sm w0 w) (hE : mayW w.heap p cs.length → Ef r P n (en f0 E) o w.heap undef (setsAt w.heap p.block p.off cs))
    (next : ∀ w', K w'.heap → Sm w0 w' → Wl r P ops Q rest n f0 (dput o.dst undef E) ds w') : Wl r P ops Q (o :: rest) n f0 E ds w :=
  wl_ef (hE h.1) hg so fun w' hw so' => next w' (by rw [hw]; exact h.2) so'
theorem wl_ap {K : Sl → Hp → Prop} (hF : Fx r P n (en f0 E) o w.heap (fun v H' => ∃ s' : Sl, v = .slice s'.a s'.n s'.c ∧ K s' H')) (hg : o.guard = none) (so : Sm w0 w)
    (next : ∀ (s : Sl) w', K s w'.heap → Sm w0 w' → Wl r P ops Q rest n f0 (dput o.dst (.slice s.a s.n s.c) E) ds w') : Wl r P ops Q (o :: rest) n f0 E ds w :=
  wl_fx hF hg so fun v w' ⟨s', hv, hK⟩ so' => by subst hv; exact next s' w' hK so'
theorem run_call {f : FuncId} {l : List Operand} {ats : Array TypeId} {vl : List Value} {d : Option Tmp} {ty : TypeId} {pos : String} {af : Array Edge} {g : Option (Nat × Bool)} {n : Nat} {f' : Nat → Value}
    (he : ∀ args w, (callFunc f args).run P w = .ok (.enter f args) w) (ha : l.map (ev n f') = vl) :
    (Oper.semAt r (ev n f') ⟨d, .call ⟨.value (.func f), l.toArray, ats⟩, ty, pos, af, g⟩).run P w = .ok (.enter f vl.toArray) w := by
  subst ha
  cases r <;> simp [Oper.semAt, execOp, resolve, ev, Deferred.ofValue, invoke, he, Sem.run_bind]
theorem wl_callF {α : Type} {f : FuncId} {l : List Operand} {ats : Array TypeId} {vl : List Value} {enc : α → Value} {K : α → Hp → Prop} {d : Option Tmp} {ty : TypeId} {pos : String} {af : Array Edge}
    (hc : Ca P f vl.toArray w (Rt enc K w)) (he : ∀ args w, (callFunc f args).run P w = .ok (.enter f args) w) (ha : l.map (ev n (en f0 E)) = vl) (_ : True) (so : Sm w0 w)
    (h : ∀ x w', K x w'.heap → Sm w0 w' → Wl r P ops Q rest n f0 (dput d (enc x) E) ds w') : Wl r P ops Q (⟨d, .call ⟨.value (.func f), l.toArray, ats⟩, ty, pos, af, none⟩ :: rest) n f0 E ds w :=
  wl_call (run_call he ha) rfl hc so h
def Cl (H : Hp) (w0 : World) : World → Prop := fun w => w.heap = H ∧ Sm w0 w
def Wq (P : Program) (ops : Array Oper) (C : World → Prop) (Q : Act → Prop) (l : List Oper) (n : Nat) (f0 : Nat → Value) (E : List (Nat × Value)) (ds : List Deferred) : Prop :=
  wpQuietIn (fw none) 0 P ops C Q l (ac n (en f0 E) ds)
theorem wc_draw {id : Nat} {l : List Oper} (hm : P.follows .mixedOrders = true) (hB : Region.lexB .any l.toArray = true) (so : Sm w0 w)
    (h : Wq P l.toArray (Cl w.heap w0) (fun a => ∀ w', Cl w.heap w0 w' → Q .normal a w') l n f0 E ds) : Wc none P (.region id l.toArray true) Q n f0 E ds w :=
  wpIn_region_quiet (C := Cl w.heap w0) rfl hm hB ⟨rfl, so.os, so.tape, so.output⟩ h
theorem wq_nil {H : Hp} (h : ∀ w, w.heap = H → Sm w0 w → Wk Q .normal n f0 E ds w) : Wq P ops (Cl H w0) (fun a => ∀ w', Cl H w0 w' → Q .normal a w') [] n f0 E ds := fun w' hw => h w' hw.1 hw.2
theorem about_none {C : World → Prop} (a : Act) : o.askedIn (fw none) P a C := fun _ _ _ _ => trivial
theorem wq_val {H : Hp} {v : Value} {Q' : Act → Prop} (hA : At none P n (en f0 E) o H v) (hg : o.guard = none) (h : Wq P ops (Cl H w0) Q' rest n f0 (dput o.dst v E) ds) : Wq P ops (Cl H w0) Q' (o :: rest) n f0 E ds := by
  refine ⟨about_none _, ?_⟩
  simp only [Region.wanted, hg, if_true]
  refine ⟨v, fun w hw => ?_, ?_⟩
  · unfold Oper.quietAtIn
    rw [ac_eval]
    have := hA w hw.1
    rw [Oper.semAt_none] at this
    rw [this]
    exact ⟨rfl, rfl⟩
  · rw [ac_dput]
    exact h
end
end Go.Proofs.Ytmnoecpnoofdjaa.G
