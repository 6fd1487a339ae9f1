/- Of this text what the row needs. -/
import Derived.Test.YtmnoecpnoofdjaaQPenCostGE
import Derived.OrdersIn
namespace Go.Proofs.Ytmnoecpnoofdjaa.G
open Go.RowKit
set_option linter.unusedVariables false
set_option linter.unusedSimpArgs false
def waits (B : List Nat) (j i : Nat) : Bool := (B.getD j 0).testBit i
def befs (B : List Nat) (j : Nat) (es : List Edge) : Nat := es.foldl (fun s e => if Region.binds .any e then s ||| 2 ^ e.on ||| (if e.on < j then B.getD e.on 0 else 0) else s) 0
def chkB (ops : Array Oper) (B : List Nat) : Bool :=
  ((List.range ops.size).all fun j => match ops[j]? with | some o => befs B j o.after.toList == B.getD j 0 | none => true) &&
  ops.all fun o => match o.op with | .select .. => false | .defer .. => false | _ => true
def Closed (ops : Array Oper) (L : Array Bool) : Prop := ∀ j o, ops[j]? = some o → L.getD j true = true → ∀ e ∈ o.after, Region.binds .any e = true → L.getD e.on false = true
theorem befs_bit (B : List Nat) (j i : Nat) : ∀ (es : List Edge) (s : Nat), (es.foldl (fun s e => if Region.binds .any e then s ||| 2 ^ e.on ||| (if e.on < j then B.getD e.on 0 else 0) else s) s).testBit i = true →
    s.testBit i = true ∨ ∃ e ∈ es, Region.binds .any e = true ∧ (e.on = i ∨ (e.on < j ∧ (B.getD e.on 0).testBit i = true))
  | [], s, h => .inl h
  | e :: es, s, h => by
    rw [List.foldl_cons] at h
    rcases befs_bit B j i es _ h with h1 | ⟨e', he', h'⟩
    · by_cases hb : Region.binds .any e = true
      · rw [if_pos hb, Nat.testBit_or, Nat.testBit_or, Bool.or_eq_true, Bool.or_eq_true] at h1
        rcases h1 with (h1 | h1) | h1
        · exact .inl h1
        · refine .inr ⟨e, by simp, hb, .inl ?_⟩
          rw [Nat.testBit_two_pow] at h1
          simpa using h1
        · refine .inr ⟨e, by simp, hb, .inr ?_⟩
          by_cases hl : e.on < j
          · rw [if_pos hl] at h1; exact ⟨hl, h1⟩
          · rw [if_neg hl] at h1; simp at h1
      · rw [if_neg hb] at h1; exact .inl h1
    · exact .inr ⟨e', by simp [he'], h'⟩
theorem getD_tf {L : Array Bool} {i : Nat} (hs : i < L.size) (h : L.getD i false = true) : L.getD i true = true := by simpa [hs] using h
theorem waits_listed {ops : Array Oper} {B : List Nat} {L : Array Bool} (hB : chkB ops B = true) (_ : L.size = ops.size) (hc : Closed ops L) :
    ∀ (j i : Nat), j < ops.size → waits B j i = true → (∀ o, ops[j]? = some o → ∀ e ∈ o.after, Region.binds .any e = true → L.getD e.on false = true) → L.getD i false = true := by
  intro j
  induction j using Nat.strongRecOn with
  | _ j ih =>
    intro i hj hw hd
    obtain ⟨o, ho⟩ : ∃ o, ops[j]? = some o := ⟨ops[j], by simp [hj]⟩
    have h1 : befs B j o.after.toList = B.getD j 0 := by
      simp only [chkB, Bool.and_eq_true, List.all_eq_true, List.mem_range] at hB
      have := hB.1 j hj
      rw [ho] at this
      simpa using this
    unfold waits at hw
    rw [← h1] at hw
    rcases befs_bit B j i _ 0 hw with h2 | ⟨e, he, hb, h2⟩
    · simp at h2
    · have hl := hd o ho e (by simpa using he) hb
      rcases h2 with rfl | ⟨hlt, h2⟩
      · exact hl
      · refine ih e.on hlt i (by omega) h2 (fun o' ho' e' he' hb' => hc e.on o' ho' (getD_tf (by omega) hl) e' he' hb')
theorem closed_set {ops : Array Oper} {L : Array Bool} {j : Nat} (hL : L.size = ops.size) (hc : Closed ops L) (hj : j ∈ Region.ready .any ops L) : Closed ops (L.setIfInBounds j true) := by
  intro k o ho hk e he hb
  obtain ⟨_, oj, hoj, hall⟩ := mem_ready.1 hj
  by_cases hjk : j = k
  · subst hjk
    rw [hoj] at ho
    cases ho
    exact getD_set_true (hall e he hb)
  · rw [getD_set_ne true hjk] at hk
    exact getD_set_true (hc k o ho hk e he hb)
theorem closed_none (ops : Array Oper) : Closed ops (Array.replicate ops.size false) := by
  intro j o ho h
  have hj : j < ops.size := (Array.getElem?_eq_some_iff.1 ho).1
  simp [hj] at h
section
variable {r : Option Nat} {P : Program} {ops : Array Oper} {B : List Nat} {K : Act → World → Prop}
def Qf (K : Act → World → Prop) : Exit → Act → World → Prop
  | .normal, a, w => K a w
  | _, _, _ => False
def wpG (r : Option Nat) (P : Program) (ops : Array Oper) (B : List Nat) (K : Act → World → Prop) : Nat → List (Nat × (Hp → Prop)) → Array Bool → Act → World → Prop
  | 0, _, L, a, w => Region.ready .any ops L = [] ∧ K a w
  | f + 1, G, L, a, w => (Region.ready .any ops L = [] → K a w) ∧ ∀ j ∈ Region.ready .any ops L,
      wpOpIn (fw r) 0 P ops (Qf K) j (fun a' w' => (∀ g ∈ G, waits B j g.1 = false → g.2 w'.heap) ∧ wpG r P ops B K f (G.filter fun g => !waits B j g.1) (L.setIfInBounds j true) a' w') a w
theorem any_of_G : ∀ (f : Nat) (G : List (Nat × (Hp → Prop))) (L : Array Bool) (a : Act) (w : World), wpG r P ops B K f G L a w → wpAnyIn (fw r) 0 P .any ops (Qf K) f L a w
  | 0, _, _, _, _, h => h
  | f + 1, _, _, _, _, h => ⟨h.1, fun j hj => wpOpIn_mono (fun _ _ h' => any_of_G f _ _ _ _ h'.2) (h.2 j hj)⟩
theorem G_less : ∀ (f : Nat) (G G' : List (Nat × (Hp → Prop))) (L : Array Bool) (a : Act) (w : World), (∀ g ∈ G', g ∈ G) → wpG r P ops B K f G L a w → wpG r P ops B K f G' L a w
  | 0, _, _, _, _, _, _, h => h
  | f + 1, _, _, _, _, _, hs, h => ⟨h.1, fun j hj => wpOpIn_mono (fun _ _ h' => ⟨fun g hg hw => h'.1 g (hs g hg) hw, G_less f _ _ _ _ _ (fun g hg => by
      rw [List.mem_filter] at hg ⊢; exact ⟨hs g hg.1, hg.2⟩) h'.2⟩) (h.2 j hj)⟩
def Yl (r : Option Nat) (P : Program) (ops : Array Oper) (S : Hp → Prop) (o : Oper) (v : Value) (a : Act) : Prop :=
  (Region.wanted o (yielded ops a.tmps) = true ∧ ∀ w, S w.heap → (o.semAt r a.eval).run P w = .ok (.value v) w) ∨ (Region.wanted o (yielded ops a.tmps) = false ∧ v = undef)
theorem Yl.of_same {S : Hp → Prop} {o : Oper} {v : Value} {a a' : Act} (hy : Yl r P ops S o v a) (he : o.semAt r a'.eval = o.semAt r a.eval)
    (hw : Region.wanted o (yielded ops a'.tmps) = Region.wanted o (yielded ops a.tmps)) : Yl r P ops S o v a' := by
  unfold Yl at *
  rw [he, hw]; exact hy
theorem Yl.op {S : Hp → Prop} {i : Nat} {o : Oper} {v : Value} {a : Act} {w : World} (hi : ops[i]? = some o) (hy : Yl r P ops S o v a) (hS : S w.heap) {K' : Act → World → Prop} (h : K' (a.put o.dst v) w) :
    wpOpIn (fw r) 0 P ops (Qf K) i K' a w := by
  unfold wpOpIn
  simp only [hi]
  rcases hy with ⟨hw, hv⟩ | ⟨hw, rfl⟩
  · simp only [hw, if_true, Oper.wpIn, show (fw r).round = r from rfl, hv w hS, Oper.uponIn_value]
    exact ⟨fun _ _ => trivial, h⟩
  · simp only [hw, Bool.false_eq_true, if_false]; exact ⟨fun _ _ => trivial, h⟩
theorem semAt_put {i : Nat} (hB : chkB ops B = true) {o : Oper} (hi : ops[i]? = some o) (a : Act) (dst : Option Tmp) (v : Value) (h : ∀ d, dst = some d → d ∉ o.looksAt ops) :
    o.semAt r (a.put dst v).eval = o.semAt r a.eval := by
  simp only [chkB, Bool.and_eq_true] at hB
  have hm := Array.all_eq_true_iff_forall_mem.1 hB.2 o (Array.mem_of_getElem? hi)
  have hd : ∀ c, o.op ≠ .defer c := fun c e => by rw [e] at hm; cases hm
  have hs : ∀ cs b, o.op ≠ .select cs b := fun cs b e => by rw [e] at hm; cases hm
  rw [Oper.semAt_eq _ _ _ hd, Oper.semAt_eq _ _ _ hd]
  exact execOp_put o hs a dst v h
theorem op_put {S : Hp → Prop} {i j : Nat} {oi oj : Oper} {v : Value} (hB : chkB ops B = true) (hi : ops[i]? = some oi) (hj : ops[j]? = some oj) (hap : oi.apart ops oj = true)
    {K' : Act → World → Prop} {a : Act} {w : World} (hy : Yl r P ops S oi v a) (h : wpOpIn (fw r) 0 P ops (Qf K) j K' (a.put oi.dst v) w) :
    wpOpIn (fw r) 0 P ops (Qf K) j (fun a' w' => Yl r P ops S oi v a' ∧ K' (a'.put oi.dst v) w') a w := by
  obtain ⟨h1, h2, h3⟩ := Oper.apart_spec hap
  have keep : ∀ (a : Act), Yl r P ops S oi v a → ∀ u, Yl r P ops S oi v (a.put oj.dst u) := fun a hy u =>
    hy.of_same (semAt_put hB hi a oj.dst u h3) (wanted_put oi a oj.dst u h3)
  have keepD : ∀ d, Yl r P ops S oi v { a with defers := d :: a.defers } := fun d => hy.of_same rfl rfl
  have hj' := hj
  unfold wpOpIn at *
  simp only [hj] at h ⊢
  rw [wanted_put oj a oi.dst v h1] at h
  split
  · rename_i hw
    simp only [hw, if_true] at h
    unfold Oper.wpIn at *
    refine ⟨fun _ _ => trivial, ?_⟩
    have h := h.2
    rw [semAt_put hB hj' a oi.dst v h1] at h
    generalize (oj.semAt (fw r).round a.eval).run P w = res at *
    cases res with
    | ok x w' =>
      cases x <;> simp only [Oper.uponIn] at h ⊢
      case value u => exact ⟨keep a hy u, by rw [← Act.put_comm a v u h2]; exact h⟩
      case skip => exact ⟨keep a hy _, by rw [← Act.put_comm a v undef h2]; exact h⟩
      case defer d =>
        refine ⟨keep _ (keepD d) _, ?_⟩
        rw [← Act.put_comm _ v undef h2, ← Act.put_defers]
        exact h
      case enter f args =>
        refine ⟨h.1, CallsIn.mono h.2 fun e w'' he => ?_⟩
        cases e with
        | returned u => exact ⟨keep a hy u, by rw [← Act.put_comm a v u h2]; exact he⟩
        | panicked c => exact he.elim
        | outgrown => exact he
      case row row args => exact ⟨h.1, RowsIn.mono h.2 fun u w'' he => ⟨keep a hy u, by rw [← Act.put_comm a v u h2]; exact he⟩⟩
      case round l f tmps assign body =>
        refine ⟨h.1, RoundIn.mono h.2 fun e w'' he => ?_⟩
        cases e with
        | returned u => exact ⟨keep a hy u, by rw [← Act.put_comm a v u h2]; exact he⟩
        | panicked c => exact he.elim
        | outgrown => exact he
    | halt x w' =>
      cases x <;> simp only [Oper.uponIn] at h ⊢
      case panic u => exact h.elim
  · rename_i hw
    simp only [hw] at h
    exact ⟨fun _ _ => trivial, keep a hy _, by rw [← Act.put_comm a v undef h2]; exact h.2⟩
theorem G_first {S : Hp → Prop} {i : Nat} {oi : Oper} {v : Value} (hB : chkB ops B = true) (hi : ops[i]? = some oi) :
    ∀ (f : Nat) (G : List (Nat × (Hp → Prop))) (L : Array Bool) (a : Act) (w : World), L.size = ops.size → Closed ops L →
      (∀ j oj, ops[j]? = some oj → j ≠ i → L.getD j true = false → (∀ e ∈ oj.after, Region.binds .any e = true → e.on ≠ i) → oi.apart ops oj = true) →
      i ∈ Region.ready .any ops L → Yl r P ops S oi v a → (∀ g ∈ G, g.2 w.heap) → S w.heap →
      wpG r P ops B K f ((i, S) :: G) (L.setIfInBounds i true) (a.put oi.dst v) w → wpG r P ops B K (f + 1) G L a w := by
  intro f
  induction f with
  | zero =>
    intro G L a w hs hc _ hr hy hG hS H
    refine ⟨fun h => (by rw [h] at hr; cases hr), fun j hj => ?_⟩
    by_cases hji : j = i
    · subst hji; exact hy.op hi hS ⟨fun g hg _ => hG g hg, H⟩
    · have := ready_mono hj hji
      rw [H.1] at this
      cases this
  | succ f ih =>
    intro G L a w hs hc hfree hr hy hG hS H
    refine ⟨fun h => (by rw [h] at hr; cases hr), fun j hj => ?_⟩
    by_cases hji : j = i
    · subst hji
      exact hy.op hi hS ⟨fun g hg _ => hG g hg, G_less _ _ _ _ _ _ (fun g hg => by rw [List.mem_filter] at hg; exact List.mem_cons_of_mem _ hg.1) H⟩
    · have h1 := H.2 j (ready_mono hj hji)
      obtain ⟨hjun, oj, hoj, hall⟩ := mem_ready.1 hj
      have hi0 := (mem_ready.1 hr).1
      have hif : L.getD i false = false := by
        rcases Nat.lt_or_ge i L.size with h' | h'
        · simpa [h'] using hi0
        · simp [Array.getElem?_eq_none h'] at hi0
      have hnot : ∀ e ∈ oj.after, Region.binds .any e = true → e.on ≠ i := fun e he hb heq => by
        have h1 := hall e he hb
        rw [heq, hif] at h1
        cases h1
      have hjs : j < ops.size := (Array.getElem?_eq_some_iff.1 hoj).1
      have hwj : waits B j i = false := by
        cases hx : waits B j i with
        | false => rfl
        | true =>
          have := waits_listed hB hs hc j i hjs hx (fun o ho e he hb => by rw [hoj] at ho; cases ho; exact hall e he hb)
          rw [hif] at this
          cases this
      have h2 := op_put hB hi hoj (hfree j oj hoj hji hjun hnot) hy h1
      have hfree' : ∀ k ok, ops[k]? = some ok → k ≠ i → (L.setIfInBounds j true).getD k true = false →
          (∀ e ∈ ok.after, Region.binds .any e = true → e.on ≠ i) → oi.apart ops ok = true := fun k ok hk hki hun hno => by
        refine hfree k ok hk hki ?_ hno
        by_cases hjk : j = k
        · subst hjk; exact hjun
        · rw [getD_set_ne true hjk] at hun; exact hun
      refine wpOpIn_mono (fun a' w' h3 => ?_) h2
      obtain ⟨hy', hk, hn⟩ := h3
      refine ⟨fun g hg hw => hk g (List.mem_cons_of_mem _ hg) hw, ?_⟩
      refine ih _ (L.setIfInBounds j true) a' w' (by simpa using hs) (closed_set hs hc hj) hfree' (ready_mono hr (Ne.symm hji)) hy' (fun g hg => ?_) (hk (i, S) (by simp) hwj) ?_
      · rw [List.mem_filter] at hg
        exact hk g (List.mem_cons_of_mem _ hg.1) (by simpa using hg.2)
      · rw [Array.setIfInBounds_comm _ _ hji]
        rw [List.filter_cons, hwj] at hn
        exact hn
theorem G_true : ∀ (f : Nat) (G : List (Nat × (Hp → Prop))) (i : Nat) (L : Array Bool) (a : Act) (w : World), wpG r P ops B K f G L a w → wpG r P ops B K f ((i, fun _ => True) :: G) L a w
  | 0, _, _, _, _, _, h => h
  | f + 1, G, i, L, a, w, h => ⟨h.1, fun j hj => wpOpIn_mono (fun a' w' h' => ⟨fun g hg hw => by
      rcases List.mem_cons.1 hg with rfl | hg
      · trivial
      · exact h'.1 g hg hw, by
      rw [List.filter_cons]
      split
      · exact G_true f _ _ _ _ _ h'.2
      · exact h'.2⟩) (h.2 j hj)⟩
theorem G_first0 {i : Nat} {oi : Oper} {v : Value} (hB : chkB ops B = true) (hi : ops[i]? = some oi)
    (f : Nat) (G : List (Nat × (Hp → Prop))) (L : Array Bool) (a : Act) (w : World) (hs : L.size = ops.size) (hc : Closed ops L)
    (hfree : ∀ j oj, ops[j]? = some oj → j ≠ i → L.getD j true = false → (∀ e ∈ oj.after, Region.binds .any e = true → e.on ≠ i) → oi.apart ops oj = true)
    (hr : i ∈ Region.ready .any ops L) (hy : Yl r P ops (fun _ => True) oi v a) (hG : ∀ g ∈ G, g.2 w.heap)
    (H : wpG r P ops B K f G (L.setIfInBounds i true) (a.put oi.dst v) w) : wpG r P ops B K (f + 1) G L a w :=
  G_first (S := fun _ => True) hB hi f G L a w hs hc hfree hr hy hG trivial (G_true _ _ _ _ _ _ H)
def lst (n m : Nat) : Array Bool := ((List.range n).map fun i => m.testBit i).toArray
theorem lst_size (n m : Nat) : (lst n m).size = n := by simp [lst]
theorem lst_none (n : Nat) : Array.replicate n false = lst n 0 := by
  apply Array.ext
  · simp [lst]
  · intro i h1 h2; simp [lst]
theorem lst_set {n m i m' : Nat} (h : m ||| 2 ^ i = m') : (lst n m).setIfInBounds i true = lst n m' := by
  subst h
  apply Array.ext
  · simp [lst]
  · intro k h1 h2
    have hk : k < n := by simpa [lst] using h2
    by_cases hik : i = k
    · subst hik
      simp [lst, Nat.testBit_or, Nat.testBit_two_pow]
    · rw [Array.getElem_setIfInBounds_ne (by simpa [lst] using hk) hik]
      simp [lst, Nat.testBit_or, Nat.testBit_two_pow, hik]
def okF (ops : Array Oper) (m i : Nat) : Bool := (Region.ready .any ops (lst ops.size m)).contains i && Region.free .any ops (lst ops.size m) i
def dropM {α : Type} : List Bool → List α → List α
  | true :: mk, _ :: l => dropM mk l
  | false :: mk, x :: l => x :: dropM mk l
  | _, _ => []
def keepM : List Bool → List (Hp → Prop) → Hp → Prop
  | true :: mk, _ :: l, H => keepM mk l H
  | false :: mk, S :: l, H => S H ∧ keepM mk l H
  | _, _, _ => True
def Wo (r : Option Nat) (P : Program) (ops : Array Oper) (B : List Nat) (K : Act → World → Prop) (f : Nat) (I : List Nat) (G : List (Hp → Prop)) (m : Nat) (n : Nat) (f0 : Nat → Value) (E : List (Nat × Value)) (ds : List Deferred) (w : World) : Prop :=
  chkB ops B = true → Closed ops (lst ops.size m) → (∀ g ∈ I.zip G, g.2 w.heap) → wpG r P ops B K f (I.zip G) (lst ops.size m) (ac n (en f0 E) ds) w
def Tq (r : Option Nat) (P : Program) (ops : Array Oper) (B : List Nat) (K : Act → World → Prop) (f : Nat) (I : List Nat) (G : List (Hp → Prop)) (mk : List Bool) (m : Nat) : Exit → Act → World → Prop
  | .normal, a, w => keepM mk G w.heap ∧ (chkB ops B = true → Closed ops (lst ops.size m) → (∀ g ∈ (dropM mk I).zip (dropM mk G), g.2 w.heap) → wpG r P ops B K f ((dropM mk I).zip (dropM mk G)) (lst ops.size m) a w)
  | _, _, _ => False
variable {n f : Nat} {f0 : Nat → Value} {E : List (Nat × Value)} {ds : List Deferred} {w w0 : World} {o : Oper} {I : List Nat} {G : List (Hp → Prop)} {m m' i j : Nat} {v : Value} {S : Hp → Prop}
theorem wc_wo {id : Nat} {l : List Oper} {Q : Exit → Act → World → Prop} (B : List Nat) (hm : P.follows .mixedOrders = true) (hB : chkB l.toArray B = true) (so : Sm w0 w)
    (h : ∀ w', w'.heap = w.heap → Sm w0 w' → Wo r P l.toArray B (fun a w => Q .normal a w) l.length [] [] 0 n f0 E ds w') : Wc r P (.region id l.toArray true) Q n f0 E ds w := by
  have h1 := h { w with drawn := w.drawn + 1 } rfl ⟨so.os, so.tape, so.output⟩ hB (by rw [← lst_none]; exact closed_none _) (fun g hg => by cases hg)
  unfold Wc
  refine wpIn_mono (Q := Qf fun a w => Q .normal a w) (wpIn_region_any hm ?_) ?_
  · rw [lst_none]
    exact any_of_G _ _ _ _ _ h1
  · intro e a' w' hq
    cases e with
    | normal => exact hq
    | _ => exact hq.elim
theorem wo_done {Q : Exit → Act → World → Prop} (hr : Region.ready .any ops (lst ops.size m) = []) (h : Wk Q .normal n f0 E ds w) : Wo r P ops B (fun a w => Q .normal a w) f I G m n f0 E ds w := by
  intro _ _ _
  cases f with
  | zero => exact ⟨hr, h⟩
  | succ f => exact ⟨fun _ => h, by rw [hr]; simp⟩
theorem wo_step (ho : ops[i]? = some o) (hf : okF ops m i = true) (hm : m ||| 2 ^ i = m') (hy : Yl r P ops S o v (ac n (en f0 E) ds)) (hS : S w.heap)
    (h : Wo r P ops B K f (i :: I) (S :: G) m' n f0 (dput o.dst v E) ds w) : Wo r P ops B K (f + 1) I G m n f0 E ds w := by
  intro hB hc hG
  simp only [okF, Bool.and_eq_true] at hf
  have hr : i ∈ Region.ready .any ops (lst ops.size m) := by simpa using hf.1
  refine G_first hB ho f _ _ _ _ (lst_size _ _) hc (Region.free_spec ho hf.2) hr hy hG hS ?_
  rw [lst_set hm, ac_dput]
  refine h hB (by rw [← lst_set hm]; exact closed_set (lst_size _ _) hc hr) ?_
  intro g hg
  rw [List.zip_cons_cons, List.mem_cons] at hg
  rcases hg with rfl | hg
  · exact hS
  · exact hG g hg
theorem yl_val (hg : o.guard = none) (hA : ∀ H, S H → At r P n (en f0 E) o H v) : Yl r P ops S o v (ac n (en f0 E) ds) := by
  refine .inl ⟨by simp [Region.wanted, hg], fun w hS => ?_⟩
  rw [ac_eval]
  exact hA _ hS w rfl
theorem wo_load (i : Nat) (S : Hp → Prop) (ho : ops[i]? = some o) (hf : okF ops m i = true) (hm : m ||| 2 ^ i = m') (hg : o.guard = none) (hA : ∀ H, S H → At r P n (en f0 E) o H v) (hS : S w.heap)
    (h : Wo r P ops B K f (i :: I) (S :: G) m' n f0 (dput o.dst v E) ds w) : Wo r P ops B K (f + 1) I G m n f0 E ds w := wo_step ho hf hm (yl_val hg hA) hS h
theorem wo_step0 (ho : ops[i]? = some o) (hf : okF ops m i = true) (hm : m ||| 2 ^ i = m') (hy : Yl r P ops (fun _ => True) o v (ac n (en f0 E) ds))
    (h : Wo r P ops B K f I G m' n f0 (dput o.dst v E) ds w) : Wo r P ops B K (f + 1) I G m n f0 E ds w := by
  intro hB hc hG
  have hf' := hf
  simp only [okF, Bool.and_eq_true] at hf
  have hr : i ∈ Region.ready .any ops (lst ops.size m) := by simpa using hf.1
  -- first with nothing asked of the heap: the entry for i may be kept, and is dropped at once by taking G' = G
  have key : wpG r P ops B K f (I.zip G) (lst ops.size m') (ac n (en f0 (dput o.dst v E)) ds) w := h hB (by rw [← lst_set hm]; exact closed_set (lst_size _ _) hc hr) hG
  refine G_first0 hB ho f _ _ _ _ (lst_size _ _) hc (Region.free_spec ho hf.2) hr hy hG ?_
  rw [lst_set hm, ac_dput]
  exact key
theorem wo_pure (i : Nat) (ho : ops[i]? = some o) (hf : okF ops m i = true) (hm : m ||| 2 ^ i = m') (hg : o.guard = none) (hA : ∀ H, At r P n (en f0 E) o H v)
    (h : Wo r P ops B K f I G m' n f0 (dput o.dst v E) ds w) : Wo r P ops B K (f + 1) I G m n f0 E ds w := wo_step0 ho hf hm (yl_val hg fun H _ => hA H) h
theorem zip_mask {B : List Nat} {j : Nat} : ∀ (I : List Nat) (G : List (Hp → Prop)), (I.zip G).filter (fun g => !waits B j g.1) = (dropM (I.map (waits B j)) I).zip (dropM (I.map (waits B j)) G)
  | [], G => by simp [dropM]
  | i :: I, [] => by
    cases hw : waits B j i <;> simp [dropM, hw]
  | i :: I, S :: G => by
    cases hw : waits B j i <;> simp [dropM, hw, zip_mask I G]
theorem keep_mask {B : List Nat} {j : Nat} {H : Hp} : ∀ (I : List Nat) (G : List (Hp → Prop)), keepM (I.map (waits B j)) G H → ∀ g ∈ I.zip G, waits B j g.1 = false → g.2 H
  | [], G, _ => by simp
  | i :: I, [], _ => by simp
  | i :: I, S :: G, h => by
    intro g hg hw
    rw [List.zip_cons_cons, List.mem_cons] at hg
    rw [List.map_cons] at h
    rcases hg with rfl | hg
    · simp only at hw
      rw [hw] at h
      exact h.1
    · cases hx : waits B j i with
      | true => rw [hx] at h; exact keep_mask I G h g hg hw
      | false => rw [hx] at h; exact keep_mask I G h.2 g hg hw
theorem op_out {Q' : Exit → Act → World → Prop} {K' : Act → World → Prop} {a : Act} (hn : ∀ e a w, e ≠ .normal → ¬ Q' e a w) (h : o.wpIn (fw r) 0 P a w K' Q') : o.wpIn (fw r) 0 P a w K' (Qf K) := by
  unfold Oper.wpIn at *
  refine ⟨h.1, ?_⟩
  have hl : ¬ LetsOut Q' := fun ⟨a, w, x⟩ => hn _ _ _ (by simp) x
  have h := h.2
  generalize (o.semAt (fw r).round a.eval).run P w = res at *
  cases res with
  | ok x w' =>
    cases x <;> simp only [Oper.uponIn] at h ⊢
    case value u => exact h
    case skip => exact h
    case defer d => exact h
    case enter f args =>
      refine ⟨h.1, CallsIn.mono h.2 fun e w'' he => ?_⟩
      cases e with
      | returned u => exact he
      | panicked c => exact (hn _ _ _ (by simp) he).elim
      | outgrown => exact (hl he).elim
    case row row args => exact h
    case round l f tmps assign body =>
      refine ⟨h.1, RoundIn.mono h.2 fun e w'' he => ?_⟩
      cases e with
      | returned u => exact he
      | panicked c => exact (hn _ _ _ (by simp) he).elim
      | outgrown => exact (hl he).elim
  | halt x w' =>
    cases x <;> simp only [Oper.uponIn] at h ⊢
    case panic u => exact (hn _ _ _ (by simp) h).elim
    all_goals first | exact h | exact (hl h).elim
theorem take_one (j : Nat) (mk : List Bool) (ho : ops[j]? = some o) (hr : j ∈ Region.ready .any ops (lst ops.size m)) (hm : m ||| 2 ^ j = m') (hk : I.map (waits B j) = mk)
    (h : Wl r P ops (Tq r P ops B K f I G mk m') [o] n f0 E ds w) (hB : chkB ops B = true) (hc : Closed ops (lst ops.size m)) (hG : ∀ g ∈ I.zip G, g.2 w.heap) :
    wpOpIn (fw r) 0 P ops (Qf K) j (fun a' w' => (∀ g ∈ I.zip G, waits B j g.1 = false → g.2 w'.heap) ∧ wpG r P ops B K f ((I.zip G).filter fun g => !waits B j g.1) ((lst ops.size m).setIfInBounds j true) a' w') (ac n (en f0 E) ds) w := by
  subst hk
  have hcl := closed_set (lst_size ops.size m) hc hr
  rw [lst_set hm] at hcl ⊢
  have fin : ∀ a' w', Tq r P ops B K f I G (I.map (waits B j)) m' .normal a' w' →
      (∀ g ∈ I.zip G, waits B j g.1 = false → g.2 w'.heap) ∧ wpG r P ops B K f ((I.zip G).filter fun g => !waits B j g.1) (lst ops.size m') a' w' := by
    intro a' w' ht
    refine ⟨keep_mask I G ht.1, ?_⟩
    rw [zip_mask]
    refine ht.2 hB hcl ?_
    rw [← zip_mask]
    intro g hg
    rw [List.mem_filter] at hg
    exact keep_mask I G ht.1 g hg.1 (by simpa using hg.2)
  unfold Wl at h
  simp only [wpListIn] at h
  unfold wpOpIn
  simp only [ho]
  split at h
  · rename_i hw
    rw [if_pos hw]
    exact Oper.wpIn_mono fin (op_out (K := K) (fun e a w hne => by cases e <;> first | exact absurd rfl hne | exact fun x => x) h)
  · rename_i hw
    rw [if_neg hw]
    exact ⟨fun _ _ => trivial, fin _ _ h.2⟩
theorem wo_two (j j' : Nat) (mk mk' : List Bool) {o' : Oper} {m1 m2 : Nat} (ho : ops[j]? = some o) (ho' : ops[j']? = some o') (hr : Region.ready .any ops (lst ops.size m) = [j, j']) (hm : m ||| 2 ^ j = m1) (hm' : m ||| 2 ^ j' = m2) (hk : I.map (waits B j) = mk) (hk' : I.map (waits B j') = mk')
    (h : Wl r P ops (Tq r P ops B K f I G mk m1) [o] n f0 E ds w) (h' : Wl r P ops (Tq r P ops B K f I G mk' m2) [o'] n f0 E ds w) : Wo r P ops B K (f + 1) I G m n f0 E ds w := by
  intro hB hc hG
  refine ⟨fun x => (by rw [hr] at x; cases x), fun i hi => ?_⟩
  have hi' := hi
  rw [hr] at hi'
  rcases List.mem_cons.1 hi' with rfl | hi'
  · exact take_one i mk ho hi hm hk h hB hc hG
  · obtain rfl : i = j' := by simpa using hi'
    exact take_one i mk' ho' hi hm' hk' h' hB hc hG
theorem wo_take (j : Nat) (mk : List Bool) (ho : ops[j]? = some o) (hr : Region.ready .any ops (lst ops.size m) = [j]) (hm : m ||| 2 ^ j = m') (hk : I.map (waits B j) = mk)
    (h : Wl r P ops (Tq r P ops B K f I G mk m') [o] n f0 E ds w) : Wo r P ops B K (f + 1) I G m n f0 E ds w := by
  intro hB hc hG
  refine ⟨fun x => (by rw [hr] at x; cases x), fun i hi => ?_⟩
  have hi' := hi
  rw [hr] at hi'
  obtain rfl : i = j := by simpa using hi'
  exact take_one i mk ho hi hm hk h hB hc hG
theorem wk_tq {mk : List Bool} (hk : keepM mk G w.heap) (h : Wo r P ops B K f (dropM mk I) (dropM mk G) m n f0 E ds w) : Wk (Tq r P ops B K f I G mk m) .normal n f0 E ds w := ⟨hk, h⟩
end
end Go.Proofs.Ytmnoecpnoofdjaa.G
