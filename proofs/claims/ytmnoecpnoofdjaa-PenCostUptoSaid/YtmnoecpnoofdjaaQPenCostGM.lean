/- Of this text what the row needs. -/
import Derived.Test.YtmnoecpnoofdjaaQPenCostGI
import Derived.Test.YtmnoecpnoofdjaaQPenCostGS
namespace Go.Proofs.Ytmnoecpnoofdjaa.G
open Go.RowKit
set_option linter.unusedVariables false
set_option linter.unusedSimpArgs false
def Gr (F : List Nat) (H : Hp) (K : Hp → Prop) : Prop := ∀ H', Ch F H H' → K H'
def Gn (F : List Nat) (H : Hp) (K : Nat → Hp → Prop) : Prop := ∀ b H', Ch F H H' → H.size ≤ b → b < H'.size → K b H'
def Pv (bs : List Nat) (H H' : Hp) : Prop := ∀ b ∈ bs, H'[b]? = H[b]?
theorem pv_bk {bs : List Nat} {H H' : Hp} {b : Nat} {T : TypeId} {cs : List Value} (h : Pv bs H H') (t : Bk H b T cs) (hb : b ∈ bs) : Bk H' b T cs := (h b hb).trans t
theorem Pv.ch {bs F : List Nat} {H H' : Hp} (c : Ch F H H') (h : ∀ b ∈ bs, b < H.size ∧ b ∉ F) : Pv bs H H' := fun b hb => c.block b (h b hb).1 (h b hb).2
theorem Pv.keep {bs : List Nat} {H H' : Hp} (c : Keep H H') (h : ∀ b ∈ bs, b < H.size) : Pv bs H H' := fun b hb => c.block b (h b hb)
theorem ch_same {F : List Nat} {A B C : Hp} {b : Nat} (h : Ch F A B) (s : Same B C b) (hb : b ∈ F ∨ A.size ≤ b) : Ch F A C := h.trans s.ch (by simpa using hb)
theorem ch_more {F : List Nat} {A B C : Hp} {b : Nat} (h : Ch F A B) (s : Same B C b) : Ch (b :: F) A C := (h.mono (G := b :: F) fun i hi => .inl (by simp [hi])).trans s.ch (by simp)
theorem ldA_sub {H : Hp} {b o : Nat} {T : TypeId} {pre sub post : List Value} (t : Bk H b T (pre ++ (sub ++ post))) (hl : pre.length = o) : ldA H ⟨b, o, none⟩ sub :=
  ldA_i t fun j v hv => by
    subst hl
    rw [List.getElem?_append_right (by omega), show pre.length + j - pre.length = j from by omega]
    rw [List.getElem?_append_left (List.getElem?_eq_some_iff.1 hv).1]
    exact hv
theorem ixT {H : Hp} {b o n : Nat} {T : TypeId} {k : IntKind} {pre post : List Value} {l : Ints n} {y : Int} (t : Bk H b T (pre ++ (ints k l.1 ++ post))) (hl : pre.length = o) (h0 : 0 ≤ y) (h1 : y < (n : Int)) :
    cellAt H ((⟨b, o, none⟩ : Addr).add (y.toNat * 1)) = some (.int k (ixI l y)) := by
  subst hl
  have hy : y.toNat < l.1.length := by rw [l.2]; omega
  rw [add_mk, t.cell, Nat.mul_one, List.getElem?_append_right (by omega), show pre.length + y.toNat - pre.length = y.toNat from by omega]
  rw [List.getElem?_append_left (by simpa [ints] using hy)]
  unfold ints ixI
  rw [List.getElem?_map, List.getElem?_eq_getElem hy, List.getD_eq_getElem?_getD, List.getElem?_eq_getElem hy]
  rfl
section
variable {r : Option Nat} {P : Program} {ops : Array Oper} {Q : Exit → Act → World → Prop} {n : Nat} {f0 : Nat → Value} {E : List (Nat × Value)} {ds : List Deferred} {w w0 : World} {rest : List Oper} {o : Oper}
theorem wl_newT {T : TypeId} {cs : List Value} (hE : Ef r P n (en f0 E) o w.heap (.pointer (some ⟨w.heap.size, 0, none⟩)) (w.heap.push (.cells cs.toArray T))) (hg : o.guard = none) (so : Sm w0 w)
    (next : ∀ b w', b = w.heap.size → Bk w'.heap b T cs → Keep w.heap w'.heap → Sm w0 w' → Wl r P ops Q rest n f0 (dput o.dst (.pointer (some ⟨b, 0, none⟩)) E) ds w') : Wl r P ops Q (o :: rest) n f0 E ds w :=
  wl_ef hE hg so fun w' hw so' => by
    refine next _ w' rfl ?_ ⟨by rw [hw]; simp, fun k hk => ?_⟩ so'
    · unfold Bk; rw [hw]; simp
    · rw [hw, Array.getElem?_push, if_neg (by omega)]
theorem wl_stT {b i : Nat} {T : TypeId} {cs cs' : List Value} {v : Value} (t : Bk w.heap b T cs) (hi : i < cs.length) (hcs : cs.set i v = cs') (hg : o.guard = none) (so : Sm w0 w)
    (hE : (∃ u, cellAt w.heap ⟨b, i, none⟩ = some u) → frozenAt w.heap ⟨b, i, none⟩ = false → Ef r P n (en f0 E) o w.heap undef (setAt w.heap ⟨b, i, none⟩ v))
    (next : ∀ w', Bk w'.heap b T cs' → Same w.heap w'.heap b → Sm w0 w' → Wl r P ops Q rest n f0 (dput o.dst undef E) ds w') : Wl r P ops Q (o :: rest) n f0 E ds w := by
  obtain ⟨h1, h2⟩ := setAt_bk (o := i) t v
  refine wl_ef (hE ⟨_, by rw [t.cell]; exact List.getElem?_eq_getElem hi⟩ (t.unfrozen i)) hg so fun w' hw so' => next w' ?_ ?_ so'
  · rw [hw, ← hcs]; exact h1
  · rw [hw]; exact h2
theorem wl_stAT {b i : Nat} {T : TypeId} {cs vs cs' : List Value} (t : Bk w.heap b T cs) (hi : i + vs.length ≤ cs.length) (hcs : cs.take i ++ vs ++ cs.drop (i + vs.length) = cs') (hg : o.guard = none) (so : Sm w0 w)
    (hE : mayW w.heap ⟨b, i, none⟩ vs.length → Ef r P n (en f0 E) o w.heap undef (setsAt w.heap b i vs))
    (next : ∀ w', Bk w'.heap b T cs' → Same w.heap w'.heap b → Sm w0 w' → Wl r P ops Q rest n f0 (dput o.dst undef E) ds w') : Wl r P ops Q (o :: rest) n f0 E ds w := by
  obtain ⟨h1, h2⟩ := setsAt_bk vs w.heap i cs t hi
  refine wl_ef (hE ⟨rfl, fun j hj => ?_⟩) hg so fun w' hw so' => next w' ?_ ?_ so'
  · rw [add_mk, t.cell, t.unfrozen]
    exact ⟨⟨_, List.getElem?_eq_getElem (by omega)⟩, rfl⟩
  · rw [hw, ← hcs]; exact h1
  · rw [hw]; exact h2
theorem wl_stWT {b : Nat} {T : TypeId} {cs vs : List Value} (t : Bk w.heap b T cs) (hl : vs.length = cs.length) (hg : o.guard = none) (so : Sm w0 w)
    (hE : mayW w.heap ⟨b, 0, none⟩ vs.length → Ef r P n (en f0 E) o w.heap undef (setsAt w.heap b 0 vs))
    (next : ∀ w', Bk w'.heap b T vs → Same w.heap w'.heap b → Sm w0 w' → Wl r P ops Q rest n f0 (dput o.dst undef E) ds w') : Wl r P ops Q (o :: rest) n f0 E ds w :=
  wl_stAT t (by omega) (by simp [hl]) hg so hE next
theorem wc_joinG {σ : Type} {K : σ → Hp → Prop} {body : (σ → Hp → Prop) → Prop} {c : Code} (G : Hp → Prop) (El : σ → List (Nat × Value)) (Dl : σ → List Deferred) (h : Join K body)
    (hy : ∀ s w f1, K s w.heap → G w.heap → Sm w0 w → Wk Q .normal n f1 (El s) (Dl s) w)
    (hx : ∀ J : σ → Hp → Prop, body J → (∀ s w f1, J s w.heap → G w.heap → Sm w0 w → Wk Q .normal n f1 (El s) (Dl s) w) → Wc r P c Q n f0 E ds w) : Wc r P c Q n f0 E ds w := hx K h hy
end
end Go.Proofs.Ytmnoecpnoofdjaa.G
