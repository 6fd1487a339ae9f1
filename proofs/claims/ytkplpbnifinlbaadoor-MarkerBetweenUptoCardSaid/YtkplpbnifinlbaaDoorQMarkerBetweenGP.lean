/- Of this text what the row needs. -/
import Derived.Test.YtkplpbnifinlbaaDoorQMarkerBetweenGH
import Derived.Test.YtkplpbnifinlbaaDoorRows
import Derived.SizedLaws
import Derived.JoinedCond
import Derived.ProofKit
import Derived.ChangeOld
import Derived.Carry
namespace Go.Proofs.YtkplpbnifinlbaaDoor.G
open Go.RowKit
set_option linter.unusedVariables false
set_option linter.unusedSimpArgs false
def Sz {H : Type} (m : Option Nat) (P : Program) (t : TypeId) (d : DataW H) : Prop := match m with | none => ∀ x ∈ d.weights P t, x ≤ reachBytes | some n => Rows.uptoBulk d ≤ n
def szS (m : Option Nat) (n : Nat) : Prop := match m with | none => n ≤ reachBytes | some b => n + 1 ≤ b
theorem bulk_mem {H : Type} {d : DataW H} : ∀ {l : List (DataW H)}, d ∈ l → Rows.uptoBulk d ≤ Rows.uptoBulkAll l
  | x :: r, h => by
    simp only [Rows.uptoBulkAll]
    rcases List.mem_cons.1 h with rfl | h
    · omega
    · have := bulk_mem h; omega
theorem sz_string {H : Type} {m : Option Nat} {P : Program} {t : TypeId} {b : List UInt8} (h : Sz (H := H) m P t (.lit (.string b))) : szS m b.length := by
  cases m with
  | none => exact h _ (by simp [DataW.weights])
  | some n => simpa [Sz, szS, Rows.uptoBulk] using h
def Rd (P : Program) (W : World) (m : Option Nat) (t : TypeId) (cs : List Value) : Prop := ∃ (H : Type) (enc : TypeId × Value → H) (fuel : Nat) (x : DataW H × List MemPlace), DataW.trod enc P W 0 (fun _ => true) true fuel t cs = some x ∧ Sz m P t x.1
section
variable {P : Program} {W : World} {m : Option Nat} {t e : TypeId} {cs : List Value}
theorem Rd.of {H : Type} {enc : TypeId × Value → H} {v : Value} {d : DataW H} {ps : List MemPlace} (h : DataW.Trod enc P W 0 (fun _ => true) true t v d ps) (hs : Sz m P t d) : Rd P W m t v.cells.toList := by
  obtain ⟨f, hf⟩ := h
  exact ⟨_, _, f, _, hf, hs⟩
theorem rd_int {k : IntKind} (ht : P.underlying t = some (.int k)) (h : Rd P W m t cs) : ∃ n, cs = [.int k n] ∧ (Lit.int k n).wf = true := by
  obtain ⟨H, enc, fuel, x, h, hsz⟩ := h
  cases fuel with
  | zero => simp [DataW.trod] at h
  | succ fuel =>
    unfold DataW.trod at h
    rw [ht] at h
    split at h <;> simp_all
theorem rd_string (ht : P.underlying t = some .string) (h : Rd P W m t cs) : ∃ s : ByteArray, cs = [.string s] ∧ szS m s.size := by
  obtain ⟨H, enc, fuel, x, h, hsz⟩ := h
  cases fuel with
  | zero => simp [DataW.trod] at h
  | succ fuel =>
    unfold DataW.trod at h
    rw [ht] at h
    split at h <;> try (simp_all; done)
    split at h
    · rename_i b h1 h2
      simp only [Option.some.injEq] at h
      subst h
      refine ⟨_, rfl, ?_⟩
      have := sz_string hsz
      simpa using this
    · cases h
theorem scal_cells {v x : Value} (hv : ∀ cs, v ≠ .agg cs) (h : v.cells.toList = [x]) : v = x := by
  cases v <;> simp [Value.cells] at h <;> first | exact h | exact absurd rfl (hv _)
theorem ok_scal {w : World} {r : Reach} {base : Nat} {v : Value} {dsc : TypeDesc} (ht : P.underlying t = some dsc) (hd : dsc.isRow = false) (h : Value.okWide P w r base t v) : ∀ cs, v ≠ .agg cs := by
  intro cs e
  subst e
  cases dsc <;> simp_all [Value.okWide, Cell.okWide, Cell.ok]
theorem open_scal {w : World} {r : Reach} {base : Nat} {v x : Value} {dsc : TypeDesc} (ht : P.underlying t = some dsc) (hd : dsc.isRow = false) (h : Value.okWide P w r base t v) (hc : v.cells.toList = [x]) : v = x := scal_cells (ok_scal ht hd h) hc
theorem sz_upto {H : Type} {ds gs : List (DataW H)} (h : Rows.uptoSmall H (ds ++ gs) = true) : ∀ (j : Nat) (t : TypeId) d, ds[j]? = some d → Sz (some 1048576) P t d := by
  intro j t d hd
  have h1 : Rows.uptoBulkAll (ds ++ gs) ≤ 1048576 := of_decide_eq_true h
  have h2 := bulk_mem (List.mem_append_left gs (List.mem_of_getElem? hd))
  simp only [Sz]
  omega
theorem trodAll_below {H : Type} {enc : TypeId × Value → H} {W' : World} (hl : laidOutB P = true) (hb : Below W.heap.size W W') : ∀ (ts : List TypeId) (vs : List Value) (ds : List (DataW H)) (ps : List MemPlace), ts.all (fun t => P.readableRec t && decide (t < P.types.size)) = true →
    DataW.TrodAll enc P W 0 (fun _ => true) true ts vs ds ps → DataW.TrodAll enc P W' 0 (fun b => decide (b < W.heap.size)) true ts vs ds ps
  | [], [], [], ps, _, h => h
  | t :: ts, v :: vs, d :: ds, ps, ht, h => by
    obtain ⟨p, q, h1, h2, e⟩ := h
    simp only [List.all_cons, Bool.and_eq_true, decide_eq_true_eq] at ht
    refine ⟨p, q, Below.trod hl ht.1.1 ht.1.2 h1 hb ?_, trodAll_below hl hb ts vs ds q (by simpa using ht.2) h2, e⟩
    obtain ⟨f, hf⟩ := h1
    exact DataW.trod_lt f t _ _ hf
  | [], _ :: _, _, _, _, h => h.elim
  | [], [], _ :: _, _, _, h => h.elim
  | _ :: _, [], _, _, _, h => h.elim
  | _ :: _, _ :: _, [], _, _, h => h.elim
end
end Go.Proofs.YtkplpbnifinlbaaDoor.G
