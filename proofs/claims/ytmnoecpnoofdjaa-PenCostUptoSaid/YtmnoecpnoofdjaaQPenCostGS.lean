/- Of this text what the row needs. -/
import Derived.Test.YtmnoecpnoofdjaaQPenCostGR
import Derived.Lib.Builder
import Derived.Lib.UnsafeStr
namespace Go.Proofs.Ytmnoecpnoofdjaa.G
open Go.RowKit
set_option linter.unusedVariables false
set_option linter.unusedSimpArgs false
def boxAt (H : Hp) (p : Addr) (T : TypeId) (n : Nat) : Prop := p.spot = none ∧ p.off = 0 ∧ ∃ c fz, H[p.block]? = some (.cells c T fz) ∧ c.size = n
def usS (H : Hp) (T : TypeId) (p : Option Addr) (n : Int) (K : ByteArray → Hp → Prop) : Prop :=
  (n = 0 ∧ K .empty H) ∨ (∃ g c, ∃ l : List UInt8, p = some ⟨g, 0, none⟩ ∧ l ≠ [] ∧ n = l.length ∧ H[g]? = some (.cells c T (0, 0)) ∧ l.length ≤ c.size ∧ l.length ≤ 9223372036854775807 ∧ (∀ (j : Nat) (x : UInt8), l[j]? = some x → c[j]? = some (.int .u8 x.toNat)) ∧
    ∀ H', (H'.size = H.size ∧ ∀ k, k ≠ g → H'[k]? = H[k]?) → K ⟨l.toArray⟩ H')
theorem YOk.cells {P : Program} {α : Type} {e : α → Array Value} {yv : Value} {Y : α → Hp → (Bool → Hp → Prop) → Prop} (h : YOk P e yv Y) : yv.cells = [yv].toArray := by
  obtain ⟨l, rfl, _⟩ := h
  rfl
section
variable {r : Option Nat} {P : Program} {ops : Array Oper} {Q : Exit → Act → World → Prop} {n : Nat} {f : Nat → Value} {f0 : Nat → Value} {E : List (Nat × Value)} {ds : List Deferred} {w w0 : World} {rest : List Oper} {o : Oper} {H : Hp}
variable {d : Option Tmp} {ty : TypeId} {pos : String} {af : Array Edge} {g : Option (Nat × Bool)} {x y : Operand} {p : Addr} {T S U : TypeId}
theorem at_toU {m : Nat} (hs : P.underlying S = some (.pointer T)) (hd : P.underlying U = some .unsafePointer) (hz : (P.info? T).map (·.size) = some m) (hm : m ≠ 0) (hx : ev n f x = .pointer (some p)) (hb : boxAt H p T m) :
    At r P n f ⟨d, .convert S U x, ty, pos, af, g⟩ H (.pointer (some p)) := by
  intro w hw
  subst hw
  obtain ⟨hs', ho, c, fz, hc, hn⟩ := hb
  cases hq : P.info? T with
  | none => simp [hq] at hz
  | some j =>
    simp [hq] at hz
    have h := Lib.run_to_unsafe (P := P) w p hs hd hq (by omega) (e := T) (cells := m) (by unfold World.shape?; rw [hc]; simp [hn]) (by omega)
    cases r <;> simp [Oper.semAt, execOp, hx, h, Sem.run_bind]
theorem at_fromU {m : Nat} (hs : P.underlying S = some .unsafePointer) (hd : P.underlying U = some (.pointer T)) (hz : (P.info? T).map (·.size) = some m) (hl : liesAt P P.depth T (m / P.cellsOf T) 0 T 1 = true) (hx : ev n f x = .pointer (some p)) (hb : boxAt H p T m) :
    At r P n f ⟨d, .convert S U x, ty, pos, af, g⟩ H (.pointer (some p)) := by
  intro w hw
  subst hw
  obtain ⟨hs', ho, c, fz, hc, hn⟩ := hb
  cases hq : P.info? T with
  | none => simp [hq] at hz
  | some j =>
    have h := Lib.run_from_unsafe (P := P) w p hs hd hq (e := T) (cells := m) (by unfold World.shape?; rw [hc]; simp [hn]) (by rw [ho]; exact hl)
    cases r <;> simp [Oper.semAt, execOp, hx, h, Sem.run_bind]
theorem at_noEscape {k : FuncId} {fn : Func} {ats : Array TypeId} {v : Value} (hf : P.funcs[k]? = some fn) (hname : (fn.name == "runtime.NumGoroutine") = false) (hb : fn.body.isNone = true) (hn : Extern.findNext fn = none) (he : Extern.find fn = some Extern.AbiNoEscape.same)
    (hx : ev n f x = v) : At r P n f ⟨d, .call ⟨.value (.func k), #[x], ats⟩, ty, pos, af, g⟩ H v := by
  intro w hw
  have h := run_callFunc_extern hf hname hb hn he #[v] w
  rw [Lib.run_noEscape] at h
  have h' : (callFunc k #[v]).run P w = .ok (.value v) w := h
  have hev : ev n f (.func k) = .func (.func k) #[] #[] := rfl
  cases r <;> simp [Oper.semAt, execOp, resolve, hev, Deferred.ofValue, invoke, hx, h', Sem.run_bind]
theorem at_neqPP {e : TypeId} {a b : Option Addr} {q : Addr} (hu : P.underlying T = some (.pointer e)) (hz : (P.info? e).isSome = true) (hx : ev n f x = .pointer a) (hy : ev n f y = .pointer b) (hq : b = some q) (hab : a = b) :
    At r P n f ⟨d, .binOp .neq T x y U, ty, pos, af, g⟩ H (.bool false) := by
  intro w _
  subst hab hq
  obtain ⟨j, hj⟩ := Option.isSome_iff_exists.1 hz
  have h := Lib.run_neq_ptr_same (P := P) w q hu hj
  cases r <;> simp [Oper.semAt, execOp, eqGuard, hx, hy, h, Sem.run_bind]
theorem at_sData {ats : Array TypeId} {s : Sl} (hx : ev n f x = .slice s.a s.n s.c) (hc : s.a = none ∨ s.c ≠ 0) : At r P n f ⟨d, .call ⟨.builtin .unsafeSliceData, #[x], ats⟩, ty, pos, af, g⟩ H (.pointer s.a) := by
  intro w _
  have h : (Builtin.unsafeSliceData_ ats ty #[.slice s.a s.n s.c]).run P w = .ok (.pointer s.a) w := by
    cases ha : s.a with
    | none => exact Lib.run_unsafeSliceData_nil w _ _ _ _
    | some a =>
      rcases hc with hc | hc
      · rw [ha] at hc; cases hc
      · exact Lib.run_unsafeSliceData_row w _ _ _ _ _ hc
  cases r <;> simp [Oper.semAt, execOp, resolve, invoke, builtin, hx, h, Sem.run_bind]
theorem fx_uStr {pt it e : TypeId} {q : Option Addr} {m : Int} {K : ByteArray → Hp → Prop} (hp : P.underlying pt = some (.pointer e)) (hc : P.cellsOf e = 1) (hx : ev n f x = .pointer q) (hy : ev n f y = .int .i64 m) (h : usS H e q m K) :
    Fx r P n f ⟨d, .call ⟨.builtin .unsafeString, #[x, y], #[pt, it]⟩, ty, pos, af, g⟩ H (fun v H' => ∃ b, v = .string b ∧ K b H') := by
  intro w hw
  subst hw
  rcases h with ⟨rfl, hK⟩ | ⟨b, c, l, rfl, h0, rfl, hb, hl, h63, hcell, hK⟩
  · have h := Lib.run_unsafeString_none (P := P) w pt it ty q
    refine ⟨_, w, ?_, Sm.refl w, _, rfl, hK⟩
    cases r <;> simp [Oper.semAt, execOp, resolve, invoke, builtin, hx, hy, h, Sem.run_bind]
  · have h := Lib.run_unsafeString_row (P := P) w pt it ty e hp hc b c.size (by simp [World.shape?, hb]) l h0 hl h63 (fun j x hj => by
      have := hcell j x hj
      rw [Addr.add_mid, cell_eq]
      unfold cellAt
      rw [hb]
      simpa using this)
    refine ⟨_, w.freeze ⟨b, 0, none⟩ l.length, ?_, ?_, _, rfl, hK _ ?_⟩
    · cases r <;> simp [Oper.semAt, execOp, resolve, invoke, builtin, hx, hy, h, Sem.run_bind]
    · unfold World.freeze
      split
      · exact Sm.refl w
      · exact ⟨rfl, rfl, rfl⟩
    · unfold World.freeze
      split
      · exact ⟨rfl, fun _ _ => rfl⟩
      · refine ⟨by simp, fun k hk => ?_⟩
        simp only
        rw [Array.getElem?_modify, if_neg (fun e => hk e.symm)]
theorem wl_str {K : ByteArray → Hp → Prop} (hF : Fx r P n (en f0 E) o w.heap (fun v H' => ∃ b, v = .string b ∧ K b H')) (hg : o.guard = none) (so : Sm w0 w)
    (next : ∀ (b : ByteArray) w', K b w'.heap → Sm w0 w' → Wl r P ops Q rest n f0 (dput o.dst (.string b) E) ds w') : Wl r P ops Q (o :: rest) n f0 E ds w :=
  wl_fx hF hg so fun v w' ⟨b, hv, hK⟩ so' => by subst hv; exact next b w' hK so'
end
end Go.Proofs.Ytmnoecpnoofdjaa.G
