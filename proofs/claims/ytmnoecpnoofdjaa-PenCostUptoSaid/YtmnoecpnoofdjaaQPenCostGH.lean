/- Of this text what the row needs. -/
import Derived.Test.YtmnoecpnoofdjaaQPenCostGE
namespace Go.Proofs.Ytmnoecpnoofdjaa.G
open Go.RowKit
def Bk (H : Hp) (b : Nat) (T : TypeId) (cs : List Value) : Prop := H[b]? = some (.cells cs.toArray T (0, 0))
structure Same (H H' : Hp) (b : Nat) : Prop where
  size : H'.size = H.size
  block : ∀ k, k ≠ b → H'[k]? = H[k]?
theorem Bk.lt {H : Hp} {b : Nat} {T : TypeId} {cs : List Value} (h : Bk H b T cs) : b < H.size := (Array.getElem?_eq_some_iff.1 h).1
theorem Bk.same {H H' : Hp} {b c : Nat} {T : TypeId} {cs : List Value} (h : Bk H b T cs) (s : Same H H' c) (hne : b ≠ c) : Bk H' b T cs := (s.block b hne).trans h
theorem Bk.keep {H H' : Hp} {b : Nat} {T : TypeId} {cs : List Value} (h : Bk H b T cs) (k : Keep H H') : Bk H' b T cs := (k.block b h.lt).trans h
theorem Keep.same {H0 H H' : Hp} {b : Nat} (k : Keep H0 H) (s : Same H H' b) (hb : H0.size ≤ b) : Keep H0 H' :=
  ⟨by rw [s.size]; exact k.size, fun i hi => (s.block i (by omega)).trans (k.block i hi)⟩
theorem Bk.cell {H : Hp} {b : Nat} {T : TypeId} {cs : List Value} (h : Bk H b T cs) (o : Nat) : cellAt H ⟨b, o, none⟩ = cs[o]? := by
  unfold cellAt
  rw [h]
  simp
theorem Bk.unfrozen {H : Hp} {b : Nat} {T : TypeId} {cs : List Value} (h : Bk H b T cs) (o : Nat) : frozenAt H ⟨b, o, none⟩ = false := by
  unfold frozenAt
  rw [h]
  simp
theorem add_mk (b o k : Nat) : (⟨b, o, none⟩ : Addr).add k = ⟨b, o + k, none⟩ := Addr.add_mid b o k
theorem nw_i {H : Hp} {T : TypeId} {cs : List Value} {K : Addr → Hp → Prop} (h : ∀ H', Bk H' H.size T cs → Keep H H' → H'.size = H.size + 1 → K ⟨H.size, 0, none⟩ H') : nw H T cs K := by
  refine h _ ?_ ⟨by simp, fun k hk => ?_⟩ (by simp)
  · unfold Bk; simp
  · rw [Array.getElem?_push, if_neg (by omega)]
theorem ldA_i {H : Hp} {b o : Nat} {T : TypeId} {cs xs : List Value} (h : Bk H b T cs) (hx : ∀ j v, xs[j]? = some v → cs[o + j]? = some v) : ldA H ⟨b, o, none⟩ xs :=
  ⟨rfl, fun j v hv => by rw [add_mk, h.cell]; exact hx j v hv⟩
theorem ldA_full {H : Hp} {b : Nat} {T : TypeId} {cs : List Value} (h : Bk H b T cs) : ldA H ⟨b, 0, none⟩ cs := ldA_i h fun j v hv => by simpa using hv
theorem ldI_i {k : IntKind} {H : Hp} {b o : Nat} {T : TypeId} {cs : List Value} {v : Int} {K : Int → Prop} (h : Bk H b T cs) (hv : cs[o]? = some (.int k v)) (hK : K v) : ldI k H ⟨b, o, none⟩ K := ⟨v, by rw [h.cell]; exact hv, hK⟩
theorem ldB_i {H : Hp} {b o : Nat} {T : TypeId} {cs : List Value} {v : Bool} {K : Bool → Prop} (h : Bk H b T cs) (hv : cs[o]? = some (.bool v)) (hK : K v) : ldB H ⟨b, o, none⟩ K := ⟨v, by rw [h.cell]; exact hv, hK⟩
theorem ldP_i {H : Hp} {b o : Nat} {T : TypeId} {cs : List Value} {v : Option Addr} {K : Option Addr → Prop} (h : Bk H b T cs) (hv : cs[o]? = some (.pointer v)) (hK : K v) : ldP H ⟨b, o, none⟩ K := ⟨v, by rw [h.cell]; exact hv, hK⟩
theorem ldL_i {H : Hp} {b o : Nat} {T : TypeId} {cs : List Value} {v : Sl} {K : Sl → Prop} (h : Bk H b T cs) (hv : cs[o]? = some (.slice v.a v.n v.c)) (hK : K v) : ldL H ⟨b, o, none⟩ K := ⟨v, by rw [h.cell]; exact hv, hK⟩
theorem setAt_bk {H : Hp} {b o : Nat} {T : TypeId} {cs : List Value} (h : Bk H b T cs) (v : Value) : Bk (setAt H ⟨b, o, none⟩ v) b T (cs.set o v) ∧ Same H (setAt H ⟨b, o, none⟩ v) b := by
  have hb := h.lt
  constructor
  · unfold Bk setAt
    rw [Array.getElem?_modify, if_pos rfl, h]
    simp
  · refine ⟨by simp [setAt], fun k hk => ?_⟩
    unfold setAt
    rw [Array.getElem?_modify, if_neg (fun e => hk e.symm)]
theorem Same.trans {A B C : Hp} {b : Nat} (h : Same A B b) (k : Same B C b) : Same A C b := ⟨k.size.trans h.size, fun i hi => (k.block i hi).trans (h.block i hi)⟩
theorem Same.refl (H : Hp) (b : Nat) : Same H H b := ⟨rfl, fun _ _ => rfl⟩
theorem setsAt_bk {T : TypeId} {b : Nat} : ∀ (vs : List Value) (H : Hp) (o : Nat) (cs : List Value), Bk H b T cs → o + vs.length ≤ cs.length →
    Bk (setsAt H b o vs) b T (cs.take o ++ vs ++ cs.drop (o + vs.length)) ∧ Same H (setsAt H b o vs) b
  | [], H, o, cs, h, _ => by
    refine ⟨?_, Same.refl _ _⟩
    simpa [setsAt] using h
  | v :: vs, H, o, cs, h, hl => by
    obtain ⟨h1, s1⟩ := setAt_bk (o := o) h v
    have hl' : o + 1 + vs.length ≤ (cs.set o v).length := by simp at hl ⊢; omega
    obtain ⟨h2, s2⟩ := setsAt_bk vs _ (o + 1) _ h1 hl'
    refine ⟨?_, s1.trans s2⟩
    have ho : o < cs.length := by simp at hl; omega
    have e1 : (cs.set o v).take (o + 1) = cs.take o ++ [v] := by
      rw [List.take_succ_eq_append_getElem (by simpa using ho), List.take_set_of_le (Nat.le_refl _)]
      simp
    have e2 : (cs.set o v).drop (o + 1 + vs.length) = cs.drop (o + (v :: vs).length) := by
      rw [List.drop_set_of_lt (by omega)]
      congr 1
      simp; omega
    rw [e1, e2] at h2
    simpa [setsAt] using h2
theorem stA_i {H : Hp} {b o : Nat} {T : TypeId} {cs vs : List Value} {K : Hp → Prop} (h : Bk H b T cs) (hl : o + vs.length ≤ cs.length)
    (hK : ∀ H', Bk H' b T (cs.take o ++ vs ++ cs.drop (o + vs.length)) → Same H H' b → K H') : stA H ⟨b, o, none⟩ vs K := by
  obtain ⟨h1, s1⟩ := setsAt_bk vs H o cs h hl
  refine ⟨⟨rfl, fun j hj => ?_⟩, hK _ h1 s1⟩
  rw [add_mk, h.cell, h.unfrozen]
  exact ⟨⟨_, List.getElem?_eq_getElem (by omega)⟩, rfl⟩
theorem stA_full {H : Hp} {b : Nat} {T : TypeId} {cs vs : List Value} {K : Hp → Prop} (h : Bk H b T cs) (hl : vs.length = cs.length) (hK : ∀ H', Bk H' b T vs → Same H H' b → K H') : stA H ⟨b, 0, none⟩ vs K := by
  refine stA_i h (by omega) fun H' h1 s1 => hK H' ?_ s1
  simpa [hl] using h1
theorem st_i {H : Hp} {b o : Nat} {T : TypeId} {cs : List Value} {v : Value} {K : Hp → Prop} (h : Bk H b T cs) (ho : o < cs.length) (hK : ∀ H', Bk H' b T (cs.set o v) → Same H H' b → K H') : st H ⟨b, o, none⟩ v K := by
  obtain ⟨h1, s1⟩ := setAt_bk (o := o) h v
  refine ⟨?_, h.unfrozen o, hK _ h1 s1⟩
  rw [h.cell]
  exact ⟨_, List.getElem?_eq_getElem ho⟩
end Go.Proofs.Ytmnoecpnoofdjaa.G
