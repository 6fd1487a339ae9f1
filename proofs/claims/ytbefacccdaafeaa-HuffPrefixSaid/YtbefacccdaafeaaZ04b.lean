/- Layer 4: twins; HuffCheck. -/
import Derived.Test.YtbefacccdaafeaaZ04a
namespace Go.Proofs.Ytbefacccdaafeaa.G
open Go.RowKit
set_option linter.unusedVariables false
set_option linter.unusedSimpArgs false

/-- A table's values in memory of their own, with marked room behind. -/
def Tw (H : Hp) (full m : Sl) (vs : List Nat) : Prop := Own H 5 1 full ((vs ++ List.replicate 12 77).flatMap cB) ∧ m = slS full 1 0 (vs.length : Int)
theorem Tw.ch {H H' : Hp} {full m : Sl} {vs : List Nat} {F : List Nat} (h : Tw H full m vs) (c : Ch F H H') (hF : ∀ b ∈ fp full, b ∉ F) : Tw H' full m vs := ⟨h.1.ch c hF, h.2⟩
theorem Tw.keep {H H' : Hp} {full m : Sl} {vs : List Nat} (h : Tw H full m vs) (c : Keep H H') : Tw H' full m vs := h.ch (c.ch (F := [])) (by simp)
theorem Tw.view {H : Hp} {full m : Sl} {vs : List Nat} (h : Tw H full m vs) : SlV H m 1 cB vs := by
  obtain ⟨h1, rfl⟩ := h
  have := (h1.view cB_len (by omega)).take (i := vs.length) (by simp)
  rwa [List.take_left'] at this
  rfl
theorem twin_ok {c : Cn} {s : Sl} {vs : List Nat} {H : Hp} {Q : Cn × Sl → Hp → Prop} (hs : SlV H s 1 cB vs) (hl : vs.length + 12 ≤ 140737488355328)
    (h : ∀ full m H', Tw H' full m vs → Keep H H' → (∀ b ∈ fp full, H.size ≤ b) → Q (c, m) H') : mosaiclaw04_twin.s c s H Q := by
  unfold mosaiclaw04_twin.s
  intro b1 H2 c2 g1 g1' b3 H4 c4 g3 g3'
  have k2 : Keep H H2 := c2.keep (by simp)
  have k4 : Keep H2 H4 := c4.keep (by simp)
  have k := k2.trans k4
  have y2 := k2.size
  have y4 := k4.size
  have hn := hs.n
  have hc := (hs.keep k).cells cB_len cB_ones
  refine ⟨vs.flatMap cB, hc.1, hc.2, apS_list (xs := []) (ys := vs) (Own.nil _ _ _) cB_len cB_ones rfl (by omega) (by omega) (by simp; omega) (by omega) fun l6 H7 o7 c7 f7 => ⟨Pv.ch c7 (by simp [fp]; omega), ?_⟩⟩
  have y7 := c7.size
  refine Fix.intro (fun (x : Sl × Int) H' => ∃ i : Nat, x.2 = (i : Int) ∧ i ≤ 12 ∧ Own H' 5 1 x.1 ((vs ++ List.replicate i 77).flatMap cB) ∧ Keep H4 H' ∧ ∀ b ∈ fp x.1, H4.size ≤ b) (fun x _ => 12 - x.2.toNat)
    ⟨0, rfl, by omega, by simpa using o7, c7.keep (by simp [fp]), fun b hb => by have := f7 b hb; simp [fp] at this; omega⟩ ?_
  rintro ⟨t, _⟩ H15 ⟨i, rfl, hi, o15, k15, f15⟩ rec hrec
  replace o15 : Own H15 5 1 t ((vs ++ List.replicate i 77).flatMap cB) := o15
  replace f15 : ∀ b ∈ fp t, H4.size ≤ b := f15
  have y15 := k15.size
  simp only
  by_cases h12 : i < 12
  · refine ite_t (dect (by omega)) (nw_i fun H19 b19 k19 z19 => ⟨Pv.keep k19 (by simp; omega), ?_⟩)
    refine apS_list (ys := [77]) (o15.ch (k19.ch (F := [])) (by simp)) cB_len cB_ones rfl (by omega) rfl (by simp; omega) (by omega) fun s7 H25 o25 c25 f25 => ⟨Pv.ch c25 fun b hb => ⟨by simp at hb; omega, fun hb' => by have := f15 b hb'; simp at hb; omega⟩, ?_⟩
    rw [show (i : Int) + 1 = ((i + 1 : Nat) : Int) from by omega, w64n (by omega)]
    refine hrec _ _ ⟨i + 1, rfl, by omega, ?_, (((k15.trans k19).ch (F := [])).trans c25 fun b hb => .inr (f15 b hb)).keep (by simp), fun b hb => ?_⟩ (by simp; omega)
    · rw [List.replicate_succ', ← List.append_assoc]; exact o25
    · have := k19.size
      rcases f25 b hb with h | h
      · exact f15 b h
      · omega
  · obtain rfl : i = 12 := by omega
    have hcap : vs.length + 12 ≤ t.c := by
      have := (o15.view cB_len (by omega)).c
      have := (o15.view cB_len (by omega)).n
      simp at this
      omega
    refine ite_f (decf (by omega)) ⟨by omega, by omega, fun H30 c30 => ?_⟩
    rw [hn]
    refine h t _ H30 ⟨o15.ch c30 fun b hb => by have := f15 b hb; simp; omega, rfl⟩ (((k.trans k15).ch (F := [])).trans c30 (by simp; omega) |>.keep (by simp)) fun b hb => by have := f15 b hb; omega
theorem slS_zero (s : Sl) (sz : Nat) (k : Int) : slS s sz 0 k = ⟨s.a, k.toNat, s.c⟩ := by
  unfold slS
  have : ∀ a : Option Addr, a.map (·.add ((0 : Int).toNat * sz)) = a := fun a => by
    cases a with
    | none => rfl
    | some p => simp [Addr.add]
  simp only [this]
  simp
theorem kept_ok {c : Cn} {s full m : Sl} {vs : List Nat} {H : Hp} {Q : Bool → Hp → Prop} (hs : SlV H s 1 cB vs) (ht : Tw H full m vs) (hl : vs.length + 12 ≤ 140737488355328) (h : ∀ H', Keep H H' → Q true H') : mosaiclaw04_kept.s c m c s H Q := by
  unfold mosaiclaw04_kept.s
  intro b1 H2 c2 g1 g1' b3 H4 c4 g3 g3'
  have k := (c2.keep (by simp)).trans (c4.keep (by simp))
  have hn := hs.n
  have hF := ht.keep k
  have hS := hs.keep k
  have hv := (hF.1.view cB_len (by omega))
  have hvn := hv.n
  have hvc := hv.c
  simp at hvn
  have hm : m = ⟨full.a, vs.length, full.c⟩ := by rw [ht.2, slS_zero]; simp
  have e1 : IntKind.wrap .i64 ((s.n : Int) + 12) = ((vs.length + 12 : Nat) : Int) := by rw [w64 (by omega)]; omega
  have e2 : slS m 1 0 ((vs.length + 12 : Nat) : Int) = ⟨full.a, vs.length + 12, full.c⟩ := by rw [slS_zero, hm, Int.toNat_natCast]
  rw [e1, e2]
  refine ⟨by omega, by rw [hm]; show _ ≤ (full.c : Int); omega, ?_⟩
  refine Fix.intro (fun (x : Int) H' => ∃ i : Nat, x = (i : Int) ∧ i ≤ vs.length + 12 ∧ H4 = H') (fun x _ => vs.length + 12 - x.toNat) ⟨0, rfl, by omega, rfl⟩ ?_
  rintro _ _ ⟨i, rfl, hi, rfl⟩ rec hrec
  by_cases hil : i < vs.length + 12
  · refine ite_t (dect (by show (i : Int) < ((vs.length + 12 : Nat) : Int); omega)) (Join.intro (fun b H' => b = false ∧ H4 = H') ?_ ?_)
    · rintro _ _ ⟨rfl, rfl⟩
      refine ite_f rfl ?_
      rw [show (i : Int) + 1 = ((i + 1 : Nat) : Int) from by omega, w64n (by omega)]
      exact hrec _ _ ⟨i + 1, rfl, by omega, rfl⟩ (by simp; omega)
    · intro J hJ
      obtain ⟨b, o, ha, hA⟩ := hv.get (List.getElem?_eq_getElem (show i < (vs ++ List.replicate 12 77).length by simp; omega))
      by_cases hin : i < vs.length
      · obtain ⟨b', o', ha', hA'⟩ := hS.get (List.getElem?_eq_getElem hin)
        rw [List.getElem_append_left hin] at hA
        exact ite_t (dect (by omega)) ⟨by omega, by show (i : Int) < ((vs.length + 12 : Nat) : Int); omega, _, ha, ldI_of0 hA rfl ⟨by omega, by omega, _, ha', ldI_of0 hA' rfl (ite_f (bnei rfl) (ite_f (decf (by omega)) (hJ _ _ ⟨rfl, rfl⟩)))⟩⟩
      · rw [List.getElem_append_right (by omega), List.getElem_replicate] at hA
        exact ite_f (decf (by omega)) (ite_t (dect (by omega)) ⟨by omega, by show (i : Int) < ((vs.length + 12 : Nat) : Int); omega, _, ha, ldI_of0 hA rfl (hJ _ _ ⟨bnei rfl, rfl⟩)⟩)
  · refine ite_f (decf (by show ¬ (i : Int) < ((vs.length + 12 : Nat) : Int); omega)) (ite_t (beq_self_eq_true _) ?_)
    have : ((m.n : Int) == (s.n : Int)) = true := beqi (by rw [hm]; show (vs.length : Int) = _; omega)
    rw [this]
    exact h _ k
end Go.Proofs.Ytbefacccdaafeaa.G
