/- Of this text what the row needs. -/
import Derived.Test.YtmnoecpnoofdjaaQPenCostM07
namespace Go.Proofs.Ytmnoecpnoofdjaa.G
open Go.RowKit
set_option linter.unusedVariables false
set_option linter.unusedSimpArgs false
set_option maxRecDepth 20000
section
variable {H : Hp} {B : Ints 64} {pred : Int}
theorem one_own {b : Nat} {x : Sy} (h : Bk H b 66 (cS x)) : Own H 66 3 ⟨some ⟨b, 0, none⟩, 1, 1⟩ ([x].flatMap cS) := .inr ⟨b, [], rfl, by simpa using h, rfl, rfl, Nat.le_refl _⟩
theorem d_ok (hm : mayB B.1) (hp : -32768 ≤ pred ∧ pred ≤ 32767) (h : bln (B.1.getD 0 0 - pred).natAbs ≤ 11) : -2047 ≤ B.1.getD 0 0 - pred ∧ B.1.getD 0 0 - pred ≤ 2047 := by
  have h1 := (bln_le _ _).1 h
  have p11 : (2 : Nat) ^ 11 = 2048 := rfl
  omega
theorem drop_at {k : Nat} (h : k < 64) : B.1.drop k = B.1.getD k 0 :: B.1.drop (k + 1) := drop_cons (getD_at (by have := B.2; omega))
theorem Symbols_ok {Q : Sl × Int → Hp → Prop} (hp : -32768 ≤ pred ∧ pred ≤ 32767)
    (h0 : ¬ mayB B.1 → ∀ H', Keep H H' → Q (⟨none, 0, 0⟩, 3) H') (h1 : mayB B.1 → 11 < bln (B.1.getD 0 0 - pred).natAbs → ∀ H', Keep H H' → Q (⟨none, 0, 0⟩, 60) H')
    (h2 : mayB B.1 → bln (B.1.getD 0 0 - pred).natAbs ≤ 11 → ∀ t H', Own H' 66 3 t ((syF B.1 pred).flatMap cS) → Keep H H' → (∀ b ∈ fp t, H.size ≤ b) → Q (t, 0) H') : runs_Symbols.s B pred H Q := by
  have hB := B.2
  have hlen := syF_len (pred := pred) hB
  unfold runs_Symbols.s
  intro b1 H2 c2 g1 g1' hb
  have k2 : Keep H H2 := c2.keep (by simp)
  have y2 := k2.size
  refine may_ok hb hB fun r hr => ?_
  cases r with
  | false => exact ite_t rfl (h0 (fun e => by have := hr.2 e; cases this) _ k2)
  | true =>
    have hm := hr.1 rfl
    have hm' := hm
    obtain ⟨m0, mk⟩ := hm'
    refine ite_f rfl (ldI_i hb (ints_at (by omega)) (Lt.of ?_))
    rw [w64 (x := B.1.getD 0 0) (by omega), w64 (x := pred) (by omega), w64 (by omega)]
    refine Size_ok (by omega) ?_
    by_cases h11 : 11 < bln (B.1.getD 0 0 - pred).natAbs
    · exact ite_t (dect (by omega)) (h1 hm h11 _ k2)
    have hd := d_ok hm hp (by omega)
    refine ite_f (decf (by omega)) (sym_ok (z := 0) (by omega) hd fun H12 k12 => nw_i fun H14 b14 k14 z14 => ?_)
    have y12 := k12.size
    have k14' := (k2.trans k12).trans k14
    refine Fix.intro (fun (x : Sl × Int × Int) H' => ∃ (z i : Nat) (l : List Sy), x.2.1 = (z : Int) ∧ x.2.2 = (i : Int) ∧ i ≤ 63 ∧ z ≤ i ∧ Own H' 66 3 x.1 (l.flatMap cS) ∧ l ++ wk z (B.1.drop (i + 1)) = syF B.1 pred ∧ Bk H' b1 57 (ints .i16 B.1) ∧ Keep H H' ∧ ∀ b ∈ fp x.1, b1 < b) (fun x _ => 63 - x.2.2.toNat)
      ⟨0, 0, _, rfl, rfl, by omega, by omega, one_own b14, rfl, (hb.keep k12).keep k14, k14', fun b hb' => by simp [fp] at hb'; omega⟩ ?_
    rintro ⟨t, _, _⟩ H20 ⟨z, i, l, e1, e2, hi, hz, o20, hl, b20, k20, f20⟩ rec hrec
    simp only at e1 e2 o20 f20
    subst e1 e2
    simp only
    have bnd : ∀ {m : List Sy} {r : List Sy}, m ++ r = syF B.1 pred → (m.length + 1) * 4 ≤ 140737488355328 := fun {m r} e => by
      have := congrArg List.length e
      rw [List.length_append] at this
      omega
    by_cases hil : i < 63
    · have hv := mk (i + 1) (by omega) (by omega)
      rw [drop_at (by omega)] at hl
      have gi : ∀ {G : Hp} {K : Int → Prop}, Bk G b1 57 (ints .i16 B.1) → K (B.1.getD (i + 1) 0) → ldI .i16 G (((⟨b1, 0, none⟩ : Addr).add (1 * 1)).add (Int.toNat (i : Int) * 1)) K := fun hG hK => by
        rw [add_mk, add_mk, Int.toNat_natCast]
        exact ldI_i hG (by rw [show 0 + 1 * 1 + i * 1 = i + 1 from by omega]; exact ints_at (by omega)) hK
      generalize B.1.getD (i + 1) 0 = v at hv hl gi
      refine ite_t (dect (by omega)) (Join.intro (fun (x : Sl × Int) H' => ∃ (z : Nat) (l : List Sy), x.2 = (z : Int) ∧ z ≤ i + 1 ∧ Own H' 66 3 x.1 (l.flatMap cS) ∧ l ++ wk z (B.1.drop (i + 2)) = syF B.1 pred ∧ Bk H' b1 57 (ints .i16 B.1) ∧ Keep H H' ∧ ∀ b ∈ fp x.1, b1 < b) ?_ fun J hJ => ⟨by omega, by omega, gi b20 ?_⟩)
      · rintro ⟨t', z'⟩ H25 ⟨z2, l2, q1, q2, q3, q4, q5, q6, q7⟩
        simp only at q1
        subst q1
        rw [show (i : Int) + 1 = ((i + 1 : Nat) : Int) from by omega, w64n (by omega)]
        exact hrec _ _ ⟨z2, i + 1, l2, rfl, rfl, by omega, q2, q3, q4, q5, q6, q7⟩ (by simp; omega)
      · by_cases hv0 : v = 0
        · rw [wk, if_pos hv0] at hl
          refine ite_t (beqi hv0) (hJ _ _ ⟨z + 1, l, by rw [w64 (by omega)]; rfl, by omega, o20, hl, b20, k20, f20⟩)
        · refine ite_f (beqf hv0) ?_
          refine Fix.intro (fun (x : Sl × Int) H' => ∃ (z : Nat) (l : List Sy), x.2 = (z : Int) ∧ z ≤ i ∧ Own H' 66 3 x.1 (l.flatMap cS) ∧ l ++ wk z (v :: B.1.drop (i + 2)) = syF B.1 pred ∧ Bk H' b1 57 (ints .i16 B.1) ∧ Keep H H' ∧ ∀ b ∈ fp x.1, b1 < b) (fun x _ => x.2.toNat) ⟨z, l, rfl, hz, o20, hl, b20, k20, f20⟩ ?_
          rintro ⟨t', _⟩ H33 ⟨z', l', e3, hz', o33, hl', b33, k33, f33⟩ rec2 hrec2
          simp only at e3 o33 f33
          subst e3
          simp only
          have y33 := k33.size
          have e33 := b33.lt
          by_cases h15 : 15 < z'
          · rw [wk_16 (by omega) hv0] at hl'
            refine ite_t (dect (by omega)) (push1 (f := cS) (x := ((240, 0, 0) : Sy)) o33 cS_len cS_ones rfl (by omega) (by omega) (bnd hl') fun t2 H42 o42 c42' f42 => ?_)
            rw [show (z' : Int) - 16 = ((z' - 16 : Nat) : Int) from by omega, w64n (by omega)]
            refine hrec2 _ _ ⟨z' - 16, l' ++ [(240, 0, 0)], rfl, by omega, o42, by rw [List.append_assoc]; exact hl', b33.ch c42' (fun hh => by have := f33 b1 hh; omega), (k33.ch (F := [])).trans c42' (fun b hb' => .inr (by have := f33 b hb'; omega)) |>.keep (by simp), fun b hb' => ?_⟩ (by simp; omega)
            rcases f42 b hb' with h | h
            · exact f33 b h
            · omega
          · rw [wk_small (by omega) hv0] at hl'
            refine ite_f (decf (by omega)) ?_
            rw [w64 (x := v) (by omega)]
            refine sym_ok (z := z') (by omega) (by omega) fun H44 k44 => ?_
            refine push1 (f := cS) (x := smF z' v) (o33.kp k44) cS_len cS_ones rfl (by omega) (by omega) (bnd hl') fun t2 H51 o51 c51 f51 => hJ _ _ ⟨0, l' ++ [smF z' v], rfl, by omega, o51, by rw [List.append_assoc]; exact hl', (b33.keep k44).ch c51 (fun hh => by have := f33 b1 hh; omega), ((k33.trans k44).ch (F := [])).trans c51 (fun b hb' => .inr (by have := f33 b hb'; omega)) |>.keep (by simp), fun b hb' => ?_⟩
            have := k44.size
            rcases f51 b hb' with h | h
            · exact f33 b h
            · omega
    · obtain rfl : i = 63 := by omega
      rw [List.drop_eq_nil_of_le (by omega), wk] at hl
      refine ite_f (decf (by omega)) (Join.intro (fun (x : Sl) H' => Own H' 66 3 x ((syF B.1 pred).flatMap cS) ∧ Keep H H' ∧ ∀ b ∈ fp x, H.size ≤ b) (fun x H' ⟨q1, q2, q3⟩ => h2 hm (by omega) _ _ q1 q2 q3) fun J hJ => ?_)
      have e20 := b20.lt
      by_cases hz0 : 0 < z
      · rw [if_pos hz0] at hl
        refine ite_t (dect (by omega)) (push1 (f := cS) (x := ((0, 0, 0) : Sy)) o20 cS_len cS_ones rfl (by omega) (by omega) (bnd hl) fun t2 H61 o61 c61 f61 => hJ _ _ ⟨by rw [← hl]; exact o61, (k20.ch (F := [])).trans c61 (fun b hb' => .inr (by have := f20 b hb'; omega)) |>.keep (by simp), fun b hb' => ?_⟩)
        rcases f61 b hb' with h | h
        · have := f20 b h; omega
        · have := k20.size; omega
      · rw [if_neg hz0, List.append_nil] at hl
        exact ite_f (decf (by omega)) (hJ _ _ ⟨by rw [← hl]; exact o20, k20, fun b hb' => by have := f20 b hb'; omega⟩)
end
end Go.Proofs.Ytmnoecpnoofdjaa.G
