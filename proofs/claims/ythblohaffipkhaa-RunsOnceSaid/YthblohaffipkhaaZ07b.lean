/- Layer 7: a list of symbols is a block: Block, of the program and of the document. -/
import Derived.Test.YthblohaffipkhaaZ07a
import Derived.Test.YthblohaffipkhaaZW
namespace Go.Proofs.Ythblohaffipkhaa.G
open Go.RowKit
set_option linter.unusedVariables false
set_option linter.unusedSimpArgs false
set_option maxRecDepth 20000

abbrev Sy := Nat × Int × Nat
def cS (x : Sy) : List Value := c42 (x.1 : Int) x.2.1 (x.2.2 : Int)
theorem cS_len (x : Sy) : (cS x).length = 3 := rfl
theorem cS_ones (x : Sy) : ∀ u ∈ cS x, u.oneCell' = true := one42 _ _ _
def smOk (x : Sy) : Prop := x.1 < 256 ∧ (-128 ≤ x.2.1 ∧ x.2.1 ≤ 127) ∧ x.2.2 < 65536
theorem syms_view {H : Hp} {m : Option Nat} {s : Sl} (h : SlH H m 4 3 (X42 m H) s) : ∃ xs : List Sy, SlV H s 3 cS xs ∧ (∀ x ∈ xs, smOk x) ∧ (s.c = 0 ∨ szL m 4 s.c) := by
  obtain ⟨xs, h1, h2, h3⟩ := h.view (f := cS) (B := smOk) fun cs hx => by
    obtain ⟨a, b, c, e, q1, q2, q3⟩ := hx
    refine ⟨(a.toNat, b, c.toNat), ?_, ?_⟩
    · rw [e, cS]
      simp only
      rw [Int.toNat_of_nonneg q1.1, Int.toNat_of_nonneg q3.1]
    · unfold smOk; simp only; omega
  exact ⟨xs, h1, h2, h3⟩
def zB : List Int := List.replicate 64 0
/-- The block of some symbols, from a state on; and the error. -/
def bF (pred : Int) : List Int → Nat → List Sy → List Int × Nat
  | B, n, [] => if n = 64 then (B, 0) else (zB, 44)
  | B, n, x :: r => if (tF pred B n x.1 x.2.1 x.2.2).1 ≠ 0 then (zB, (tF pred B n x.1 x.2.1 x.2.2).1) else bF pred (tF pred B n x.1 x.2.1 x.2.2).2.1 (tF pred B n x.1 x.2.1 x.2.2).2.2 r
def blkF (pred : Int) (xs : List Sy) : List Int × Nat := bF pred zB 0 xs
theorem drop_cons {α : Type} {l : List α} {i : Nat} {x : α} (h : l[i]? = some x) : l.drop i = x :: l.drop (i + 1) := by
  obtain ⟨h1, h2⟩ := List.getElem?_eq_some_iff.1 h
  rw [List.drop_eq_getElem_cons h1, h2]
section
variable {H : Hp} {a : Sl} {pred : Int} {xs : List Sy}
theorem Block_ok7 {Q : Ints 64 × Int → Hp → Prop} (hp : -32768 ≤ pred ∧ pred ≤ 32767) (hv : SlV H a 3 cS xs) (hx : ∀ x ∈ xs, smOk x) (hl : xs.length ≤ 140737488355328)
    (hQ : ∀ (x : Ints 64) (e : Int) H', x.1 = (blkF pred xs).1 → e = ((blkF pred xs).2 : Int) → Keep H H' → Q (x, e) H') : runs_Block.s a pred H Q := by
  have hn := hv.n
  unfold runs_Block.s
  intro b1 H2 c2 g1 g1'
  have k2 : Keep H H2 := c2.keep (by simp)
  have y2 := k2.size
  refine Begin_ok hp fun k H4 B4 k4 g4 => ⟨Pv.keep k4 (by simp; omega), fun hb1 => ?_⟩
  have e4 := B4.bk.lt
  refine Fix.intro (fun (x : Int) H' => ∃ (i : Nat) (B : List Int) (n : Nat), x = (i : Int) ∧ i ≤ xs.length ∧ Bld7 H' k pred B n ∧ bF pred B n (xs.drop i) = blkF pred xs ∧ Bk H' b1 24 (c24 (zInts 64)) ∧ Keep H H') (fun x _ => xs.length - x.toNat) ⟨0, _, _, rfl, by omega, B4, rfl, hb1, k2.trans k4⟩ ?_
  rintro _ H9 ⟨i, B, n, rfl, hi, B9, hF, z9, k9⟩ rec hrec
  have y9 := k9.size
  by_cases hil : i < xs.length
  · obtain ⟨x, hxi⟩ : ∃ x, xs[i]? = some x := ⟨_, List.getElem?_eq_getElem hil⟩
    obtain ⟨b, o, ha, hA⟩ := (hv.keep k9).get hxi
    obtain ⟨o1, o2, o3⟩ := hx x (List.mem_of_getElem? hxi)
    rw [drop_cons hxi, bF] at hF
    refine ite_t (dect (by omega)) ⟨by omega, by omega, _, ha, ?_⟩
    rw [Int.toNat_natCast]
    refine ⟨_, _, _, hA, ?_⟩
    intro b20 H22 c22 g22 g22'
    have k22 : Keep H9 H22 := c22.keep (by simp)
    refine Take_ok (B9.keep k22) o1 o3 fun H24 B24 c24 => ?_
    have k24 : Keep H H24 := ((k9.trans k22).ch (F := [])).trans c24 (fun j hj => .inr (by simp at hj; omega)) |>.keep (by simp)
    have z24 := (z9.keep k22).ch c24 (by simp; omega)
    by_cases he : (tF pred B n x.1 x.2.1 x.2.2).1 = 0
    · rw [if_neg (by omega)] at hF
      refine ite_f (bnei (by omega)) ?_
      rw [show (i : Int) + 1 = ((i + 1 : Nat) : Int) from by omega, w64n (by omega)]
      exact hrec _ _ ⟨i + 1, _, _, rfl, by omega, B24, hF, z24, k24⟩ (by simp; omega)
    · rw [if_pos he] at hF
      refine ite_t (bnet (by omega)) (stA_full z24 rfl fun H25 b25 s25 => ⟨_, ldA_full b25, hQ _ _ _ ?_ ?_ (k24.same s25 g1)⟩)
      · rw [← hF]; rfl
      · rw [← hF]
  · rw [List.drop_eq_nil_of_le (by omega), bF] at hF
    refine ite_f (decf (by omega)) (Done_ok B9 ?_)
    by_cases h64 : n = 64
    · rw [if_pos h64] at hF
      refine ite_f (by rw [dect h64]; rfl) ⟨_, rfl, ⟨B, B9.len⟩, blk_ldA (o := 0) B9.bk B9.len, stA_full z9 (by rw [ints_length, B9.len]; rfl) fun H37 b37 s37 => ⟨⟨B, B9.len⟩, ldA_full b37, hQ _ _ _ ?_ ?_ (k9.same s37 g1)⟩⟩
      · rw [← hF]
      · rw [← hF]; rfl
    · rw [if_neg h64] at hF
      refine ite_t (by rw [decf h64]; rfl) (stA_full z9 rfl fun H25 b25 s25 => ⟨_, ldA_full b25, hQ _ _ _ ?_ ?_ (k9.same s25 g1)⟩)
      · rw [← hF]; rfl
      · rw [← hF]; rfl
theorem rBlock_ok7 {Q : Ints 64 × Int → Hp → Prop} (hp : -32768 ≤ pred ∧ pred ≤ 32767) (hv : SlV H a 3 cS xs) (hx : ∀ x ∈ xs, smOk x) (hl : xs.length ≤ 140737488355328)
    (hQ : ∀ (x : Ints 64) (e : Int) H', x.1 = (blkF pred xs).1 → e = ((blkF pred xs).2 : Int) → Keep H H' → Q (x, e) H') : mosaicref07_Block.s a pred H Q := by
  have hn := hv.n
  unfold mosaicref07_Block.s
  intro b1 H2 c2 g1 g1'
  have k2 : Keep H H2 := c2.keep (by simp)
  have y2 := k2.size
  refine rBegin_ok hp fun k H4 B4 k4 g4 => ⟨Pv.keep k4 (by simp; omega), fun hb1 => ?_⟩
  have e4 := B4.bk.lt
  refine Fix.intro (fun (x : Int) H' => ∃ (i : Nat) (B : List Int) (n : Nat), x = (i : Int) ∧ i ≤ xs.length ∧ Rbl7 H' k pred B n ∧ bF pred B n (xs.drop i) = blkF pred xs ∧ Bk H' b1 24 (c24 (zInts 64)) ∧ Keep H H') (fun x _ => xs.length - x.toNat) ⟨0, _, _, rfl, by omega, B4, rfl, hb1, k2.trans k4⟩ ?_
  rintro _ H9 ⟨i, B, n, rfl, hi, B9, hF, z9, k9⟩ rec hrec
  have y9 := k9.size
  by_cases hil : i < xs.length
  · obtain ⟨x, hxi⟩ : ∃ x, xs[i]? = some x := ⟨_, List.getElem?_eq_getElem hil⟩
    obtain ⟨b, o, ha, hA⟩ := (hv.keep k9).get hxi
    obtain ⟨o1, o2, o3⟩ := hx x (List.mem_of_getElem? hxi)
    rw [drop_cons hxi, bF] at hF
    refine ite_t (dect (by omega)) ⟨by omega, by omega, _, ha, ?_⟩
    rw [Int.toNat_natCast]
    refine ⟨_, _, _, hA, rTake_ok B9 o1 o3 fun H24 B24 c24 => ?_⟩
    have k24 : Keep H H24 := (k9.ch (F := [])).trans c24 (fun j hj => .inr (by simp at hj; omega)) |>.keep (by simp)
    have z24 := z9.ch c24 (by simp; omega)
    by_cases he : (tF pred B n x.1 x.2.1 x.2.2).1 = 0
    · rw [if_neg (by omega)] at hF
      refine ite_f (bnei (by omega)) ?_
      rw [show (i : Int) + 1 = ((i + 1 : Nat) : Int) from by omega, w64n (by omega)]
      exact hrec _ _ ⟨i + 1, _, _, rfl, by omega, B24, hF, z24, k24⟩ (by simp; omega)
    · rw [if_pos he] at hF
      refine ite_t (bnet (by omega)) (stA_full z24 rfl fun H25 b25 s25 => ⟨_, ldA_full b25, hQ _ _ _ ?_ ?_ (k24.same s25 g1)⟩)
      · rw [← hF]; rfl
      · rw [← hF]
  · rw [List.drop_eq_nil_of_le (by omega), bF] at hF
    refine ite_f (decf (by omega)) ⟨_, rfl, B9.n65 ?_⟩
    by_cases h64 : n = 64
    · rw [if_pos h64] at hF
      refine ite_f (bnei (by omega)) ⟨⟨B, B9.len⟩, blk_ldA (o := 0) B9.bk B9.len, stA_full z9 (by rw [ints_length, B9.len]; rfl) fun H37 b37 s37 => ⟨⟨B, B9.len⟩, ldA_full b37, hQ _ _ _ ?_ ?_ (k9.same s37 g1)⟩⟩
      · rw [← hF]
      · rw [← hF]; rfl
    · rw [if_neg h64] at hF
      refine ite_t (bnet (by omega)) (stA_full z9 rfl fun H25 b25 s25 => ⟨_, ldA_full b25, hQ _ _ _ ?_ ?_ (k9.same s25 g1)⟩)
      · rw [← hF]; rfl
      · rw [← hF]; rfl
end
theorem rSame_ok7 {a b : Sl} {xs ys : List Sy} {H : Hp} {Q : Bool → Hp → Prop} (ha : SlV H a 3 cS xs) (hb : SlV H b 3 cS ys) (hl : xs.length ≤ 140737488355328) (h : ∀ r : Bool, (r = true ↔ xs = ys) → Q r H) : mosaicref07_Same.s a b H Q := by
  unfold mosaicref07_Same.s
  have n1 := ha.n
  have n2 := hb.n
  by_cases hn : xs.length = ys.length
  rotate_left
  · refine ite_t (bnet (by omega)) (h false ⟨fun e => (by cases e), fun e => ?_⟩)
    subst e
    exact absurd rfl hn
  refine ite_f (bnei (by omega)) ?_
  refine Fix.intro (fun (x : Int) H' => ∃ i : Nat, x = (i : Int) ∧ i ≤ xs.length ∧ xs.take i = ys.take i ∧ H = H') (fun x _ => xs.length - x.toNat) ⟨0, rfl, by omega, by simp, rfl⟩ ?_
  rintro _ _ ⟨i, rfl, hi, he, rfl⟩ rec hrec
  by_cases hil : i < xs.length
  · obtain ⟨p, hx⟩ : ∃ x, xs[i]? = some x := ⟨_, List.getElem?_eq_getElem hil⟩
    obtain ⟨q, hy⟩ : ∃ x, ys[i]? = some x := ⟨_, List.getElem?_eq_getElem (by omega)⟩
    obtain ⟨b1, o1, ha1, hA1⟩ := ha.get hx
    obtain ⟨b2, o2, ha2, hA2⟩ := hb.get hy
    refine ite_t (dect (by omega)) ⟨by omega, by omega, _, ha1, ?_⟩
    rw [Int.toNat_natCast]
    refine ⟨_, _, _, hA1, by omega, by omega, _, ha2, _, _, _, hA2, ?_⟩
    by_cases hxy : p = q
    · refine ite_f (by rw [hxy]; simp) ?_
      rw [show (i : Int) + 1 = ((i + 1 : Nat) : Int) from by omega, w64n (by omega)]
      exact hrec _ _ ⟨i + 1, rfl, by omega, by rw [take_snoc' hx, take_snoc' hy, he, hxy], rfl⟩ (by simp; omega)
    · refine ite_t ?_ (h false ⟨fun e => (by cases e), fun e => ?_⟩)
      · obtain ⟨p1, p2, p3⟩ := p
        obtain ⟨q1, q2, q3⟩ := q
        simp at hxy ⊢
        omega
      · subst e
        rw [hx] at hy
        injection hy with hy
        exact absurd hy hxy
  · refine ite_f (decf (by omega)) (h true ⟨fun _ => ?_, fun _ => rfl⟩)
    rw [List.take_of_length_le (by omega), List.take_of_length_le (by omega)] at he
    exact he
end Go.Proofs.Ythblohaffipkhaa.G
