/- Layer 7: a symbol is taken; RunsBuilder. -/
import Derived.Test.YthblohaffipkhaaZ07
import Derived.Test.YthblohaffipkhaaKRunsBuilder
import Derived.Test.YthblohaffipkhaaGT
namespace Go.Proofs.Ythblohaffipkhaa.G
open Go.RowKit
set_option linter.unusedVariables false
set_option linter.unusedSimpArgs false
set_option maxRecDepth 20000

section
variable {H : Hp} {k : Nat} {pred : Int} {B : List Int} {n : Nat}
theorem Take_ok {y b : Nat} {z : Int} {Q : Int → Hp → Prop} (h : Bld7 H k pred B n) (hy : y < 256) (hb : b < 65536) (hQ : ∀ H', Bld7 H' k pred (tF pred B n y z b).2.1 (tF pred B n y z b).2.2 → Ch [k] H H' → Q ((tF pred B n y z b).1 : Int) H') :
    runs_Builder_Take.s (some ⟨k, 0, none⟩) (y : Int) z (b : Int) H Q := by
  have hle := h.le
  have hpr := h.pr
  unfold runs_Builder_Take.s
  intro b1 H2 c2 g1 g1'
  have k2 : Keep H H2 := c2.keep (by simp)
  have h2 := h.keep k2
  have hb1 : ∀ j ∈ [b1], j ≠ k := fun j hj => by have := h.bk.lt; simp at hj; omega
  replace hQ : ∀ H', Bld7 H' k pred (tF pred B n y z b).2.1 (tF pred B n y z b).2.2 → Ch [k] H2 H' → Q ((tF pred B n y z b).1 : Int) H' := fun H' q c => hQ H' q ((k2.ch (F := [k])).trans c (by simp))
  refine Wants_ok h2 hy ⟨fun _ _ => rfl, ?_⟩
  unfold tF at hQ
  by_cases h1 : (wF n y).2 ≠ 0
  · rw [if_pos h1] at hQ
    exact ite_t (bnet (by show ((wF n y).2 : Int) ≠ 0; omega)) (hQ _ h2 (Ch.refl _ _))
  rw [if_neg h1] at hQ
  obtain ⟨q1, q2, q3, q4, q5, q6⟩ := wF_ok (y := y) hle (by omega)
  generalize hw : (wF n y).1 = w at hQ q1 q3 q5 q6 ⊢
  have e1 : shlI .i64 1 (w : Int) = ((2 ^ w : Nat) : Int) := by
    have := shln (k := .i64) (x := 1) (n := w) (by show w ≤ 64; omega) (w64n (by have := pow_lt q1; have h11 : (2 : Nat) ^ 11 = 2048 := rfl; omega))
    rw [show ((1 : Nat) : Int) = (1 : Int) from rfl, Nat.one_mul] at this
    exact this
  refine ite_f (bnei (by show ((wF n y).2 : Int) = 0; omega)) (Join.intro (fun x H' => x = decide (z ≠ w ∨ 2 ^ w ≤ b) ∧ H2 = H') ?_ fun J hJ => ?_)
  rotate_left
  · by_cases g1 : z = w
    · rw [e1, w64n (x := b) (by omega)]
      refine ite_f (bnei g1) ⟨by omega, hJ _ _ ⟨?_, rfl⟩⟩
      by_cases g2 : 2 ^ w ≤ b
      · exact (dect (by omega)).trans (dect (.inr g2)).symm
      · exact (decf (by omega)).trans (decf (by omega)).symm
    · exact ite_t (bnet g1) (hJ _ _ ⟨(dect (.inl g1)).symm, rfl⟩)
  rintro _ _ ⟨rfl, rfl⟩
  by_cases h3 : z ≠ w ∨ 2 ^ w ≤ b
  · rw [if_pos h3] at hQ
    exact ite_t (dect h3) (hQ _ h2 (Ch.refl _ _))
  rw [if_neg h3] at hQ
  have hv := vF_le q1 (show b < 2 ^ w by omega)
  refine ite_f (decf h3) (Join.intro (fun (_ : Unit) H' => Q 0 H') (fun _ _ q => q) fun J9 hJ9 => Join.intro (fun x H' => x = decide (n ≠ 0 ∧ y = 0) ∧ H2 = H') ?_ fun J hJ => ⟨_, rfl, h2.n65 ?_⟩)
  rotate_left
  · by_cases g1 : n = 0
    · exact ite_f (decf (by omega)) (hJ _ _ ⟨(decf (by omega)).symm, rfl⟩)
    · refine ite_t (dect (by omega)) (hJ _ _ ⟨?_, rfl⟩)
      by_cases g2 : y = 0
      · exact (beqi (by omega)).trans (dect ⟨g1, g2⟩).symm
      · exact (beqf (by omega)).trans (decf fun x => g2 x.2).symm
  rintro _ _ ⟨rfl, rfl⟩
  have cfv : (if n = 0 then f1 k else f2 k) = if n = 0 then f1 k else f2 k := rfl
  by_cases h4 : n ≠ 0 ∧ y = 0
  · rw [if_neg h4.1, if_pos h4.2] at hQ
    replace hQ : ∀ H', Bld7 H' k pred B 64 → Ch [k] H2 H' → Q 0 H' := hQ
    refine ite_t (dect h4) ⟨_, rfl, ?_⟩
    refine st_a h2.bk (by rw [List.length_append, ints_length, h2.len]; simp) fun H17 b17 s17 => hJ9 _ _ (hQ _ ⟨?_, h2.len, by omega, hpr⟩ s17.ch)
    rw [tail_set h2.len (j := 1) rfl, if_neg h4.1] at b17
    rw [if_neg (by omega)]
    exact b17
  refine ite_f (decf h4) (Join.intro (fun x H' => x = decide (n ≠ 0 ∧ y = 240) ∧ H2 = H') ?_ fun J hJ => ⟨_, rfl, h2.n65 ?_⟩)
  rotate_left
  · by_cases g1 : n = 0
    · exact ite_f (decf (by omega)) (hJ _ _ ⟨(decf (by omega)).symm, rfl⟩)
    · refine ite_t (dect (by omega)) (hJ _ _ ⟨?_, rfl⟩)
      by_cases g2 : y = 240
      · exact (beqi (by omega)).trans (dect ⟨g1, g2⟩).symm
      · exact (beqf (by omega)).trans (decf fun x => g2 x.2).symm
  rintro _ _ ⟨rfl, rfl⟩
  by_cases h5 : n ≠ 0 ∧ y = 240
  · rw [if_neg h5.1, if_neg (by omega), if_pos h5.2] at hQ
    replace hQ : ∀ H', Bld7 H' k pred B (n + 16) → Ch [k] H2 H' → Q 0 H' := hQ
    have := q4 h5.1 h5.2
    refine ite_t (dect h5) ⟨_, rfl, h2.n65 ?_⟩
    rw [w64 (by omega)]
    refine st_a h2.bk (by rw [List.length_append, ints_length, h2.len]; simp) fun H17 b17 s17 => hJ9 _ _ (hQ _ ⟨?_, h2.len, by omega, hpr⟩ s17.ch)
    rw [tail_set h2.len (j := 1) rfl, if_neg h5.1] at b17
    rw [if_neg (by omega)]
    exact b17
  refine ite_f (decf h5) ?_
  have ez : z = (w : Int) := by omega
  subst ez
  have e4 : shrI .u8 (y : Int) 4 = ((y / 16 : Nat) : Int) := shrn (k := .u8) (x := y) (n := 4) (by decide)
  rw [e4, w64n (x := y / 16) (by omega)]
  refine Value_ok q1 (by omega) ⟨fun _ _ => rfl, _, rfl, ?_⟩
  refine ⟨if n = 0 then f1 k else f2 k, ?_, ?_⟩
  · rw [add_mk, h2.bk.cell]
    exact (tail_get h2.len (j := 2) rfl).trans rfl
  by_cases h6 : n = 0
  · subst h6
    rw [if_pos rfl] at hQ
    refine .inl ⟨some ⟨k, 0, none⟩, by rw [if_pos rfl]; rfl, ?_⟩
    unfold runs_Builder_first.s
    refine ⟨_, rfl, ldI_a h2.bk ((tail_get h2.len (j := 0) rfl).trans rfl) (Lt.of ?_)⟩
    rw [w64 (x := pred) (by omega), w64 (x := vF b w + pred) (by omega), show vF b w + pred = pred + vF b w from by omega]
    refine Join.intro (fun x H' => x = decide (pred + vF b w < -1024 ∨ 1023 < pred + vF b w) ∧ H2 = H') ?_ fun J hJ => ?_
    rotate_left
    · by_cases g1 : pred + vF b w < -1024
      · exact ite_t (dect g1) (hJ _ _ ⟨(dect (.inl g1)).symm, rfl⟩)
      · refine ite_f (decf g1) (hJ _ _ ⟨?_, rfl⟩)
        by_cases g2 : 1023 < pred + vF b w
        · exact (dect g2).trans (dect (.inr g2)).symm
        · exact (decf g2).trans (decf (by omega)).symm
    rintro _ _ ⟨rfl, rfl⟩
    by_cases g : pred + vF b w < -1024 ∨ 1023 < pred + vF b w
    · rw [if_pos g] at hQ
      exact ite_t (dect g) ⟨fun _ _ => rfl, hQ _ h2 (Ch.refl _ _)⟩
    rw [if_neg g] at hQ
    replace hQ : ∀ H', Bld7 H' k pred (B.set 0 (pred + vF b w)) 1 → Ch [k] H2 H' → Q 0 H' := hQ
    have hlen : (ints .i16 B ++ [Value.int .i16 pred, .int .i64 ((0 : Nat) : Int), if 0 = 0 then f1 k else f2 k]).length = 67 := by rw [List.length_append, ints_length, h2.len]; rfl
    refine ite_f (decf g) ⟨by omega, by omega, ?_⟩
    rw [w16 (by omega), add_mk, add_mk]
    refine st_i h2.bk (by rw [hlen]; decide) fun H12 b12 s12 => ?_
    rw [show 0 + 0 + Int.toNat 0 * 1 = 0 from rfl, head_set h2.len (by omega)] at b12
    have hB' : (B.set 0 (pred + vF b w)).length = 64 := by simp [h2.len]
    refine st_a b12 (by rw [List.length_append, ints_length, hB']; simp) fun H13 b13 s13 => ?_
    rw [tail_set hB' (j := 1) rfl] at b13
    refine st_a b13 (by rw [List.length_append, ints_length, hB']; simp) fun H14 b14 s14 => ?_
    rw [tail_set hB' (j := 2) rfl] at b14
    exact ⟨fun j hj => ((s12.trans s13).trans s14).block j (hb1 j hj), hQ _ ⟨b14, hB', by omega, hpr⟩ ((s12.trans s13).trans s14).ch⟩
  · rw [if_neg h6, if_neg (fun x => h4 ⟨h6, x⟩), if_neg (fun x => h5 ⟨h6, x⟩)] at hQ
    replace hQ : ∀ H', Bld7 H' k pred (B.set (n + y / 16) (vF b w)) (n + y / 16 + 1) → Ch [k] H2 H' → Q 0 H' := hQ
    obtain ⟨p1, p2, p3, p4⟩ := q5 h6 (fun x => h4 ⟨h6, x⟩) (fun x => h5 ⟨h6, x⟩)
    refine .inr ⟨some ⟨k, 0, none⟩, by rw [if_neg h6]; rfl, ?_⟩
    unfold runs_Builder_other.s
    have hlen : (ints .i16 B ++ [Value.int .i16 pred, .int .i64 (n : Int), if n = 0 then f1 k else f2 k]).length = 67 := by rw [List.length_append, ints_length, h2.len]; rfl
    refine ⟨_, rfl, h2.n65 ?_⟩
    rw [show (n : Int) + ((y / 16 : Nat) : Int) = ((n + y / 16 : Nat) : Int) from by omega, w64n (by omega)]
    refine st_a h2.bk (by rw [hlen]; decide) fun H5 b5 s5 => ?_
    rw [tail_set h2.len (j := 1) rfl] at b5
    refine ldI_a b5 ((tail_get h2.len (j := 1) rfl).trans rfl) ⟨by omega, by omega, ?_⟩
    rw [w16 (by omega), add_mk, add_mk, Int.toNat_natCast, show 0 + 0 + (n + y / 16) * 1 = n + y / 16 from by omega]
    refine st_i b5 (by rw [List.length_append, ints_length, h2.len]; simp; omega) fun H11 b11 s11 => ?_
    rw [head_set h2.len (by omega)] at b11
    have hB' : (B.set (n + y / 16) (vF b w)).length = 64 := by simp [h2.len]
    refine ldI_a b11 ((tail_get hB' (j := 1) rfl).trans rfl) ?_
    rw [show ((n + y / 16 : Nat) : Int) + 1 = ((n + y / 16 + 1 : Nat) : Int) from by omega, w64n (by omega)]
    refine st_a b11 (by rw [List.length_append, ints_length, hB']; simp) fun H14 b14 s14 => ?_
    rw [tail_set hB' (j := 1) rfl] at b14
    refine ⟨fun j hj => ((s5.trans s11).trans s14).block j (hb1 j hj), hQ _ ⟨?_, hB', by omega, hpr⟩ ((s5.trans s11).trans s14).ch⟩
    rw [if_neg (by omega)]
    rw [if_neg h6] at b14
    exact b14
theorem rTake_ok {y b : Nat} {z : Int} {Q : Int → Hp → Prop} (h : Rbl7 H k pred B n) (hy : y < 256) (hb : b < 65536) (hQ : ∀ H', Rbl7 H' k pred (tF pred B n y z b).2.1 (tF pred B n y z b).2.2 → Ch [k] H H' → Q ((tF pred B n y z b).1 : Int) H') :
    mosaicref07_Builder_Take.s (some ⟨k, 0, none⟩) (y : Int) z (b : Int) H Q := by
  have hle := h.le
  have hpr := h.pr
  unfold mosaicref07_Builder_Take.s
  intro b1 H2 c2 g1 g1'
  have k2 : Keep H H2 := c2.keep (by simp)
  have h2 := h.keep k2
  replace hQ : ∀ H', Rbl7 H' k pred (tF pred B n y z b).2.1 (tF pred B n y z b).2.2 → Ch [k] H2 H' → Q ((tF pred B n y z b).1 : Int) H' := fun H' q c => hQ H' q ((k2.ch (F := [k])).trans c (by simp))
  refine rWants_ok h2 hy ⟨fun _ _ => rfl, ?_⟩
  unfold tF at hQ
  by_cases h1 : (wF n y).2 ≠ 0
  · rw [if_pos h1] at hQ
    exact ite_t (bnet (by show ((wF n y).2 : Int) ≠ 0; omega)) (hQ _ h2 (Ch.refl _ _))
  rw [if_neg h1] at hQ
  obtain ⟨q1, q2, q3, q4, q5, q6⟩ := wF_ok (y := y) hle (by omega)
  generalize hw : (wF n y).1 = w at hQ q1 q3 q5 q6 ⊢
  refine ite_f (bnei (by show ((wF n y).2 : Int) = 0; omega)) (Join.intro (fun x H' => x = decide (z ≠ w ∨ 2 ^ w ≤ b) ∧ H2 = H') ?_ fun J hJ => ?_)
  rotate_left
  · by_cases g1 : z = w
    · rw [w64n (x := w) (by omega), w64n (x := b) (by omega)]
      refine ite_f (bnei g1) (power7_ok (by omega) ⟨fun _ _ => rfl, hJ _ _ ⟨?_, rfl⟩⟩)
      by_cases g2 : 2 ^ w ≤ b
      · exact (dect (by omega)).trans (dect (.inr g2)).symm
      · exact (decf (by omega)).trans (decf (by omega)).symm
    · exact ite_t (bnet g1) (hJ _ _ ⟨(dect (.inl g1)).symm, rfl⟩)
  rintro _ _ ⟨rfl, rfl⟩
  by_cases h3 : z ≠ w ∨ 2 ^ w ≤ b
  · rw [if_pos h3] at hQ
    exact ite_t (dect h3) (hQ _ h2 (Ch.refl _ _))
  rw [if_neg h3] at hQ
  have hv := vF_le q1 (show b < 2 ^ w by omega)
  refine ite_f (decf h3) ?_
  show mosaicref07_Value.s (IntKind.wrap .i64 (b : Int)) (IntKind.wrap .i64 (w : Int)) H2 _
  rw [w64n (x := w) (by omega), w64n (x := b) (by omega)]
  refine rValue_ok q1 (by omega) ⟨fun _ _ => rfl, _, rfl, h2.n65 ?_⟩
  have hlen : (ints .i16 B ++ [Value.int .i64 pred, .int .i64 (n : Int)]).length = 66 := by rw [List.length_append, ints_length, h2.len]; rfl
  by_cases h6 : n = 0
  · subst h6
    rw [if_pos rfl] at hQ
    have p64 : ∀ {K : Int → Prop}, K pred → ldI .i64 H2 ((⟨k, 0, none⟩ : Addr).add 64) K := fun hK => ldI_a h2.bk ((tail_get h2.len (j := 0) rfl).trans rfl) hK
    refine ite_t rfl (Join.intro (fun x H' => x = decide (pred + vF b w < -1024 ∨ 1023 < pred + vF b w) ∧ H2 = H') ?_ fun J hJ => p64 ?_)
    rotate_left
    · rw [w64 (x := pred + vF b w) (by omega)]
      by_cases g1 : pred + vF b w < -1024
      · exact ite_t (dect g1) (hJ _ _ ⟨(dect (.inl g1)).symm, rfl⟩)
      · refine ite_f (decf g1) (p64 (hJ _ _ ⟨?_, rfl⟩))
        rw [w64 (x := pred + vF b w) (by omega)]
        by_cases g2 : 1023 < pred + vF b w
        · exact (dect g2).trans (dect (.inr g2)).symm
        · exact (decf g2).trans (decf (by omega)).symm
    rintro _ _ ⟨rfl, rfl⟩
    by_cases g : pred + vF b w < -1024 ∨ 1023 < pred + vF b w
    · rw [if_pos g] at hQ
      exact ite_t (dect g) (hQ _ h2 (Ch.refl _ _))
    rw [if_neg g] at hQ
    replace hQ : ∀ H', Rbl7 H' k pred (B.set 0 (pred + vF b w)) 1 → Ch [k] H2 H' → Q 0 H' := hQ
    refine ite_f (decf g) (p64 ⟨by omega, by omega, ?_⟩)
    rw [w64 (x := pred + vF b w) (by omega), w16 (by omega), add_mk, add_mk]
    refine st_i h2.bk (by rw [hlen]; decide) fun H12 b12 s12 => ?_
    rw [show 0 + 0 + Int.toNat 0 * 1 = 0 from rfl, head_set h2.len (by omega)] at b12
    have hB' : (B.set 0 (pred + vF b w)).length = 64 := by simp [h2.len]
    refine st_a b12 (by rw [List.length_append, ints_length, hB']; simp) fun H13 b13 s13 => ?_
    rw [tail_set hB' (j := 1) rfl] at b13
    exact hQ _ ⟨b13, hB', by omega, hpr⟩ (s12.trans s13).ch
  rw [if_neg h6] at hQ
  refine ite_f (beqf (by omega)) ?_
  by_cases h4 : y = 0
  · rw [if_pos h4] at hQ
    replace hQ : ∀ H', Rbl7 H' k pred B 64 → Ch [k] H2 H' → Q 0 H' := hQ
    refine ite_t (beqi (by omega)) (st_a h2.bk (by rw [hlen]; decide) fun H17 b17 s17 => hQ _ ⟨?_, h2.len, by omega, hpr⟩ s17.ch)
    rw [tail_set h2.len (j := 1) rfl] at b17
    exact b17
  rw [if_neg h4] at hQ
  refine ite_f (beqf (by omega)) ?_
  by_cases h5 : y = 240
  · rw [if_pos h5] at hQ
    replace hQ : ∀ H', Rbl7 H' k pred B (n + 16) → Ch [k] H2 H' → Q 0 H' := hQ
    have := q4 h6 h5
    refine ite_t (beqi (by omega)) (h2.n65 ?_)
    rw [w64 (by omega)]
    refine st_a h2.bk (by rw [hlen]; decide) fun H17 b17 s17 => hQ _ ⟨?_, h2.len, by omega, hpr⟩ s17.ch
    rw [tail_set h2.len (j := 1) rfl] at b17
    exact b17
  rw [if_neg h5] at hQ
  replace hQ : ∀ H', Rbl7 H' k pred (B.set (n + y / 16) (vF b w)) (n + y / 16 + 1) → Ch [k] H2 H' → Q 0 H' := hQ
  obtain ⟨p1, p2, p3, p4⟩ := q5 h6 h4 h5
  refine ite_f (beqf (by omega)) (h2.n65 ?_)
  rw [w64n (x := y) (by omega), show Int.tdiv (y : Int) 16 = ((y / 16 : Nat) : Int) from rfl, w64n (x := y / 16) (by omega), show (n : Int) + ((y / 16 : Nat) : Int) = ((n + y / 16 : Nat) : Int) from by omega, w64n (x := n + y / 16) (by omega), show ((n + y / 16 : Nat) : Int) + 1 = ((n + y / 16 + 1 : Nat) : Int) from by omega, w64n (x := n + y / 16 + 1) (by omega), w16 (by omega), add_mk, add_mk, Int.toNat_natCast, show 0 + 0 + (n + y / 16) * 1 = n + y / 16 from by omega]
  refine ⟨by omega, by omega, st_i h2.bk (by rw [hlen]; omega) fun H11 b11 s11 => ?_⟩
  rw [head_set h2.len (by omega)] at b11
  have hB' : (B.set (n + y / 16) (vF b w)).length = 64 := by simp [h2.len]
  refine st_a b11 (by rw [List.length_append, ints_length, hB']; simp) fun H14 b14 s14 => ?_
  rw [tail_set hB' (j := 1) rfl] at b14
  exact hQ _ ⟨b14, hB', by omega, hpr⟩ (s11.trans s14).ch
theorem Begin_ok {Q : Option Addr → Hp → Prop} (hp : -32768 ≤ pred ∧ pred ≤ 32767) (hQ : ∀ k H', Bld7 H' k pred (List.replicate 64 0) 0 → Keep H H' → H.size ≤ k → Q (some ⟨k, 0, none⟩) H') : runs_Begin.s pred H Q := by
  unfold runs_Begin.s
  intro b1 H2 c2 g1 g1' hb
  refine st_i hb (by rw [len70]; decide) fun H3 b3 s3 => hQ b1 H3 ⟨?_, by simp, by omega, hp⟩ ((c2.keep (by simp)).same s3 g1) g1
  have e : c70 (zInts 64) pred 0 .nilFunc = ints .i16 (List.replicate 64 0) ++ [.int .i16 pred, .int .i64 0, .nilFunc] := rfl
  rw [e, tail_set (by simp) (j := 2) rfl] at b3
  exact b3
theorem rBegin_ok {Q : Option Addr → Hp → Prop} (hp : -32768 ≤ pred ∧ pred ≤ 32767) (hQ : ∀ k H', Rbl7 H' k pred (List.replicate 64 0) 0 → Keep H H' → H.size ≤ k → Q (some ⟨k, 0, none⟩) H') : mosaicref07_Begin.s pred H Q := by
  unfold mosaicref07_Begin.s
  intro b1 H2 c2 g1 g1' hb
  refine hQ b1 H2 ⟨?_, by simp, by omega, hp⟩ (c2.keep (by simp)) g1
  rw [w64 (by omega)] at hb
  exact hb
theorem blk_ldA {T : TypeId} {b o : Nat} {t : List Value} (h : Bk H b T (ints .i16 B ++ t)) (hB : B.length = 64) : ldA H ((⟨b, 0, none⟩ : Addr).add 0) (ints .i16 B) :=
  ldA_a h fun j v hv => by
    have hj := (List.getElem?_eq_some_iff.1 hv).1
    rw [Nat.zero_add, List.getElem?_append_left hj]
    exact hv
theorem Block_ok {Q : Ints 64 → Hp → Prop} (h : Bld7 H k pred B n) (hQ : ∀ x H', x.1 = B → Keep H H' → Q x H') : runs_Builder_Block.s (some ⟨k, 0, none⟩) H Q := by
  unfold runs_Builder_Block.s
  intro b1 H2 c2 g1 g1'
  have k2 : Keep H H2 := c2.keep (by simp)
  refine ⟨_, rfl, ⟨B, h.len⟩, blk_ldA (o := 0) (h.keep k2).bk h.len, fun H7 c7 => hQ _ _ rfl ?_⟩
  exact (k2.ch (F := [])).trans c7 (by simp; omega) |>.keep (by simp)
end

/-! ### RunsBuilder -/
abbrev Act7 := Int × Nat × Int × Nat
def cA7 (x : Act7) : List Value := c44 x.1 (x.2.1 : Int) x.2.2.1 (x.2.2.2 : Int)
theorem acts_view {H : Hp} {m : Option Nat} {s : Sl} (h : SlH H m 16 4 (X44 m H) s) : ∃ xs : List Act7, SlV H s 4 cA7 xs ∧ (∀ x ∈ xs, x.2.1 < 256 ∧ x.2.2.2 < 65536) ∧ (s.c = 0 ∨ szL m 16 s.c) := by
  obtain ⟨xs, h1, h2, h3⟩ := h.view (f := cA7) (B := fun x => x.2.1 < 256 ∧ x.2.2.2 < 65536) fun cs hx => by
    obtain ⟨a, b, c, d, e, q1, q2, q3, q4⟩ := hx
    refine ⟨(a, b.toNat, c, d.toNat), ?_, ?_, ?_⟩
    · rw [e, cA7]
      simp only
      rw [Int.toNat_of_nonneg q2.1, Int.toNat_of_nonneg q4.1]
    · simp only; omega
    · simp only; omega
  exact ⟨xs, h1, h2, h3⟩
/-- Two builders alike. -/
def Pair7 (H : Hp) (k r : Nat) (pred : Int) : Prop := ∃ B n, Bld7 H k pred B n ∧ Rbl7 H r pred B n
theorem Pair7.ch {H H' : Hp} {k r : Nat} {pred : Int} {F : List Nat} (h : Pair7 H k r pred) (c : Ch F H H') (h1 : k ∉ F) (h2 : r ∉ F) : Pair7 H' k r pred := by
  obtain ⟨B, n, a, b⟩ := h
  exact ⟨B, n, a.ch c h1, b.ch c h2⟩
theorem act_ok {H : Hp} {k r : Nat} {pred : Int} {x : Act7} {Q : Bool → Hp → Prop} (h : Pair7 H k r pred) (hne : k ≠ r) (hx : x.2.1 < 256 ∧ x.2.2.2 < 65536) (hQ : ∀ H', Pair7 H' k r pred → Ch [k, r] H H' → Q true H') :
    mosaiclaw07_act.s (some ⟨k, 0, none⟩) (some ⟨r, 0, none⟩) x.1 (x.2.1 : Int) x.2.2.1 (x.2.2.2 : Int) H Q := by
  obtain ⟨B, n, hb, hr⟩ := h
  unfold mosaiclaw07_act.s
  intro b1 H2 c2 g1 g1'
  have k2 : Keep H H2 := c2.keep (by simp)
  have hb2 := hb.keep k2
  have hr2 := hr.keep k2
  have lb := hb.bk.lt
  have lr := hr.bk.lt
  replace hQ : ∀ H', Pair7 H' k r pred → Ch [k, r] H2 H' → Q true H' := fun H' a c => hQ H' a ((k2.ch (F := [k, r])).trans c fun i hi => .inl hi)
  by_cases h1 : x.1 = 1
  · refine ite_t (beqi h1) (rTake_ok hr2 hx.1 hx.2 fun H4 r4 c4 => ⟨Pv.ch c4 (by simp; omega), ?_⟩)
    refine Take_ok (hb2.ch c4 (by simpa using hne)) hx.1 hx.2 fun H7 b7 c7 => ?_
    have := hQ H7 ⟨_, _, b7, r4.ch c7 (by simpa using fun e => hne e.symm)⟩ ((c4.mono (by simp)).trans c7 (by simp))
    simpa using this
  refine ite_f (beqf h1) ?_
  have same := hQ H2 ⟨B, n, hb2, hr2⟩ (Ch.refl _ _)
  by_cases h2 : x.1 = 2
  · refine ite_t (beqi h2) (Wants_ok hb2 hx.1 ⟨fun _ _ => rfl, rWants_ok hr2 hx.1 (Join.intro (fun b H' => b = true ∧ H2 = H') ?_ fun J hJ => ite_t (beqi rfl) (hJ _ _ ⟨beqi rfl, rfl⟩))⟩)
    rintro _ _ ⟨rfl, rfl⟩
    exact same
  refine ite_f (beqf h2) ?_
  by_cases h3 : x.1 = 3
  · refine ite_t (beqi h3) (Done_ok hb2 (rDone_ok hr2 ?_))
    rw [beq_self_eq_true]
    exact same
  refine ite_f (beqf h3) ?_
  by_cases h4 : x.1 = 4
  · refine ite_t (beqi h4) ⟨_, rfl, ⟨B, hr2.len⟩, blk_ldA (o := 0) hr2.bk hr2.len, Block_ok hb2 fun y H26 hy k26 => ⟨blk_ldA (o := 0) (hr2.keep k26).bk hr2.len, ?_⟩⟩
    show Q (y.1 == B) H26
    rw [hy, beq_self_eq_true]
    exact hQ H26 ⟨B, n, hb2.keep k26, hr2.keep k26⟩ k26.ch
  · exact ite_f (beqf h4) same
theorem RunsBuilder_row (p q : Int) (a2 a3 : Sl) (W : World) (hp : -32768 ≤ p ∧ p ≤ 32767) (hq : -32768 ≤ q ∧ q ≤ 32767) (h2 : SlH W.heap none 16 4 (X44 none W.heap) a2) (h3 : SlH W.heap none 16 4 (X44 none W.heap) a3) :
    mosaiclaw07_RunsBuilder.s p q a2 a3 W.heap (fun r H' => r = true ∧ Keep W.heap H') := by
  obtain ⟨xs, v2, hx, z2⟩ := acts_view h2
  obtain ⟨ys, v3, hy, z3⟩ := acts_view h3
  have n2 := v2.n
  have n3 := v3.n
  have c2 := v2.c
  have c3 := v3.c
  have b2 : xs.length ≤ 140737488351232 := by
    rcases z2 with z | z
    · omega
    · have : a2.c * 16 ≤ 140737488351232 := z
      omega
  have b3 : ys.length ≤ 140737488351232 := by
    rcases z3 with z | z
    · omega
    · have : a3.c * 16 ≤ 140737488351232 := z
      omega
  unfold mosaiclaw07_RunsBuilder.s
  refine Begin_ok hp fun k H2 B2 k2 g2 => Begin_ok hq fun l H4 B4 k4 g4 => Join.intro (fun b H' => b = false ∧ H4 = H') ?_ fun J hJ => ite_f rfl (hJ _ _ ⟨rfl, rfl⟩)
  rintro _ _ ⟨rfl, rfl⟩
  refine ite_f rfl (rBegin_ok hp fun r H9 R9 k9 g9 => rBegin_ok hq fun u H11 R11 k11 g11 => ?_)
  have e2 := B2.bk.lt
  have e4 := B4.bk.lt
  have e9 := R9.bk.lt
  have e11 := R11.bk.lt
  have y2 := k2.size
  have y4 := k4.size
  have y9 := k9.size
  have y11 := k11.size
  have kW : Keep W.heap H11 := ((k2.trans k4).trans k9).trans k11
  refine Fix.intro (fun (x : Int) H' => ∃ i : Nat, x = (i : Int) ∧ i ≤ max xs.length ys.length ∧ Pair7 H' k r p ∧ Pair7 H' l u q ∧ Keep W.heap H') (fun x _ => max xs.length ys.length - x.toNat)
    ⟨0, rfl, by omega, ⟨_, _, ((B2.keep k4).keep k9).keep k11, R9.keep k11⟩, ⟨_, _, (B4.keep k9).keep k11, R11⟩, kW⟩ ?_
  rintro _ H15 ⟨i, rfl, hi, P1, P2, k15⟩ rec hrec
  refine Join.intro (fun b H' => b = decide (i < xs.length ∨ i < ys.length) ∧ H15 = H') ?_ fun J hJ => ?_
  rotate_left
  · by_cases g1 : i < xs.length
    · exact ite_t (dect (by omega)) (hJ _ _ ⟨(dect (.inl g1)).symm, rfl⟩)
    · refine ite_f (decf (by omega)) (hJ _ _ ⟨?_, rfl⟩)
      by_cases g2 : i < ys.length
      · exact (dect (by omega)).trans (dect (.inr g2)).symm
      · exact (decf (by omega)).trans (decf (by omega)).symm
  rintro _ _ ⟨rfl, rfl⟩
  have kch : ∀ {A B : Hp} {a b : Nat}, Keep W.heap A → Ch [a, b] A B → W.heap.size ≤ a → W.heap.size ≤ b → Keep W.heap B := fun {A B a b} h c ha hb => (h.ch (F := [])).trans c (fun i hi => .inr (by simp at hi; omega)) |>.keep (by simp)
  by_cases hin : i < xs.length ∨ i < ys.length
  · refine ite_t (dect hin) (Join.intro (fun (_ : Unit) H' => Pair7 H' k r p ∧ Pair7 H' l u q ∧ Keep W.heap H') ?_ fun J hJ => Join.intro (fun (_ : Unit) H' => Pair7 H' k r p ∧ Pair7 H' l u q ∧ Keep W.heap H') ?_ fun J2 hJ2 => ?_)
    · rintro ⟨⟩ H' ⟨q1, q2, q3⟩
      rw [show (i : Int) + 1 = ((i + 1 : Nat) : Int) from by omega, w64n (by omega)]
      exact hrec _ _ ⟨i + 1, rfl, by omega, q1, q2, q3⟩ (by simp; omega)
    · rintro ⟨⟩ H' ⟨q1, q2, q3⟩
      by_cases g : i < ys.length
      · obtain ⟨b, o, ha, hA⟩ := (v3.keep q3).get (List.getElem?_eq_getElem g)
        refine ite_t (dect (by omega)) ⟨by omega, by omega, _, ha, ?_⟩
        rw [Int.toNat_natCast]
        refine ⟨_, _, _, _, hA, act_ok (x := ys[i]) q2 (by omega) (hy _ (List.getElem_mem g)) fun H37 p37 c37 => ite_f rfl (hJ _ _ ⟨q1.ch c37 (by simp; omega) (by simp; omega), p37, kch q3 c37 (by omega) (by omega)⟩)⟩
      · exact ite_f (decf (by omega)) (hJ _ _ ⟨q1, q2, q3⟩)
    · by_cases g : i < xs.length
      · obtain ⟨b, o, ha, hA⟩ := (v2.keep k15).get (List.getElem?_eq_getElem g)
        refine ite_t (dect (by omega)) ⟨by omega, by omega, _, ha, ?_⟩
        rw [Int.toNat_natCast]
        refine ⟨_, _, _, _, hA, act_ok (x := xs[i]) P1 (by omega) (hx _ (List.getElem_mem g)) fun H37 p37 c37 => ite_f rfl (hJ2 _ _ ⟨p37, P2.ch c37 (by simp; omega) (by simp; omega), kch k15 c37 (by omega) (by omega)⟩)⟩
      · exact ite_f (decf (by omega)) (hJ2 _ _ ⟨P1, P2, k15⟩)
  · obtain ⟨B, n, hb, hr⟩ := P1
    obtain ⟨C, m, hc, hu⟩ := P2
    refine ite_f (decf hin) ⟨_, rfl, ⟨B, hr.len⟩, blk_ldA (o := 0) hr.bk hr.len, Block_ok hb fun y H55 hy k55 => ⟨blk_ldA (o := 0) (hr.keep k55).bk hr.len, ite_t ?_ ⟨_, rfl, ⟨C, hu.len⟩, blk_ldA (o := 0) (hu.keep k55).bk hu.len, Block_ok (hc.keep k55) fun y2 H62 hy2 k62 => ⟨blk_ldA (o := 0) ((hu.keep k55).keep k62).bk hu.len, ite_t ?_ ?_⟩⟩⟩⟩
    · show (y.1 == B) = true
      rw [hy, beq_self_eq_true]
    · show (y2.1 == C) = true
      rw [hy2, beq_self_eq_true]
    · refine Done_ok ((hb.keep k55).keep k62) (rDone_ok ((hr.keep k55).keep k62) (ite_t (beq_self_eq_true _) (Done_ok ((hc.keep k55).keep k62) (rDone_ok ((hu.keep k55).keep k62) ⟨beq_self_eq_true _, (k15.trans k55).trans k62⟩))))
end Go.Proofs.Ythblohaffipkhaa.G
