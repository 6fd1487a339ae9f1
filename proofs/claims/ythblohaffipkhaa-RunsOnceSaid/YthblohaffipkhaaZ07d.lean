/- Layer 7: a block's symbols, of the program and of the document. -/
import Derived.Test.YthblohaffipkhaaZ07s
namespace Go.Proofs.Ythblohaffipkhaa.G
open Go.RowKit
set_option linter.unusedVariables false
set_option linter.unusedSimpArgs false
set_option maxRecDepth 20000

/-- The symbol of a number behind so many zeros. -/
def smF (z : Nat) (v : Int) : Sy := (16 * z + bln v.natAbs, (bln v.natAbs : Int), (bitsF v).toNat)
/-- The symbols of the coefficients that are left, so many zeros behind the last one told. -/
def wk : Nat → List Int → List Sy
  | z, [] => if 0 < z then [(0, 0, 0)] else []
  | z, v :: r => if v = 0 then wk (z + 1) r else List.replicate (z / 16) (240, 0, 0) ++ smF (z % 16) v :: wk 0 r
theorem wk_16 {z : Nat} {v : Int} {r : List Int} (h : 16 ≤ z) (hv : v ≠ 0) : wk z (v :: r) = (240, 0, 0) :: wk (z - 16) (v :: r) := by
  rw [wk, if_neg hv, wk, if_neg hv, show z / 16 = (z - 16) / 16 + 1 from by omega, List.replicate_succ, show z % 16 = (z - 16) % 16 from by omega]
  rfl
theorem wk_small {z : Nat} {v : Int} {r : List Int} (h : z < 16) (hv : v ≠ 0) : wk z (v :: r) = smF z v :: wk 0 r := by
  rw [wk, if_neg hv, show z / 16 = 0 from by omega, show z % 16 = z from by omega]
  rfl
theorem wk_len : ∀ (r : List Int) (z : Nat), (wk z r).length ≤ z + r.length ∧ (0 < z + r.length → 1 ≤ (wk z r).length)
  | [], z => by unfold wk; split <;> simp <;> omega
  | v :: r, z => by
    unfold wk
    have h1 := wk_len r (z + 1)
    have h2 := wk_len r 0
    split
    · simp; omega
    · simp; omega
theorem smF_ok {z : Nat} {v : Int} (hz : z ≤ 15) (hv : -2047 ≤ v ∧ v ≤ 2047) : bln v.natAbs ≤ 11 ∧ smOk (smF z v) := by
  have h11 : bln v.natAbs ≤ 11 := (bln_le _ _).2 (by have : (2 : Nat) ^ 11 = 2048 := rfl; omega)
  have hr := bitsF_range (v := v) (by omega)
  have hp := pow_lt h11
  have p11 : (2 : Nat) ^ 11 = 2048 := rfl
  refine ⟨h11, ?_⟩
  unfold smOk smF
  simp only
  omega
def mayB (B : List Int) : Prop := (-1024 ≤ B.getD 0 0 ∧ B.getD 0 0 ≤ 1023) ∧ ∀ k, 1 ≤ k → k < 64 → -1023 ≤ B.getD k 0 ∧ B.getD k 0 ≤ 1023
/-- What Symbols says: the error; the symbols. -/
def syE (B : List Int) (pred : Int) (dm : Decidable (mayB B)) : Int := if mayB B then (if 11 < bln (B.getD 0 0 - pred).natAbs then 60 else 0) else 3
def syF (B : List Int) (pred : Int) : List Sy := smF 0 (B.getD 0 0 - pred) :: wk 0 (B.drop 1)
theorem syF_len {B : List Int} {pred : Int} (hB : B.length = 64) : 2 ≤ (syF B pred).length ∧ (syF B pred).length ≤ 64 := by
  have := wk_len (B.drop 1) 0
  unfold syF
  simp [hB] at this ⊢
  omega
theorem getD_at {B : List Int} {k : Nat} (h : k < B.length) : B[k]? = some (B.getD k 0) := by
  rw [List.getD_eq_getElem?_getD, List.getElem?_eq_getElem h]; rfl
theorem ints_at {B : List Int} {k : Nat} (h : k < B.length) : (ints .i16 B)[k]? = some (.int .i16 (B.getD k 0)) := by
  unfold ints
  rw [List.getElem?_map, getD_at h]; rfl
section
variable {H : Hp}
theorem sym_ok {z : Nat} {v : Int} {Q : Int × Int × Int → Hp → Prop} (hz : z ≤ 15) (hv : -2047 ≤ v ∧ v ≤ 2047) (h : ∀ H', Keep H H' → Q (((smF z v).1 : Int), (smF z v).2.1, ((smF z v).2.2 : Int)) H') : runs_sym.s (z : Int) v H Q := by
  unfold runs_sym.s
  intro b1 H2 c2 g1 g1'
  have k2 : Keep H H2 := c2.keep (by simp)
  have h11 := (smF_ok hz hv).1
  have hr := bitsF_range (v := v) (by omega)
  refine Bits_ok (by omega) (fun _ => ⟨fun _ _ => rfl, fun H6 c6 => ?_⟩) (fun h => by omega)
  have k6 : Keep H H6 := (k2.ch (F := [])).trans c6 (by simp; omega) |>.keep (by simp)
  have e1 : shlI .u8 (IntKind.wrap .u8 (z : Int)) 4 = ((z * 2 ^ 4 : Nat) : Int) := by
    rw [wu8n (by omega)]
    exact shln (k := .u8) (x := z) (n := 4) (by decide) (wu8n (by omega))
  have hor : (z * 2 ^ 4 ||| bln v.natAbs) = 16 * z + bln v.natAbs := by
    have := Nat.two_pow_add_eq_or_of_lt (i := 4) (b := bln v.natAbs) (by omega) z
    rw [Nat.mul_comm z, ← this]
  have e2 := gor (k := .u8) (x := z * 2 ^ 4) (y := bln v.natAbs) (by show _ < 2 ^ 8; omega) (by show _ < 2 ^ 8; omega) (by rw [hor]; exact wu8n (by omega))
  have := h H6 k6
  unfold smF at this
  simp only at this
  rw [Int.toNat_of_nonneg hr.1] at this
  show Q (Go.bits .or .u8 (shlI .u8 (IntKind.wrap .u8 (z : Int)) 4) (IntKind.wrap .u8 (bln v.natAbs : Int)), (bln v.natAbs : Int), bitsF v) H6
  rw [e1, wu8n (x := bln v.natAbs) (by omega), e2, hor]
  exact this
theorem rSize_ok7 {v : Int} {Q : Int → Hp → Prop} (hv : -9223372036854775807 ≤ v ∧ v ≤ 9223372036854775807) (h : Q (bln v.natAbs : Int) H) : mosaicref07_Size.s v H Q := by
  unfold mosaicref07_Size.s
  refine Join.intro (fun x H' => x = (v.natAbs : Int) ∧ H = H') ?_ fun J hJ => ?_
  rotate_left
  · by_cases h0 : v < 0
    · exact ite_t (dect h0) (hJ _ _ ⟨by rw [w64 (by omega)]; omega, rfl⟩)
    · exact ite_f (decf h0) (hJ _ _ ⟨by omega, rfl⟩)
  rintro _ _ ⟨rfl, rfl⟩
  refine Fix.intro (fun (x : Int × Int) H' => ∃ a i : Nat, x = ((a : Int), (i : Int)) ∧ a ≤ v.natAbs ∧ i + bln a = bln v.natAbs ∧ H = H') (fun x _ => x.1.toNat) ⟨_, 0, rfl, Nat.le_refl _, by omega, rfl⟩ ?_
  rintro _ _ ⟨a, i, rfl, ha, hi, rfl⟩ rec hrec
  simp only
  have h64 : bln v.natAbs ≤ 64 := (bln_le _ _).2 (by have : (2 : Nat) ^ 64 = 18446744073709551616 := rfl; omega)
  by_cases h0 : 0 < a
  · have e : bln a = 1 + bln (a / 2 ^ 1) := by
      by_cases h1 : a = 1
      · subst h1; decide
      · exact bln_shift (k := 1) (by omega)
    refine ite_t (dect (by omega)) ?_
    rw [show Int.tdiv (a : Int) 2 = ((a / 2 : Nat) : Int) from rfl, show (i : Int) + 1 = ((i + 1 : Nat) : Int) from by omega, w64n (by omega), w64n (by omega)]
    exact hrec _ _ ⟨a / 2, i + 1, rfl, by omega, by rw [show a / 2 ^ 1 = a / 2 from rfl] at e; omega, rfl⟩ (by simp; omega)
  · obtain rfl : a = 0 := by omega
    rw [bln_zero] at hi
    refine ite_f (decf (by omega)) ?_
    rw [show i = bln v.natAbs from by omega]
    exact h
theorem rsym_ok {z : Nat} {v : Int} {Q : Int × Int × Int → Hp → Prop} (hz : z ≤ 15) (hv : -2047 ≤ v ∧ v ≤ 2047) (h : ∀ H', Keep H H' → Q (((smF z v).1 : Int), (smF z v).2.1, ((smF z v).2.2 : Int)) H') : mosaicref07_sym.s (z : Int) v H Q := by
  unfold mosaicref07_sym.s
  intro b1 H2 c2 g1 g1'
  have k2 : Keep H H2 := c2.keep (by simp)
  have h11 := (smF_ok hz hv).1
  have hr := bitsF_range (v := v) (by omega)
  have hp := pow_lt h11
  have p11 : (2 : Nat) ^ 11 = 2048 := rfl
  refine rSize_ok7 (by omega) ⟨fun _ _ => rfl, rSize_ok7 (by omega) ⟨fun _ _ => rfl, ?_⟩⟩
  have fin : ∀ x : Int, x = bitsF v → Pv [b1] H2 H2 ∧ Gr [b1] H2 (fun H12 => Q (IntKind.wrap .u8 (IntKind.wrap .i64 ((IntKind.wrap .i64 ((16 : Int) * (z : Int))) + (bln v.natAbs : Int))), IntKind.wrap .i8 (bln v.natAbs : Int), IntKind.wrap .u16 x) H12) := by
    rintro _ rfl
    refine ⟨fun _ _ => rfl, fun H6 c6 => ?_⟩
    have k6 : Keep H H6 := (k2.ch (F := [])).trans c6 (by simp; omega) |>.keep (by simp)
    have := h H6 k6
    unfold smF at this
    simp only at this
    rw [Int.toNat_of_nonneg hr.1] at this
    rw [w64 (x := 16 * (z : Int)) (by omega), w64 (by omega), wu8 (by omega), w8 (by omega), wu16 (by omega), show (16 : Int) * (z : Int) + (bln v.natAbs : Int) = ((16 * z + bln v.natAbs : Nat) : Int) from by omega]
    exact this
  unfold mosaicref07_Bits.s
  by_cases h0 : 0 ≤ v
  · exact ite_t (dect h0) (fin v (by unfold bitsF; rw [if_neg (by omega)]))
  · refine ite_f (decf h0) (rSize_ok7 (by omega) (power7_ok (by omega) (Lt.of (fin _ ?_))))
    unfold bitsF
    rw [if_pos (by omega), w64 (x := ((2 ^ bln v.natAbs : Nat) : Int) - 1) (by omega), w64 (by omega)]
    omega
theorem may_ok {B : List Int} {b1 : Nat} {Q : Bool → Hp → Prop} (hb : Bk H b1 24 (ints .i16 B)) (hB : B.length = 64) (h : ∀ r : Bool, (r = true ↔ mayB B) → Q r H) : runs_may.s (some ⟨b1, 0, none⟩) H Q := by
  unfold runs_may.s
  refine Fix.intro (fun (x : Int) H' => ∃ i : Nat, x = (i : Int) ∧ i ≤ 64 ∧ (0 < i → -1024 ≤ B.getD 0 0 ∧ B.getD 0 0 ≤ 1023) ∧ (∀ k, 1 ≤ k → k < i → -1023 ≤ B.getD k 0 ∧ B.getD k 0 ≤ 1023) ∧ H = H') (fun x _ => 64 - x.toNat) ⟨0, rfl, by omega, fun h => by omega, fun k _ h => by omega, rfl⟩ ?_
  rintro _ _ ⟨i, rfl, hi, p0, pk, rfl⟩ rec hrec
  by_cases hil : i < 64
  · refine ite_t (dect (by omega)) ⟨_, rfl, by omega, by omega, ?_⟩
    rw [Int.toNat_natCast, Nat.mul_one]
    refine ldI_a hb (ints_at (by omega)) ?_
    refine Join.intro (fun x H' => x = decide (i = 0 ∧ (B.getD i 0 < -1024 ∨ 1023 < B.getD i 0) ∨ 0 < i ∧ (B.getD i 0 < -1023 ∨ 1023 < B.getD i 0)) ∧ H = H') ?_ fun J hJ => ?_
    rotate_left
    · by_cases h0 : i = 0
      · refine ite_t (beqi (by omega)) ?_
        by_cases h1 : B.getD i 0 < -1024
        · exact ite_t (dect h1) (hJ _ _ ⟨(dect (.inl ⟨h0, .inl h1⟩)).symm, rfl⟩)
        refine ite_f (decf h1) ?_
        by_cases h2 : 1023 < B.getD i 0
        · exact ite_t (dect h2) (hJ _ _ ⟨(dect (.inl ⟨h0, .inr h2⟩)).symm, rfl⟩)
        exact ite_f (decf h2) (ite_f (decf (by omega)) (hJ _ _ ⟨(decf (by omega)).symm, rfl⟩))
      · refine ite_f (beqf (by omega)) (ite_t (dect (by omega)) ?_)
        by_cases h1 : B.getD i 0 < -1023
        · exact ite_t (dect h1) (hJ _ _ ⟨(dect (.inr ⟨by omega, .inl h1⟩)).symm, rfl⟩)
        refine ite_f (decf h1) (hJ _ _ ⟨?_, rfl⟩)
        by_cases h2 : 1023 < B.getD i 0
        · exact (dect h2).trans (dect (.inr ⟨by omega, .inr h2⟩)).symm
        · exact (decf h2).trans (decf (by omega)).symm
    rintro _ _ ⟨rfl, rfl⟩
    by_cases hbad : i = 0 ∧ (B.getD i 0 < -1024 ∨ 1023 < B.getD i 0) ∨ 0 < i ∧ (B.getD i 0 < -1023 ∨ 1023 < B.getD i 0)
    · refine ite_t (dect hbad) (h false ⟨fun e => (by cases e), fun e => ?_⟩)
      rcases hbad with ⟨h0, h1⟩ | ⟨h0, h1⟩
      · subst h0
        have := e.1
        omega
      · have := e.2 i h0 hil
        omega
    · refine ite_f (decf hbad) ?_
      rw [show (i : Int) + 1 = ((i + 1 : Nat) : Int) from by omega, w64n (by omega)]
      refine hrec _ _ ⟨i + 1, rfl, by omega, fun _ => ?_, fun k h1 h2 => ?_, rfl⟩ (by simp; omega)
      · by_cases h0 : i = 0
        · subst h0; omega
        · exact p0 (by omega)
      · by_cases hk : k < i
        · exact pk k h1 hk
        · obtain rfl : k = i := by omega
          omega
  · obtain rfl : i = 64 := by omega
    exact ite_f (decf (by omega)) (h true ⟨fun _ => ⟨p0 (by omega), pk⟩, fun _ => rfl⟩)
theorem rmay_ok {B : Ints 64} {Q : Bool → Hp → Prop} (h : ∀ (r : Bool) H', (r = true ↔ mayB B.1) → Keep H H' → Q r H') : mosaicref07_May.s B H Q := by
  have hB := B.2
  unfold mosaicref07_May.s
  intro b1 H2 c2 g1 g1' hb
  have k2 : Keep H H2 := c2.keep (by simp)
  have g0 : ∀ {K : Int → Prop}, K (B.1.getD 0 0) → ldI .i16 H2 (⟨b1, 0, none⟩ : Addr) K := fun hK => ldI_i hb (ints_at (by omega)) hK
  refine Join.intro (fun x H' => x = decide (B.1.getD 0 0 < -1024 ∨ 1023 < B.1.getD 0 0) ∧ H2 = H') ?_ fun J hJ => g0 ?_
  rotate_left
  · by_cases h1 : B.1.getD 0 0 < -1024
    · exact ite_t (dect h1) (hJ _ _ ⟨(dect (.inl h1)).symm, rfl⟩)
    refine ite_f (decf h1) (g0 (hJ _ _ ⟨?_, rfl⟩))
    by_cases h2 : 1023 < B.1.getD 0 0
    · exact (dect h2).trans (dect (.inr h2)).symm
    · exact (decf h2).trans (decf (by omega)).symm
  rintro _ _ ⟨rfl, rfl⟩
  by_cases hbad : B.1.getD 0 0 < -1024 ∨ 1023 < B.1.getD 0 0
  · exact ite_t (dect hbad) (h false _ ⟨fun e => (by cases e), fun e => by have := e.1; omega⟩ k2)
  refine ite_f (decf hbad) ?_
  refine Fix.intro (fun (x : Int) H' => ∃ i : Nat, x = (i : Int) ∧ 1 ≤ i ∧ i ≤ 64 ∧ (∀ k, 1 ≤ k → k < i → -1023 ≤ B.1.getD k 0 ∧ B.1.getD k 0 ≤ 1023) ∧ H2 = H') (fun x _ => 64 - x.toNat) ⟨1, rfl, by omega, by omega, fun k _ h => by omega, rfl⟩ ?_
  rintro _ _ ⟨i, rfl, hi0, hi, pk, rfl⟩ rec hrec
  by_cases hil : i < 64
  · have gi : ∀ {K : Int → Prop}, K (B.1.getD i 0) → ldI .i16 H2 ((⟨b1, 0, none⟩ : Addr).add (Int.toNat (i : Int) * 1)) K := fun hK => by
      rw [Int.toNat_natCast, Nat.mul_one]
      exact ldI_a hb (ints_at (by omega)) hK
    refine ite_t (dect (by omega)) (Join.intro (fun x H' => x = decide (B.1.getD i 0 < -1023 ∨ 1023 < B.1.getD i 0) ∧ H2 = H') ?_ fun J hJ => ⟨by omega, by omega, gi ?_⟩)
    rotate_left
    · by_cases h1 : B.1.getD i 0 < -1023
      · exact ite_t (dect h1) (hJ _ _ ⟨(dect (.inl h1)).symm, rfl⟩)
      refine ite_f (decf h1) ⟨by omega, by omega, gi (hJ _ _ ⟨?_, rfl⟩)⟩
      by_cases h2 : 1023 < B.1.getD i 0
      · exact (dect h2).trans (dect (.inr h2)).symm
      · exact (decf h2).trans (decf (by omega)).symm
    rintro _ _ ⟨rfl, rfl⟩
    by_cases hb2 : B.1.getD i 0 < -1023 ∨ 1023 < B.1.getD i 0
    · exact ite_t (dect hb2) (h false _ ⟨fun e => (by cases e), fun e => by have := e.2 i hi0 hil; omega⟩ k2)
    · refine ite_f (decf hb2) ?_
      rw [show (i : Int) + 1 = ((i + 1 : Nat) : Int) from by omega, w64n (by omega)]
      refine hrec _ _ ⟨i + 1, rfl, by omega, by omega, fun k h1 h2 => ?_, rfl⟩ (by simp; omega)
      by_cases hk : k < i
      · exact pk k h1 hk
      · obtain rfl : k = i := by omega
        omega
  · obtain rfl : i = 64 := by omega
    exact ite_f (decf (by omega)) (h true _ ⟨fun _ => ⟨by omega, pk⟩, fun _ => rfl⟩ k2)
end
end Go.Proofs.Ythblohaffipkhaa.G
