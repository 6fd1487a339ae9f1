/- Layer 4: tables, why they may not be. -/
import Derived.Test.YtbefacccdaafeaaZRs
import Derived.Test.YtbefacccdaafeaaKmosaiclaw04
namespace Go.Proofs.Ytbefacccdaafeaa.G
open Go.RowKit
set_option linter.unusedVariables false
set_option linter.unusedSimpArgs false

abbrev Cn := Ints 16
def cOk (c : Cn) : Prop := ∀ v ∈ c.1, 0 ≤ v ∧ v ≤ 255
def cnt (c : Cn) (i : Nat) : Nat := (ixI c (i : Int)).toNat
theorem cnt_ok {c : Cn} (h : cOk c) (i : Nat) : ixI c (i : Int) = (cnt c i : Int) ∧ cnt c i ≤ 255 := by
  unfold cnt
  have : 0 ≤ ixI c (i : Int) ∧ ixI c (i : Int) ≤ 255 := by
    unfold ixI
    rw [List.getD_eq_getElem?_getD]
    cases hx : c.1[(i : Int).toNat]? with
    | none => simp
    | some v => exact h v (List.mem_of_getElem? hx)
  omega
def wN (c : Cn) : Nat → Nat
  | 0 => 0
  | i + 1 => wN c i + cnt c i
def wS (c : Cn) : Nat → Nat
  | 0 => 0
  | i + 1 => wS c i + cnt c i * 2 ^ (15 - i)
theorem wN_le {c : Cn} (h : cOk c) : ∀ i, wN c i ≤ 255 * i
  | 0 => Nat.le_refl _
  | i + 1 => by have := wN_le h i; have := (cnt_ok h i).2; unfold wN; omega
theorem wT_le {c : Cn} (h : cOk c) (i : Nat) : cnt c i * 2 ^ (15 - i) ≤ 8355840 := by
  have h1 := (cnt_ok h i).2
  have h2 := pow_lt (show 15 - i ≤ 15 by omega)
  have h3 : (2 : Nat) ^ 15 = 32768 := rfl
  have := Nat.mul_le_mul h1 h2
  omega
theorem wS_le {c : Cn} (h : cOk c) : ∀ i, wS c i ≤ 8355840 * i
  | 0 => Nat.le_refl _
  | i + 1 => by have := wS_le h i; have := wT_le h i; unfold wS; omega
theorem wS_s (c : Cn) (i : Nat) : wS c (i + 1) = wS c i + cnt c i * 2 ^ (15 - i) := rfl
theorem wN_s (c : Cn) (i : Nat) : wN c (i + 1) = wN c i + cnt c i := rfl
theorem weight_ok {c : Cn} {s : Sl} {H : Hp} {Q : Int × Int → Hp → Prop} (hc : cOk c) (h : ∀ H', Keep H H' → Q ((wS c 16 : Int), (wN c 16 : Int)) H') : huff_weight.s c s H Q := by
  unfold huff_weight.s
  intro b1 H2 c2 g1 g2
  have k2 : Keep H H2 := c2.keep (by simp)
  refine Fix.intro (fun (x : Int × Int × Int) H' => ∃ i : Nat, x = ((wS c i : Int), (wN c i : Int), (i : Int)) ∧ i ≤ 16 ∧ H2 = H') (fun x _ => 16 - x.2.2.toNat) ⟨0, rfl, by omega, rfl⟩ ?_
  rintro _ _ ⟨i, rfl, hi, rfl⟩ rec hrec
  simp only
  by_cases h16 : i < 16
  · obtain ⟨e1, e2⟩ := cnt_ok hc i
    have hN := wN_le hc i
    have hS := wS_le hc i
    have hT := wT_le hc i
    have e3 : IntKind.wrap .i64 ((15 : Int) - (i : Int)) = ((15 - i : Nat) : Int) := by rw [show (15 : Int) - (i : Int) = ((15 - i : Nat) : Int) from by omega, w64n (by omega)]
    refine ite_t (dect (by omega)) ⟨by omega, by omega, by rw [e3]; omega, Lt.of (Lt.of ?_)⟩
    rw [e1, e3, w64n (x := cnt c i) (by omega), shln (k := .i64) (by show _ ≤ 64; omega) (w64n (by omega))]
    rw [show (wS c i : Int) + ((cnt c i * 2 ^ (15 - i) : Nat) : Int) = ((wS c (i + 1) : Nat) : Int) from by rw [wS_s]; omega, show (wN c i : Int) + (cnt c i : Int) = ((wN c (i + 1) : Nat) : Int) from by rw [wN_s]; omega, show (i : Int) + 1 = ((i + 1 : Nat) : Int) from by omega]
    rw [w64n (by rw [wS_s]; omega), w64n (by rw [wN_s]; omega), w64n (by omega)]
    exact hrec _ _ ⟨i + 1, rfl, by omega, rfl⟩ (by simp; omega)
  · obtain rfl : i = 16 := by omega
    exact ite_f (decf (by omega)) (h _ k2)
open Classical in
/-- Why a table may not be. -/
noncomputable def Chk4 (c : Cn) (vs : List Nat) : Int := if wN c 16 = 0 ∨ 256 < wN c 16 ∨ wN c 16 ≠ vs.length then 40 else if 65535 < wS c 16 then 41 else if vs.Nodup then 0 else 42
/-- The document's power of two. -/
theorem power_ok {n : Nat} {H : Hp} {Q : Int → Hp → Prop} (hn : n ≤ 62) (h : Q ((2 ^ n : Nat) : Int) H) : mosaicref04_power.s (n : Int) H Q := by
  unfold mosaicref04_power.s
  refine Fix.intro (fun (x : Int × Int) H' => ∃ i : Nat, x = (((2 ^ i : Nat) : Int), (i : Int)) ∧ i ≤ n ∧ H = H') (fun x _ => n - x.2.toNat) ⟨0, rfl, by omega, rfl⟩ ?_
  rintro _ _ ⟨i, rfl, hi, rfl⟩ rec hrec
  simp only
  by_cases hin : i < n
  · have h1 := pow_lt (show i + 1 ≤ 62 by omega)
    have h2 : (2 : Nat) ^ 62 = 4611686018427387904 := rfl
    have e : (2 : Int) * ((2 ^ i : Nat) : Int) = ((2 ^ (i + 1) : Nat) : Int) := by rw [Nat.pow_succ]; omega
    refine ite_t (dect (by omega)) ?_
    rw [e, show (i : Int) + 1 = ((i + 1 : Nat) : Int) from by omega, w64n (by omega), w64n (by omega)]
    exact hrec _ _ ⟨i + 1, rfl, by omega, rfl⟩ (by simp; omega)
  · obtain rfl : i = n := by omega
    exact ite_f (decf (by omega)) h
theorem cells_at {n : Nat} {k : IntKind} {c : Ints n} {r : List Value} {i : Nat} (hi : i < n) : (ints k c.1 ++ r)[i]? = some (.int k (ixI c (i : Int))) := by
  have hl : i < c.1.length := by rw [c.2]; exact hi
  rw [List.getElem?_append_left (by simpa [ints] using hl)]
  unfold ints ixI
  rw [List.getElem?_map, List.getElem?_eq_getElem hl, List.getD_eq_getElem?_getD, Int.toNat_natCast, List.getElem?_eq_getElem hl]
  rfl
theorem rWeight_ok {c : Cn} {s : Sl} {H : Hp} {Q : Int × Int → Hp → Prop} (hc : cOk c) (h : ∀ H', Keep H H' → Q ((wS c 16 : Int), (wN c 16 : Int)) H') : mosaicref04_Weight.s c s H Q := by
  unfold mosaicref04_Weight.s
  intro b1 H2 c2 g1 g2 hbk
  have k2 : Keep H H2 := c2.keep (by simp)
  refine Fix.intro (fun (x : Int × Int × Int) H' => ∃ i : Nat, x = ((wS c i : Int), (wN c i : Int), ((i + 1 : Nat) : Int)) ∧ i ≤ 16 ∧ H2 = H') (fun x _ => 17 - x.2.2.toNat) ⟨0, rfl, by omega, rfl⟩ ?_
  rintro _ _ ⟨i, rfl, hi, rfl⟩ rec hrec
  simp only
  by_cases h16 : i < 16
  · obtain ⟨e1, e2⟩ := cnt_ok hc i
    have hN := wN_le hc i
    have hS := wS_le hc i
    have hT := wT_le hc i
    have e4 : IntKind.wrap .i64 (((i + 1 : Nat) : Int) - 1) = (i : Int) := by rw [show ((i + 1 : Nat) : Int) - 1 = (i : Int) from by omega, w64n (by omega)]
    have e5 : IntKind.wrap .i64 ((16 : Int) - ((i + 1 : Nat) : Int)) = ((15 - i : Nat) : Int) := by rw [show (16 : Int) - ((i + 1 : Nat) : Int) = ((15 - i : Nat) : Int) from by omega, w64n (by omega)]
    have hcell : (c25 c s)[i * 1]? = some (.int .u8 (cnt c i : Int)) := by rw [← e1, Nat.mul_one]; exact cells_at h16
    rw [e4, e5, Int.toNat_natCast]
    refine ite_t (dect (by omega)) ⟨by omega, by omega, ldI_a hbk hcell (power_ok (by omega) ⟨cell_a hbk hcell, by omega, by omega, ldI_a hbk hcell (Lt.of ?_)⟩)⟩
    rw [w64n (x := cnt c i) (by omega), show ((cnt c i : Nat) : Int) * ((2 ^ (15 - i) : Nat) : Int) = ((cnt c i * 2 ^ (15 - i) : Nat) : Int) from by omega, w64n (x := cnt c i * 2 ^ (15 - i)) (by omega)]
    rw [show (wS c i : Int) + ((cnt c i * 2 ^ (15 - i) : Nat) : Int) = ((wS c (i + 1) : Nat) : Int) from by rw [wS_s]; omega, show (wN c i : Int) + (cnt c i : Int) = ((wN c (i + 1) : Nat) : Int) from by rw [wN_s]; omega, show ((i + 1 : Nat) : Int) + 1 = ((i + 1 + 1 : Nat) : Int) from by omega]
    rw [w64n (by rw [wS_s]; omega), w64n (by rw [wN_s]; omega), w64n (by omega)]
    exact hrec _ _ ⟨i + 1, rfl, by omega, rfl⟩ (by simp; omega)
  · obtain rfl : i = 16 := by omega
    exact ite_f (decf (by omega)) (h _ k2)
end Go.Proofs.Ytbefacccdaafeaa.G
