/- Codes of rising length, in plain Lean: their numbers, none begins another, what begins some bits. -/
import Derived.Test.YtbefacccdaafeaaZA
namespace Go.Proofs.Ytbefacccdaafeaa.G
set_option linter.unusedVariables false

section
variable (q : Nat → Nat)
/-- The first code of length l + 1; the place of its value; the codes of the lengths to l, as (length, number). -/
def fcq : Nat → Nat
  | 0 => 0
  | l + 1 => 2 * (fcq l + q l)
def plq : Nat → Nat
  | 0 => 0
  | l + 1 => plq l + q l
def cds : Nat → List (Nat × Nat)
  | 0 => []
  | l + 1 => cds l ++ (List.range (q l)).map fun k => (l + 1, fcq q l + k)
end
section
variable {q : Nat → Nat}
theorem cds_len : ∀ l, (cds q l).length = plq q l
  | 0 => rfl
  | l + 1 => by simp [cds, plq, cds_len l]
theorem cds_get {l k : Nat} (hk : k < q l) : ∀ {m : Nat}, l < m → (cds q m)[plq q l + k]? = some (l + 1, fcq q l + k)
  | 0, h => by omega
  | m + 1, h => by
    rw [cds]
    rcases Nat.lt_or_ge l m with h1 | h1
    · have e := cds_get hk h1
      rw [List.getElem?_append_left (List.getElem?_eq_some_iff.1 e).1]
      exact e
    · obtain rfl : l = m := by omega
      rw [List.getElem?_append_right (by rw [cds_len]; omega), cds_len, show plq q l + k - plq q l = k from by omega, List.getElem?_map, List.getElem?_range hk]
      rfl
theorem cds_of {i n v : Nat} : ∀ {m : Nat}, (cds q m)[i]? = some (n, v) → ∃ l k, l < m ∧ k < q l ∧ n = l + 1 ∧ v = fcq q l + k ∧ i = plq q l + k
  | 0, h => by simp [cds] at h
  | m + 1, h => by
    rw [cds] at h
    rcases Nat.lt_or_ge i (plq q m) with h1 | h1
    · rw [List.getElem?_append_left (by rw [cds_len]; omega)] at h
      obtain ⟨l, k, h2, h3⟩ := cds_of h
      exact ⟨l, k, by omega, h3⟩
    · rw [List.getElem?_append_right (by rw [cds_len]; omega), cds_len, List.getElem?_map] at h
      rcases Nat.lt_or_ge (i - plq q m) (q m) with h2 | h2
      · rw [List.getElem?_range h2] at h
        simp at h
        exact ⟨m, i - plq q m, by omega, h2, h.1.symm, by omega, by omega⟩
      · rw [List.getElem?_eq_none (by simpa using h2)] at h
        simp at h
theorem fcq_far {l : Nat} : ∀ {m : Nat}, l < m → (fcq q l + q l) * 2 ^ (m - l) ≤ fcq q m
  | 0, h => by omega
  | m + 1, h => by
    rw [fcq]
    rcases Nat.lt_or_ge l m with h1 | h1
    · have := fcq_far h1
      rw [show m + 1 - l = (m - l) + 1 from by omega, Nat.pow_succ, ← Nat.mul_assoc]
      omega
    · obtain rfl : l = m := by omega
      rw [show l + 1 - l = 1 from by omega]
      omega
theorem plq_far {l : Nat} : ∀ {m : Nat}, l < m → plq q l + q l ≤ plq q m
  | 0, h => by omega
  | m + 1, h => by
    rw [plq]
    rcases Nat.lt_or_ge l m with h1 | h1
    · have := plq_far h1
      omega
    · obtain rfl : l = m := by omega
      omega
/-- The codes rise, by more than what they begin. -/
theorem cds_up {m i j n v n' v' : Nat} (h : (cds q m)[i]? = some (n, v)) (h' : (cds q m)[j]? = some (n', v')) (hij : i < j) : n ≤ n' ∧ (v + 1) * 2 ^ (n' - n) ≤ v' := by
  obtain ⟨l, k, h1, h2, rfl, rfl, rfl⟩ := cds_of h
  obtain ⟨l', k', h1', h2', rfl, rfl, rfl⟩ := cds_of h'
  rcases Nat.lt_trichotomy l l' with h3 | h3 | h3
  · refine ⟨by omega, ?_⟩
    have := fcq_far (q := q) h3
    rw [show l' + 1 - (l + 1) = l' - l from by omega]
    have h4 : (fcq q l + k + 1) * 2 ^ (l' - l) ≤ (fcq q l + q l) * 2 ^ (l' - l) := Nat.mul_le_mul_right _ (by omega)
    omega
  · subst h3
    refine ⟨by omega, ?_⟩
    rw [show l + 1 - (l + 1) = 0 from by omega]
    omega
  · have := plq_far (q := q) h3
    omega
end
/-! ### codes ahead of bits -/
theorem bl_inj {n v v' : Nat} (h : bl n v = bl n v') (hv : v < 2 ^ n) (hv' : v' < 2 ^ n) : v = v' := by
  have := congrArg num h
  rwa [num_bl, num_bl, Nat.mod_eq_of_lt hv, Nat.mod_eq_of_lt hv'] at this
/-- The table's codes have room: no code is all ones, none too long. -/
def Fits (q : Nat → Nat) : Prop := ∀ l, l < 16 → fcq q l + q l < 2 ^ (l + 1)
theorem cds_fit {q : Nat → Nat} (hq : Fits q) {i n v : Nat} (h : (cds q 16)[i]? = some (n, v)) : 1 ≤ n ∧ n ≤ 16 ∧ v + 1 < 2 ^ n := by
  obtain ⟨l, k, h1, h2, rfl, rfl, rfl⟩ := cds_of h
  have := hq l h1
  omega
/-- The i-th code, of length n and number v, begins these bits. -/
def Hit (q : Nat → Nat) (B : List Bool) (i n v : Nat) : Prop := (cds q 16)[i]? = some (n, v) ∧ n ≤ B.length ∧ B.take n = bl n v
theorem bl_take {n m v : Nat} (h : n ≤ m) : (bl m v).take n = bl n (v / 2 ^ (m - n)) := by
  have := bl_app (b := m - n) (v := v) n
  rw [show n + (m - n) = m from by omega] at this
  rw [this, List.take_append_of_le_length (by rw [bl_len]; omega), List.take_of_length_le (by rw [bl_len]; omega)]
theorem no_pre {q : Nat → Nat} (hq : Fits q) {i j n v n' v' : Nat} (h : (cds q 16)[i]? = some (n, v)) (h' : (cds q 16)[j]? = some (n', v')) (hij : i < j) : bl n (v' / 2 ^ (n' - n)) ≠ bl n v ∧ n ≤ n' := by
  obtain ⟨h1, h2⟩ := cds_up h h' hij
  obtain ⟨_, _, f1⟩ := cds_fit hq h
  obtain ⟨_, _, f2⟩ := cds_fit hq h'
  refine ⟨fun e => ?_, h1⟩
  have h0 : 0 < 2 ^ (n' - n) := Nat.pow_pos (by omega)
  have h3 : v' / 2 ^ (n' - n) < 2 ^ n := by
    rw [Nat.div_lt_iff_lt_mul h0, ← Nat.pow_add, show n + (n' - n) = n' from by omega]
    omega
  have h4 := bl_inj e h3 (by omega)
  have h5 : v + 1 ≤ v' / 2 ^ (n' - n) := (Nat.le_div_iff_mul_le h0).2 h2
  omega
theorem Hit.lt {q : Nat → Nat} (hq : Fits q) {B : List Bool} {i n v j n' v' : Nat} (h : Hit q B i n v) (h' : Hit q B j n' v') : ¬ i < j := fun hij => by
  obtain ⟨h1, h2⟩ := no_pre hq h.1 h'.1 hij
  refine h1 ?_
  rw [← bl_take h2, ← h'.2.2, List.take_take, Nat.min_eq_left h2]
  exact h.2.2
theorem Hit.one {q : Nat → Nat} (hq : Fits q) {B : List Bool} {i n v j n' v' : Nat} (h : Hit q B i n v) (h' : Hit q B j n' v') : i = j ∧ n = n' ∧ v = v' := by
  have h1 := h.lt hq h'
  have h2 := h'.lt hq h
  obtain rfl : i = j := by omega
  have := h.1.symm.trans h'.1
  simp at this
  exact ⟨rfl, this⟩
/-- These bits are the beginning of a longer code. -/
def Opn (q : Nat → Nat) (B : List Bool) : Prop := ∃ (i n v : Nat), (cds q 16)[i]? = some (n, v) ∧ B.length ≤ n ∧ (bl n v).take B.length = B
/-- A code as long as l + 1 that begins the bits, by its number. -/
theorem hit_at {q : Nat → Nat} {B : List Bool} {l k : Nat} (hl : l < 16) (hk : k < q l) (hB : l + 1 ≤ B.length) (e : num (B.take (l + 1)) = fcq q l + k) : Hit q B (plq q l + k) (l + 1) (fcq q l + k) := by
  refine ⟨cds_get hk hl, hB, ?_⟩
  rw [← e]
  have := bl_num (B.take (l + 1))
  rw [List.length_take, Nat.min_eq_left hB] at this
  exact this.symm
theorem hit_num {q : Nat → Nat} (hq : Fits q) {B : List Bool} {i n v : Nat} (h : Hit q B i n v) : ∃ l k, l < 16 ∧ k < q l ∧ n = l + 1 ∧ v = fcq q l + k ∧ i = plq q l + k ∧ num (B.take n) = v := by
  obtain ⟨l, k, h1, h2, h3, h4, h5⟩ := cds_of h.1
  refine ⟨l, k, h1, h2, h3, h4, h5, ?_⟩
  have := cds_fit hq h.1
  rw [h.2.2, num_bl, Nat.mod_eq_of_lt (by omega)]
/-- An open end, by numbers. -/
theorem opn_iff {q : Nat → Nat} (hq : Fits q) {B : List Bool} (hno : ∀ i n v, ¬ Hit q B i n v) : Opn q B ↔ ∃ l, l < 16 ∧ B.length < l + 1 ∧ 0 < q l ∧ num B * 2 ^ (l + 1 - B.length) < fcq q l + q l ∧ fcq q l ≤ num B * 2 ^ (l + 1 - B.length) + (2 ^ (l + 1 - B.length) - 1) := by
  constructor
  · rintro ⟨i, n, v, h1, h2, h3⟩
    obtain ⟨l, k, g1, g2, rfl, rfl, g5⟩ := cds_of h1
    have hlt : B.length < l + 1 := by
      rcases Nat.lt_or_ge B.length (l + 1) with h | h
      · exact h
      · refine absurd (show Hit q B i (l + 1) (fcq q l + k) from ⟨h1, h, ?_⟩) (hno _ _ _)
        rw [List.take_of_length_le (by omega)]
        rw [show B.length = l + 1 from by omega, List.take_of_length_le (by rw [bl_len]; omega)] at h3
        exact h3.symm
    obtain ⟨_, _, f3⟩ := cds_fit hq h1
    have e : num B = (fcq q l + k) / 2 ^ (l + 1 - B.length) := by
      have h4 := congrArg num h3
      rw [bl_take (by omega), num_bl, Nat.mod_eq_of_lt] at h4
      · exact h4.symm
      · rw [Nat.div_lt_iff_lt_mul (Nat.pow_pos (by omega)), ← Nat.pow_add, show B.length + (l + 1 - B.length) = l + 1 from by omega]
        omega
    have h0 : 0 < 2 ^ (l + 1 - B.length) := Nat.pow_pos (by omega)
    have h5 := Nat.div_mul_le_self (fcq q l + k) (2 ^ (l + 1 - B.length))
    have h6 := Nat.lt_mul_div_succ (fcq q l + k) h0
    rw [Nat.mul_comm, Nat.add_mul] at h6
    refine ⟨l, g1, hlt, by omega, ?_, ?_⟩
    · rw [e]; omega
    · rw [e]; omega
  · rintro ⟨l, h1, h2, h3, h4, h5⟩
    have h0 : 0 < 2 ^ (l + 1 - B.length) := Nat.pow_pos (by omega)
    refine ⟨plq q l + (max (num B * 2 ^ (l + 1 - B.length)) (fcq q l) - fcq q l), l + 1, fcq q l + (max (num B * 2 ^ (l + 1 - B.length)) (fcq q l) - fcq q l), cds_get (by omega) h1, by omega, ?_⟩
    rw [bl_take (by omega)]
    have e : (fcq q l + (max (num B * 2 ^ (l + 1 - B.length)) (fcq q l) - fcq q l)) / 2 ^ (l + 1 - B.length) = num B := by
      refine Nat.div_eq_of_lt_le ?_ ?_
      · omega
      · rw [Nat.add_mul]; omega
    rw [e, bl_num]
attribute [irreducible] cds fcq plq
end Go.Proofs.Ytbefacccdaafeaa.G
