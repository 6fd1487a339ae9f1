/- Layer 4: codes as texts of the signs 0 and 1; the document's More and Number. -/
import Derived.Test.YtbefacccdaafeaaZ04b
import Derived.Test.YtbefacccdaafeaaZ04p
namespace Go.Proofs.Ytbefacccdaafeaa.G
open Go.RowKit
set_option linter.unusedVariables false
set_option linter.unusedSimpArgs false

/-! ### texts -/
def tx (l : List Bool) : ByteArray := bytesOf (l.map fun b => 48 + b.toNat)
theorem bytesOf_app (a b : List Nat) : bytesOf a ++ bytesOf b = bytesOf (a ++ b) := by
  apply ByteArray.ext
  rw [ByteArray.data_append]
  simp [bytesOf]
theorem bytesOf_take (l : List Nat) (i : Nat) : (bytesOf l).extract 0 i = bytesOf (l.take i) := by
  apply ByteArray.ext
  rw [ByteArray.data_extract]
  apply Array.toList_inj.1
  simp [bytesOf]
theorem tx_size (l : List Bool) : (tx l).size = l.length := by unfold tx; rw [bytesOf_size, List.length_map]
theorem tx_app (a b : List Bool) : tx a ++ tx b = tx (a ++ b) := by unfold tx; rw [bytesOf_app, List.map_append]
theorem tx_take (l : List Bool) (i : Nat) : (tx l).extract 0 i = tx (l.take i) := by unfold tx; rw [bytesOf_take, List.map_take]
theorem tx_0 : (⟨#[48]⟩ : ByteArray) = tx [false] := rfl
theorem tx_1 : (⟨#[49]⟩ : ByteArray) = tx [true] := rfl
theorem tx_nil : (⟨#[]⟩ : ByteArray) = tx [] := rfl
theorem bt_tx {l : List Bool} {i : Nat} {b : Bool} (h : l[i]? = some b) : bt (tx l) (i : Int) = ((48 + b.toNat : Nat) : Int) := by
  have hi := (List.getElem?_eq_some_iff.1 h).1
  have e := (List.getElem?_eq_some_iff.1 h).2
  have hs : i < (tx l).size := by rw [tx_size]; exact hi
  have hb : ∀ b : Bool, (UInt8.ofNat (48 + b.toNat)).toNat = 48 + b.toNat := by decide
  unfold bt
  rw [Int.toNat_natCast, dif_pos hs]
  have : (tx l)[i]'hs = UInt8.ofNat (48 + b.toNat) := by
    show (tx l).data[i]'hs = _
    simp only [tx, bytesOf, List.getElem_toArray, List.getElem_map, e]
  rw [this, hb]
theorem tx_inj {a b : List Bool} (h : tx a = tx b) : a = b := by
  have hl : a.length = b.length := by have := congrArg ByteArray.size h; rwa [tx_size, tx_size] at this
  refine List.ext_getElem hl fun i h1 h2 => ?_
  have e1 := bt_tx (List.getElem?_eq_getElem h1)
  have e2 := bt_tx (List.getElem?_eq_getElem h2)
  rw [h, e2] at e1
  have hb : ∀ x y : Bool, ((48 + x.toNat : Nat) : Int) = ((48 + y.toNat : Nat) : Int) → y = x := by decide
  exact hb _ _ e1

/-! ### one more -/
theorem bl_more {n v i : Nat} (hi : i < n) (h0 : (bl n v)[i]? = some false) (h1 : ∀ j, i < j → j < n → (bl n v)[j]? = some true) : (bl n v).take i ++ [true] ++ List.replicate (n - i - 1) false = bl n (v + 1) := by
  obtain ⟨m, rfl⟩ : ∃ m, n = i + (m + 1) := ⟨n - i - 1, by omega⟩
  have e := bl_app (b := m + 1) (v := v) i
  rw [e, List.getElem?_append_right (by rw [bl_len]; omega), bl_len, Nat.sub_self] at h0
  have h0' : v.testBit m = false := by simpa [bl] using h0
  have h2 : bl m v = List.replicate m true := by
    refine List.ext_getElem (by rw [bl_len]; simp) fun j g1 g2 => ?_
    rw [bl_len] at g1
    have h3 := h1 (i + 1 + j) (by omega) (by omega)
    rw [e, List.getElem?_append_right (by rw [bl_len]; omega), bl_len, show i + 1 + j - i = j + 1 from by omega, bl, List.getElem?_cons_succ] at h3
    rw [List.getElem_replicate]
    exact (List.getElem?_eq_some_iff.1 h3).2
  have h3 : v % 2 ^ m = 2 ^ m - 1 := by
    have := congrArg num h2
    rwa [num_bl, num_ones] at this
  have hp : 0 < 2 ^ m := Nat.pow_pos (by omega)
  have h4 : v % 2 ^ (m + 1) = 2 ^ m - 1 := by
    have h5 : v.testBit m = decide (v / 2 ^ m % 2 = 1) := Nat.testBit_eq_decide_div_mod_eq
    rw [h5] at h0'
    have h6 : v / 2 ^ m % 2 = 0 := by
      have := of_decide_eq_false h0'
      omega
    rw [Nat.pow_succ, Nat.mod_mul, h6, h3]
    omega
  have h7 : v + 1 = v / 2 ^ (m + 1) * 2 ^ (m + 1) + 2 ^ m := by
    have := Nat.div_add_mod v (2 ^ (m + 1))
    rw [Nat.mul_comm] at this
    omega
  have h8 : 2 ^ m < 2 ^ (m + 1) := by rw [Nat.pow_succ]; omega
  have h9 : bl (m + 1) (2 ^ m) = true :: List.replicate m false := by
    rw [bl]
    congr 1
    · rw [Nat.testBit_two_pow]; simp
    · have : bl m (2 ^ m) = bl m 0 := by rw [← bl_mod (Nat.le_refl m)]; simp
      rw [this]
      refine List.ext_getElem (by rw [bl_len]; simp) fun j g1 g2 => ?_
      have hz : ∀ n : Nat, bl n 0 = List.replicate n false := by
        intro n
        induction n with
        | zero => rfl
        | succ n ih => rw [bl, ih, Nat.zero_testBit]; rfl
      rw [List.getElem_of_eq (hz m)]
  have e2 := bl_put (n := i) (m := m + 1) (x := v / 2 ^ (m + 1)) (y := 2 ^ m) h8
  rw [h7, e2, h9, e, List.take_append_of_le_length (by rw [bl_len]; omega), List.take_of_length_le (by rw [bl_len]; omega), show i + (m + 1) - i - 1 = m from by omega, List.append_assoc]
  rfl
theorem bl_zero : ∀ n : Nat, bl n 0 = List.replicate n false
  | 0 => rfl
  | n + 1 => by rw [bl, bl_zero n, Nat.zero_testBit]; rfl
theorem bl_pad {n m v : Nat} (h : n ≤ m) : bl n v ++ List.replicate (m - n) false = bl m (v * 2 ^ (m - n)) := by
  have := bl_put (n := n) (m := m - n) (x := v) (y := 0) (Nat.pow_pos (by omega))
  rw [Nat.add_zero, bl_zero, show n + (m - n) = m from by omega] at this
  exact this.symm
theorem More_ok {n v : Nat} {H : Hp} {Q : ByteArray → Hp → Prop} (hn : n ≤ 1000) (hv : v + 1 < 2 ^ n) (h : Q (tx (bl n (v + 1))) H) : mosaicref04_More.s (tx (bl n v)) H Q := by
  unfold mosaicref04_More.s
  rw [tx_size, bl_len]
  refine Fix.intro (fun (x : Int) H' => ∃ i : Nat, x = (i : Int) - 1 ∧ i ≤ n ∧ (∀ j, i ≤ j → j < n → (bl n v)[j]? = some true) ∧ H = H') (fun x _ => (x + 1).toNat) ⟨n, by rw [w64 (by omega)], by omega, fun j h1 h2 => by omega, rfl⟩ ?_
  rintro _ _ ⟨i, rfl, hi, hone, rfl⟩ rec hrec
  cases i with
  | zero =>
    exfalso
    have h2 : bl n v = List.replicate n true := by
      refine List.ext_getElem (by rw [bl_len]; simp) fun j g1 g2 => ?_
      rw [bl_len] at g1
      rw [List.getElem_replicate]
      exact (List.getElem?_eq_some_iff.1 (hone j (by omega) g1)).2
    have h3 := congrArg num h2
    rw [num_bl, num_ones, Nat.mod_eq_of_lt (by omega)] at h3
    omega
  | succ i =>
    rw [show ((i + 1 : Nat) : Int) - 1 = (i : Int) from by omega] at hrec ⊢
    have hb : ∃ b, (bl n v)[i]? = some b := ⟨_, List.getElem?_eq_getElem (by rw [bl_len]; omega)⟩
    obtain ⟨b, hb⟩ := hb
    refine ite_t (dect (by omega)) ⟨by omega, by omega, ?_⟩
    rw [bt_tx hb]
    cases b with
    | true =>
      refine ite_f (by decide) ?_
      refine hrec _ _ ⟨i, by rw [w64 (by omega)], by omega, fun j h1 h2 => ?_, rfl⟩ (by rw [w64 (by omega)]; omega)
      rcases Nat.eq_or_lt_of_le h1 with rfl | h1
      · exact hb
      · exact hone j (by omega) h2
    | false =>
      refine ite_t (by decide) ⟨by omega, by omega, ?_⟩
      rw [Int.toNat_natCast, tx_take, tx_1, tx_app, tx_size, tx_size]
      refine ⟨by simp [bl_len]; omega, Lt.of ?_⟩
      refine Fix.intro (fun (x : ByteArray) H' => ∃ k : Nat, x = tx ((bl n v).take i ++ [true] ++ List.replicate k false) ∧ i + 1 + k ≤ n ∧ H = H') (fun x _ => n - x.size) ⟨0, by simp, by omega, rfl⟩ ?_
      rintro _ _ ⟨k, rfl, hk, rfl⟩ rec2 hrec2
      have hsz : (tx ((bl n v).take i ++ [true] ++ List.replicate k false)).size = i + 1 + k := by
        rw [tx_size]; simp [bl_len]; omega
      rw [hsz]
      by_cases hkn : i + 1 + k < n
      · refine ite_t (dect (by omega)) ⟨by rw [tx_0, tx_size]; simp; omega, hrec2 _ _ ⟨k + 1, ?_, by omega, rfl⟩ ?_⟩
        · rw [tx_0, tx_app, List.append_assoc _ _ [false], ← List.replicate_succ']
        · rw [tx_0, tx_app, tx_size, hsz]; simp [bl_len]; omega
      · refine ite_f (decf (by omega)) ?_
        have e := bl_more (n := n) (v := v) (i := i) (by omega) hb fun j h1 h2 => hone j h1 h2
        rw [show n - i - 1 = k from by omega] at e
        rw [e]
        exact h
theorem Number_ok {l : List Bool} {H : Hp} {Q : Int → Hp → Prop} (hl : l.length ≤ 62) (h : Q (num l : Int) H) : mosaicref04_Number.s (tx l) H Q := by
  unfold mosaicref04_Number.s
  rw [tx_size]
  refine Fix.intro (fun (x : Int × Int) H' => ∃ i : Nat, x = ((num (l.take i) : Int), (i : Int)) ∧ i ≤ l.length ∧ H = H') (fun x _ => l.length - x.2.toNat) ⟨0, rfl, by omega, rfl⟩ ?_
  rintro _ _ ⟨i, rfl, hi, rfl⟩ rec hrec
  simp only
  by_cases hil : i < l.length
  · refine ite_t (dect (by omega)) (Join.intro (fun x H' => x = (num (l.take (i + 1)) : Int) ∧ H = H') ?_ ?_)
    · rintro _ _ ⟨rfl, rfl⟩
      rw [show (i : Int) + 1 = ((i + 1 : Nat) : Int) from by omega, w64n (by omega)]
      exact hrec _ _ ⟨i + 1, rfl, by omega, rfl⟩ (by simp; omega)
    · intro J hJ
      have hb := List.getElem?_eq_getElem hil
      have e := num_take hb
      have h1 := num_lt (l.take (i + 1))
      have h2 := pow_lt (show (l.take (i + 1)).length ≤ 62 by simp; omega)
      have h3 : (2 : Nat) ^ 62 = 4611686018427387904 := rfl
      refine ⟨by omega, by omega, ?_⟩
      rw [bt_tx hb]
      generalize l[i] = b at e
      cases b with
      | true =>
        simp at e
        refine ite_t (by decide) (Lt.of (hJ _ _ ⟨?_, rfl⟩))
        rw [w64 (x := 2 * _) (by omega), w64 (by omega)]
        omega
      | false =>
        simp at e
        refine ite_f (by decide) (hJ _ _ ⟨?_, rfl⟩)
        rw [w64 (x := 2 * _) (by omega)]
        omega
  · rw [List.take_of_length_le (by omega)] at *
    exact ite_f (decf (by omega)) h
end Go.Proofs.Ytbefacccdaafeaa.G
