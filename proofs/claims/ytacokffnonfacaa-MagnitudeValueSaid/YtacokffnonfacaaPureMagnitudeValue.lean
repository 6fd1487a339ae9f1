import Derived.Test.YtacokffnonfacaaPMagnitudeValuex1
import Derived.OpenShut
/- Proved: for all bits (uint16) and sizes (int8) the program's Value answers as the reference's Value (MagnitudeValue is true at every input). No condition but that the two numbers are of their kinds. -/
namespace Go.Proofs.Ytacokffnonfacaa.Pure
open Go.RowKit Go.Proofs.Ytacokffnonfacaa.PMagnitudeValue Go.Proofs.YtacokffnonfacaaW.PrintWords Go.Proofs.YtacokffnonfacaaW.PrintLast Go.Proofs.YtacokffnonfacaaW.PrintMore

theorem value_pow_le {i n : Nat} (h : i ≤ n) : (2 : Nat) ^ i ≤ 2 ^ n := Nat.pow_le_pow_right (by omega) h

theorem value_power_l (n : Nat) (hn : n ≤ 62) (d : Nat) : ∀ (k i : Nat), i + d = n → d < k →
    mosaicref06_power.l0 k n ((2 ^ i : Nat) : Int) i = some ((2 ^ n : Nat) : Int) := by
  induction d with
  | zero =>
    intro k i hi hk
    obtain ⟨k, rfl⟩ : ∃ m, k = m + 1 := ⟨k - 1, by omega⟩
    simp only [mosaicref06_power.l0]
    rw [if_neg (by omega)]
    obtain rfl : i = n := by omega
    rfl
  | succ d ih =>
    intro k i hi hk
    obtain ⟨k, rfl⟩ : ∃ m, k = m + 1 := ⟨k - 1, by omega⟩
    simp only [mosaicref06_power.l0]
    rw [if_pos (by omega)]
    have hp : (2 : Nat) ^ (i + 1) ≤ 2 ^ 62 := value_pow_le (by omega)
    have hp2 : (2 : Nat) ^ (i + 1) = 2 * 2 ^ i := by rw [Nat.pow_succ]; omega
    have e1 : wrap64 (2 * ((2 ^ i : Nat) : Int)) = ((2 ^ (i + 1) : Nat) : Int) := by
      rw [hp2] at hp ⊢
      unfold wrap64
      have h62 : (2 : Nat) ^ 62 = 4611686018427387904 := rfl
      rw [h62] at hp
      generalize (2 : Nat) ^ i = x at *
      omega
    have e2 : wrap64 ((i : Int) + 1) = ((i + 1 : Nat) : Int) := by unfold wrap64; omega
    rw [e1, e2]
    exact ih k (i + 1) (by omega) (by omega)

theorem value_power (n : Nat) (hn : n ≤ 62) (k : Nat) (hk : n < k) : mosaicref06_power.f k n = some ((2 ^ n : Nat) : Int) := by
  unfold mosaicref06_power.f
  exact value_power_l n hn n k 0 (by omega) hk

/-- The reference's loop over a size's numbers: from place p on. -/
theorem value_loop (h : Nat) (hh0 : 1 ≤ h) (hh : h ≤ 32768) (b : Nat) (hb : b ≤ 65535) (d : Nat) : ∀ (k p : Nat), p + d = h → p ≤ b → d < k →
    mosaicref06_Value.l0 k b h p ((p : Int) - (2 * h - 1)) = some (if b < h then (b : Int) - (2 * h - 1) else b, true) := by
  induction d with
  | zero =>
    intro k p hp hpb hk
    obtain ⟨k, rfl⟩ : ∃ m, k = m + 1 := ⟨k - 1, by omega⟩
    have e : wrap64 (-(h : Int)) = -(h : Int) := by unfold wrap64; omega
    have e2 : wrap64 (b : Int) = b := by unfold wrap64; omega
    have e3 : wrap64 ((h : Int) + b) = h + b := by unfold wrap64; omega
    simp only [mosaicref06_Value.l0]
    rw [e, if_neg (by omega), e2, e3, if_neg (by omega)]
    have e4 : wrap64 ((h : Int) + b - p) = b := by unfold wrap64; omega
    rw [e4]
  | succ d ih =>
    intro k p hp hpb hk
    obtain ⟨k, rfl⟩ : ∃ m, k = m + 1 := ⟨k - 1, by omega⟩
    have e : wrap64 (-(h : Int)) = -(h : Int) := by unfold wrap64; omega
    have e2 : wrap64 (b : Int) = b := by unfold wrap64; omega
    have e3 : wrap64 ((p : Int) + 1) = ((p + 1 : Nat) : Int) := by unfold wrap64; omega
    have e4 : wrap64 ((p : Int) - (2 * h - 1) + 1) = ((p + 1 : Nat) : Int) - (2 * h - 1) := by unfold wrap64; omega
    simp only [mosaicref06_Value.l0]
    rw [e, if_pos (by omega), e2]
    by_cases hq : (p : Int) = b
    · rw [if_pos hq, if_pos (by omega), hq]
    · rw [if_neg hq, e3, e4]
      exact ih k (p + 1) (by omega) (by omega) (by omega)

theorem MagnitudeValue : mosaiclaw06_MagnitudeValue.Pure := by
  intro b s hb hs
  refine ⟨70000, ?_⟩
  have hs' := bounds_i8 hs
  have hb' : 0 ≤ b ∧ b ≤ 65535 := bounds_u16 hb
  obtain ⟨b, rfl⟩ : ∃ m : Nat, b = m := ⟨b.toNat, by omega⟩
  have hwb : wrap64 (b : Int) = b := by unfold wrap64; omega
  unfold mosaiclaw06_MagnitudeValue.f magnitude_Value.f mosaicref06_Value.f
  by_cases h0 : s < 0
  · rw [if_pos h0, if_pos h0, magnitude_Value.j0, mosaicref06_Value.j0]; rfl
  rw [if_neg h0, if_neg h0]
  by_cases h16 : s > 16
  · rw [if_pos h16, if_pos h16, magnitude_Value.j0, mosaicref06_Value.j0]; rfl
  rw [if_neg h16, if_neg h16, if_pos (by omega)]
  obtain ⟨n, rfl⟩ : ∃ m : Nat, s = m := ⟨s.toNat, by omega⟩
  have hn : n ≤ 16 := by omega
  have hwn : wrap64 (n : Int) = n := by unfold wrap64; omega
  rw [hwn, value_power n (by omega) _ (by omega), hwb]
  simp only [Option.bind_some]
  have hp1 : (2 : Nat) ^ n ≤ 2 ^ 16 := value_pow_le hn
  have hp0 : 0 < (2 : Nat) ^ n := Nat.pow_pos (by omega)
  have h2 : (2 : Nat) ^ 16 = 65536 := rfl
  rw [h2] at hp1
  have hshl : shl .i64 1 (n : Int) = ((2 ^ n : Nat) : Int) := by
    unfold shl
    have : min (n : Int).toNat IntKind.i64.bits = n := by simp [IntKind.bits]; omega
    rw [this, Int.one_mul]
    have hc : (2 : Int) ^ n = ((2 ^ n : Nat) : Int) := by simp
    rw [hc]
    generalize (2 : Nat) ^ n = p at *
    exact IntWalk.i64_in _ (by omega)
  rw [hshl]
  by_cases hge : ((2 ^ n : Nat) : Int) ≤ b
  · rw [decide_eq_true (by omega), magnitude_Value.j0, mosaicref06_Value.j0]; rfl
  rw [decide_eq_false (by omega)]
  rw [magnitude_Value.j0, mosaicref06_Value.j0]
  simp only [Bool.false_eq_true, if_false]
  by_cases hn0 : (n : Int) = 0
  · rw [if_pos hn0, if_pos hn0]; rfl
  rw [if_neg hn0, if_neg hn0]
  obtain ⟨m, rfl⟩ : ∃ m, n = m + 1 := ⟨n - 1, by omega⟩
  have e1 : IntKind.i8.wrap (((m + 1 : Nat) : Int) - 1) = (m : Int) := by rw [IntWalk.i8_in _ (by omega)]; omega
  have e2 : wrap64 (((m + 1 : Nat) : Int) - 1) = (m : Int) := by unfold wrap64; omega
  rw [e1, hwn, e2, if_pos (by omega), value_power m (by omega) _ (by omega)]
  simp only [Option.bind_some]
  have hpm : (2 : Nat) ^ (m + 1) = 2 * 2 ^ m := by rw [Nat.pow_succ]; omega
  have hpm0 : 0 < (2 : Nat) ^ m := Nat.pow_pos (by omega)
  have hshr : shr .u16 (b : Int) (m : Int) = ((b / 2 ^ m : Nat) : Int) := by
    unfold shr
    have : min (m : Int).toNat IntKind.u16.bits = m := by simp [IntKind.bits]; omega
    rw [this]
    simp
  rw [hshr, hshl, hpm]
  rw [hpm] at hp1 hge
  clear hshr hshl
  have hlt : b / 2 ^ m = 0 ↔ b < 2 ^ m := by
    rw [Nat.div_eq_zero_iff]; omega
  generalize (2 : Nat) ^ m = h at hp1 hge hpm0 hlt ⊢
  have w1 : wrap64 (2 * (h : Int)) = 2 * h := by unfold wrap64; omega
  have w2 : wrap64 ((2 * h : Int) - 1) = 2 * h - 1 := by unfold wrap64; omega
  have w3 : wrap64 (-(2 * h - 1 : Int)) = ((0 : Nat) : Int) - (2 * h - 1) := by unfold wrap64; omega
  rw [w1, w2, w3]
  have hl := value_loop h (by omega) (by omega) b (by omega) h 69999 0 (by omega) (by omega) (by omega)
  rw [show ((0 : Nat) : Int) = 0 from rfl] at hl ⊢
  rw [hl]
  simp only [Option.bind_some]
  by_cases hbh : b < h
  · rw [if_pos (by omega), if_pos hbh, if_pos (by omega)]
    have w4 : wrap64 (((2 * h : Nat) : Int) - 1) = 2 * h - 1 := by unfold wrap64; omega
    have w5 : wrap64 ((b : Int) - (2 * h - 1)) = b - (2 * h - 1) := by unfold wrap64; omega
    rw [w4, hwb, w5]
    simp
  · rw [if_neg (by omega), if_neg hbh, hwb]
    simp

end Go.Proofs.Ytacokffnonfacaa.Pure
