import Derived.Test.YtacokffnonfacaaPMagnitudeClipx1
import Derived.OpenShut
/- Proved: for every int v and every int8 size the program's Clip answers as the reference's Clip (MagnitudeClip is true at every input). No condition but that the two numbers are of their kinds. -/
namespace Go.Proofs.Ytacokffnonfacaa.Pure
open Go.RowKit Go.Proofs.Ytacokffnonfacaa.PMagnitudeClip Go.Proofs.YtacokffnonfacaaW.PrintWords Go.Proofs.YtacokffnonfacaaW.PrintLast

theorem clip_pow_le {i n : Nat} (h : i ≤ n) : (2 : Nat) ^ i ≤ 2 ^ n := Nat.pow_le_pow_right (by omega) h

/-- The reference's power, from round i on. -/
theorem clip_power_l (n : Nat) (hn : n ≤ 62) (d : Nat) : ∀ (k i : Nat), i + d = n → d < k →
    mosaicref06_power.l0 k n ((2 ^ i : Nat) : Int) i = some ((2 ^ n : Nat) : Int) := by
  induction d with
  | zero =>
    intro k i hi hk
    obtain ⟨k, rfl⟩ : ∃ m, k = m + 1 := ⟨k - 1, by omega⟩
    simp only [mosaicref06_power.l0]
    rw [if_neg (by omega)]
    obtain rfl : i = n := by omega
    rfl
  | succ d ih =>
    intro k i hi hk
    obtain ⟨k, rfl⟩ : ∃ m, k = m + 1 := ⟨k - 1, by omega⟩
    simp only [mosaicref06_power.l0]
    rw [if_pos (by omega)]
    have hp : (2 : Nat) ^ (i + 1) ≤ 2 ^ 62 := clip_pow_le (by omega)
    have hp2 : (2 : Nat) ^ (i + 1) = 2 * 2 ^ i := by rw [Nat.pow_succ]; omega
    have e1 : wrap64 (2 * ((2 ^ i : Nat) : Int)) = ((2 ^ (i + 1) : Nat) : Int) := by
      rw [hp2] at hp ⊢
      unfold wrap64
      have h62 : (2 : Nat) ^ 62 = 4611686018427387904 := rfl
      rw [h62] at hp
      generalize (2 : Nat) ^ i = x at *
      omega
    have e2 : wrap64 ((i : Int) + 1) = ((i + 1 : Nat) : Int) := by unfold wrap64; omega
    rw [e1, e2]
    exact ih k (i + 1) (by omega) (by omega)

theorem clip_power (n : Nat) (hn : n ≤ 62) (k : Nat) (hk : n < k) : mosaicref06_power.f k n = some ((2 ^ n : Nat) : Int) := by
  unfold mosaicref06_power.f
  exact clip_power_l n hn n k 0 (by omega) hk

theorem MagnitudeClip : mosaiclaw06_MagnitudeClip.Pure := by
  intro v s hv hs
  refine ⟨100, ?_⟩
  have hs' := bounds_i8 hs
  have hv' := bounds_i64 hv
  obtain ⟨n, hn, h15⟩ : ∃ n : Nat, (mn (mx s 0) 15).toNat = n ∧ n ≤ 15 := ⟨_, rfl, by unfold mn mx; omega⟩
  have hp1 : (2 : Nat) ^ n ≤ 2 ^ 15 := clip_pow_le h15
  have hp0 : 0 < (2 : Nat) ^ n := Nat.pow_pos (by omega)
  have h2 : (2 : Nat) ^ 15 = 32768 := rfl
  rw [h2] at hp1
  have hc : ((2 ^ n : Nat) : Int) = (2 : Int) ^ n := by simp
  -- the reference
  have href : mosaicref06_Clip.f 100 v s = some (if v > ((2 ^ n : Nat) : Int) - 1 then ((2 ^ n : Nat) : Int) - 1 else if v < -(((2 ^ n : Nat) : Int) - 1) then -(((2 ^ n : Nat) : Int) - 1) else v) := by
    have j1 : mosaicref06_Clip.j1 99 v (n : Int) = some (if v > ((2 ^ n : Nat) : Int) - 1 then ((2 ^ n : Nat) : Int) - 1 else if v < -(((2 ^ n : Nat) : Int) - 1) then -(((2 ^ n : Nat) : Int) - 1) else v) := by
      rw [mosaicref06_Clip.j1, clip_power n (by omega) 98 (by omega)]
      simp only [Option.bind_some]
      generalize (2 : Nat) ^ n = p at *
      have e1 : wrap64 ((p : Int) - 1) = (p : Int) - 1 := by unfold wrap64; omega
      have e2 : wrap64 (-((p : Int) - 1)) = -((p : Int) - 1) := by unfold wrap64; omega
      rw [e1, e2]
      have w16 : ∀ x : Int, -32768 ≤ x → x ≤ 32767 → IntKind.i16.wrap x = x := fun x h1 h2 => IntWalk.i16_in _ (by omega)
      split
      · rw [w16 _ (by omega) (by omega)]
      · split
        · rw [w16 _ (by omega) (by omega)]
        · rw [w16 _ (by omega) (by omega)]
    have ws : wrap64 s = s := by unfold wrap64; omega
    unfold mosaicref06_Clip.f
    rw [ws]
    unfold mn mx at hn
    split
    · rw [mosaicref06_Clip.j0, if_neg (by omega)]
      obtain rfl : n = 0 := by omega
      exact j1
    · rw [mosaicref06_Clip.j0]
      split
      · obtain rfl : n = 15 := by omega
        exact j1
      · obtain rfl : s = (n : Int) := by omega
        exact j1
  unfold mosaiclaw06_MagnitudeClip.f
  rw [href]
  unfold magnitude_Clip.f
  rw [hn, ← hc]
  simp only [Option.bind_some]
  generalize (2 : Nat) ^ n = p at *
  have e0 : wrap64 (p : Int) = (p : Int) := by unfold wrap64; omega
  have e1 : wrap64 ((p : Int) - 1) = (p : Int) - 1 := by unfold wrap64; omega
  have e2 : wrap64 (-((p : Int) - 1)) = -((p : Int) - 1) := by unfold wrap64; omega
  rw [e0, e1, e2, IntWalk.i16_in _ (by unfold mn mx; omega)]
  congr 1
  simp only [beq_iff_eq]
  unfold mn mx
  split <;> split <;> (try split) <;> omega

end Go.Proofs.Ytacokffnonfacaa.Pure
