/- Layer 14: how many blocks a unit has; walks one behind the other. -/
import Derived.Test.YtlonijlcddlhjaaZ14s
namespace Go.Proofs.Ytlonijlcddlhjaa.G
open Go.RowKit
set_option linter.unusedVariables false
set_option linter.unusedSimpArgs false

theorem cat_add {α : Type} (f : Nat → List α) (a : Nat) : ∀ m, cat f (a + m) = cat f a ++ cat (fun k => f (a + k)) m
  | 0 => by simp [cat]
  | m + 1 => by
    show cat f (a + m) ++ f (a + m) = _
    rw [cat_add f a m, cat, List.append_assoc]
theorem cat_le {α : Type} (f : Nat → List α) {a b : Nat} (h : a ≤ b) : (cat f a).length ≤ (cat f b).length := by
  obtain ⟨m, rfl⟩ : ∃ m, b = a + m := ⟨b - a, by omega⟩
  rw [cat_add, List.length_append]
  omega
section
variable {w h : Int} {cs : List Cp} {ps : List Pa}
/-- So many blocks has a unit. -/
def eachL (cs : List Cp) (ps : List Pa) : Nat := if ps.length = 1 then 1 else (uSum cs ps).toNat
theorem parts_len (hP : Prt w h cs ps = 0) (col row : Int) : ∀ i, i ≤ ps.length → 0 ≤ uSum cs (ps.take i) ∧ (cat (partL w h cs ps col row) i).length = (uSum cs (ps.take i)).toNat
  | 0, _ => by simp [uSum, cat]
  | i + 1, hi => by
    obtain ⟨h0, ih⟩ := parts_len hP col row i (by omega)
    obtain ⟨hC, fr, hL, hB, hU⟩ := prt_fr hP
    obtain ⟨p, hp⟩ : ∃ p, ps[i]? = some p := ⟨_, get_some (by omega)⟩
    obtain ⟨pc0, pc1⟩ := part_in hB hp
    obtain ⟨c, hc⟩ : ∃ c, cs[p.comp.toNat]? = some c := ⟨_, get_some (by omega)⟩
    obtain ⟨⟨ch1, ch4⟩, cv1, cv4⟩ := fr.fac c (List.mem_of_getElem? hc)
    obtain ⟨m1, m16⟩ := mul16 ⟨ch1, ch4⟩ ⟨cv1, cv4⟩
    rw [cat_len, ih, uSum_next hp, hv_at hc, partL_eq hp hc, List.length_map, List.length_range]
    omega
theorem unit_len (hP : Prt w h cs ps = 0) (col row : Int) : (unitL w h cs ps col row).length = eachL cs ps := by
  unfold unitL eachL
  split
  · rfl
  · rw [(parts_len hP col row ps.length (Nat.le_refl _)).2, List.take_length]
theorem each_le (hP : Prt w h cs ps = 0) : 1 ≤ eachL cs ps ∧ eachL cs ps ≤ 10 := by
  obtain ⟨hC, fr, hL, hB, hU⟩ := prt_fr hP
  unfold eachL
  split
  · omega
  · rename_i h1
    obtain ⟨h0, _⟩ := parts_len hP 0 0 ps.length (Nat.le_refl _)
    rw [List.take_length] at h0
    have e1 := (parts_len hP 0 0 1 (by omega)).1
    refine ⟨?_, by omega⟩
    have : 1 ≤ uSum cs ps := by
      have hall : ∀ i, 1 ≤ i → i ≤ ps.length → 1 ≤ uSum cs (ps.take i) := by
        intro i
        induction i with
        | zero => omega
        | succ i ih =>
          intro _ hi
          obtain ⟨p, hp⟩ : ∃ p, ps[i]? = some p := ⟨_, get_some (by omega)⟩
          obtain ⟨pc0, pc1⟩ := part_in hB hp
          obtain ⟨c, hc⟩ : ∃ c, cs[p.comp.toNat]? = some c := ⟨_, get_some (by omega)⟩
          obtain ⟨⟨ch1, ch4⟩, cv1, cv4⟩ := fr.fac c (List.mem_of_getElem? hc)
          obtain ⟨m1, m16⟩ := mul16 ⟨ch1, ch4⟩ ⟨cv1, cv4⟩
          have := (parts_len hP 0 0 i (by omega)).1
          rw [uSum_next hp, hv_at hc]
          omega
      have := hall ps.length (by omega) (Nat.le_refl _)
      rwa [List.take_length] at this
    omega
theorem cat_mul {α : Type} {f : Nat → List α} {n : Nat} (hf : ∀ k, (f k).length = n) : ∀ m, (cat f m).length = m * n
  | 0 => by simp [cat]
  | m + 1 => by rw [cat_len, cat_mul hf m, hf, Nat.add_mul]; omega
theorem walk_len (hP : Prt w h cs ps = 0) (f m : Nat) : (walkL w h cs ps f m).length = m * eachL cs ps := cat_mul (fun k => unit_len hP _ _) m
theorem walk_add (f a m : Nat) : walkL w h cs ps f (a + m) = walkL w h cs ps f a ++ walkL w h cs ps (f + a) m := by
  unfold walkL
  rw [cat_add]
  congr 1
  congr 1
  funext k
  rw [Nat.add_assoc]
theorem walk_at (hP : Prt w h cs ps = 0) {a m T i : Nat} {x : Sp} (hx : (walkL w h cs ps a m)[i]? = some x) (hT : a + m ≤ T) : (walkL w h cs ps 0 T)[a * eachL cs ps + i]? = some x := by
  obtain ⟨r, rfl⟩ : ∃ r, T = a + (m + r) := ⟨T - a - m, by omega⟩
  rw [walk_add, walk_add, List.getElem?_append_right (by rw [walk_len hP]; omega), walk_len hP, show a * eachL cs ps + i - a * eachL cs ps = i from by omega, Nat.zero_add, List.getElem?_append_left (List.getElem?_eq_some_iff.1 hx).1]
  exact hx
end
end Go.Proofs.Ytlonijlcddlhjaa.G
