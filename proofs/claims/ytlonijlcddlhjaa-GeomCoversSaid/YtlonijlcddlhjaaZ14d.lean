/- Layer 14: no block is left out, none comes twice: plain Lean. -/
import Derived.Test.YtlonijlcddlhjaaZ14c
namespace Go.Proofs.Ytlonijlcddlhjaa.G
open Go.RowKit
set_option linter.unusedVariables false
set_option linter.unusedSimpArgs false

theorem cat_of {α : Type} (f : Nat → List α) {j : Nat} {x : α} : ∀ {m : Nat}, (cat f m)[j]? = some x → ∃ i n, i < m ∧ (f i)[n]? = some x ∧ j = (cat f i).length + n
  | 0, h => by simp [cat] at h
  | m + 1, h => by
    rw [cat] at h
    by_cases hj : j < (cat f m).length
    · rw [List.getElem?_append_left hj] at h
      obtain ⟨i, n, h1, h2, h3⟩ := cat_of f h
      exact ⟨i, n, by omega, h2, h3⟩
    · rw [List.getElem?_append_right (by omega)] at h
      exact ⟨m, _, by omega, h, by omega⟩
theorem cl_up {a b c : Int} (hb : 1 ≤ b) (h : a ≤ c * b) : cl a b ≤ c := by
  obtain ⟨_, h2⟩ := cl_mul (a := a) (b := b) hb
  by_cases hh : cl a b ≤ c
  · exact hh
  · have := Int.mul_le_mul_of_nonneg_right (show c ≤ cl a b - 1 by omega) (show 0 ≤ b by omega)
    omega
/-- A part's blocks of a unit: so many across, so many down. -/
def fcN (cs : List Cp) (ps : List Pa) (i : Nat) : Nat × Nat :=
  if ps.length = 1 then (1, 1) else match ps[i]? with
    | some p => match cs[p.comp.toNat]? with
      | some c => (c.h.toNat, c.v.toNat)
      | none => (1, 1)
    | none => (1, 1)
def offN (cs : List Cp) (ps : List Pa) (i : Nat) : Nat := if ps.length = 1 then 0 else (uSum cs (ps.take i)).toNat
section
variable {w h : Int} {cs : List Cp} {ps : List Pa}
open Classical in
noncomputable def spN (w h : Int) (cs : List Cp) (ps : List Pa) (u A i n : Nat) (p : Pa) : Sp :=
  ((i : Int), p.comp, (((u % A) * (fcN cs ps i).1 + n % (fcN cs ps i).1 : Nat) : Int), (((u / A) * (fcN cs ps i).2 + n / (fcN cs ps i).1 : Nat) : Int),
    decide ((((u % A) * (fcN cs ps i).1 + n % (fcN cs ps i).1 : Nat) : Int) < (Blo w h cs p.comp).1 ∧ (((u / A) * (fcN cs ps i).2 + n / (fcN cs ps i).1 : Nat) : Int) < (Blo w h cs p.comp).2))
theorem fc_le (hP : Prt w h cs ps = 0) {i : Nat} {p : Pa} (hp : ps[i]? = some p) : (1 ≤ (fcN cs ps i).1 ∧ (fcN cs ps i).1 ≤ 4) ∧ (1 ≤ (fcN cs ps i).2 ∧ (fcN cs ps i).2 ≤ 4) ∧ 0 ≤ p.comp ∧ p.comp < cs.length := by
  obtain ⟨hC, fr, hL, hB, hU⟩ := prt_fr hP
  obtain ⟨pc0, pc1⟩ := part_in hB hp
  obtain ⟨c, hc⟩ : ∃ c, cs[p.comp.toNat]? = some c := ⟨_, get_some (by omega)⟩
  obtain ⟨⟨ch1, ch4⟩, cv1, cv4⟩ := fr.fac c (List.mem_of_getElem? hc)
  unfold fcN
  split
  · simp; omega
  · simp only [hp, hc]; omega
/-- The units reach over all blocks of a part. -/
theorem fc_all (hP : Prt w h cs ps = 0) {i : Nat} {p : Pa} (hp : ps[i]? = some p) : (Blo w h cs p.comp).1 ≤ (Uni w h cs ps).1 * (fcN cs ps i).1 ∧ (Blo w h cs p.comp).2 ≤ (Uni w h cs ps).2 * (fcN cs ps i).2 ∧ (ps.length = 1 → (Blo w h cs p.comp) = Uni w h cs ps) := by
  obtain ⟨hC, fr, hL, hB, hU⟩ := prt_fr hP
  obtain ⟨pc0, pc1⟩ := part_in hB hp
  obtain ⟨c, hc⟩ : ∃ c, cs[p.comp.toNat]? = some c := ⟨_, get_some (by omega)⟩
  obtain ⟨⟨ch1, ch4⟩, cv1, cv4⟩ := fr.fac c (List.mem_of_getElem? hc)
  have hil := (List.getElem?_eq_some_iff.1 hp).1
  by_cases h1 : ps.length = 1
  · have e : (ps.map Pa.comp).headD 0 = p.comp := by
      obtain rfl : i = 0 := by omega
      cases ps with
      | nil => simp at h1
      | cons q r => simp at hp; subst hp; rfl
    have hu : Uni w h cs ps = Blo w h cs p.comp := by unfold Uni; rw [if_neg (by omega), if_pos h1, e]
    have hf : fcN cs ps i = (1, 1) := by unfold fcN; rw [if_pos h1]
    rw [hu, hf]
    simp
  · have hu : Uni w h cs ps = (cl w (8 * mxH cs), cl h (8 * mxV cs)) := by unfold Uni; rw [if_neg (by omega), if_neg h1]
    have hf : fcN cs ps i = (c.h.toNat, c.v.toNat) := by unfold fcN; rw [if_neg h1]; simp only [hp, hc]
    have mh := fr.mh
    have mv := fr.mv
    refine ⟨?_, ?_, fun h => absurd h h1⟩
    · rw [hu, hf]
      simp only [Blo, sam_at hC pc0 hc]
      rw [show ((c.h.toNat : Nat) : Int) = c.h from by omega]
      refine cl_up (by omega) (cl_up (by omega) ?_)
      obtain ⟨q, _⟩ := cl_mul (a := w) (b := 8 * mxH cs) (by omega)
      have := Int.mul_le_mul_of_nonneg_right q (show 0 ≤ c.h by omega)
      have e : cl w (8 * mxH cs) * c.h * 8 * mxH cs = cl w (8 * mxH cs) * (8 * mxH cs) * c.h := by
        rw [Int.mul_assoc, Int.mul_assoc, Int.mul_assoc, Int.mul_comm c.h]
      rw [e]
      exact this
    · rw [hu, hf]
      simp only [Blo, sam_at hC pc0 hc]
      rw [show ((c.v.toNat : Nat) : Int) = c.v from by omega]
      refine cl_up (by omega) (cl_up (by omega) ?_)
      obtain ⟨q, _⟩ := cl_mul (a := h) (b := 8 * mxV cs) (by omega)
      have := Int.mul_le_mul_of_nonneg_right q (show 0 ≤ c.v by omega)
      have e : cl h (8 * mxV cs) * c.v * 8 * mxV cs = cl h (8 * mxV cs) * (8 * mxV cs) * c.v := by
        rw [Int.mul_assoc, Int.mul_assoc, Int.mul_assoc, Int.mul_comm c.v]
      rw [e]
      exact this
/-- The n-th block of a part in a unit. -/
theorem unit_get (hP : Prt w h cs ps = 0) {A u i n : Nat} {p : Pa} (hA : (Uni w h cs ps).1 = (A : Int)) (hu : (u : Int) < (Uni w h cs ps).1 * (Uni w h cs ps).2) (hp : ps[i]? = some p) (hn : n < (fcN cs ps i).1 * (fcN cs ps i).2) :
    (unitL w h cs ps ((u : Int) % (Uni w h cs ps).1) ((u : Int) / (Uni w h cs ps).1))[offN cs ps i + n]? = some (spN w h cs ps u A i n p) := by
  obtain ⟨hC, fr, hL, hB, hU⟩ := prt_fr hP
  obtain ⟨pc0, pc1⟩ := part_in hB hp
  obtain ⟨c, hc⟩ : ∃ c, cs[p.comp.toNat]? = some c := ⟨_, get_some (by omega)⟩
  obtain ⟨⟨ch1, ch4⟩, cv1, cv4⟩ := fr.fac c (List.mem_of_getElem? hc)
  have hil := (List.getElem?_eq_some_iff.1 hp).1
  obtain ⟨_, _, hone⟩ := fc_all hP hp
  have up := uni_pos hP
  rw [hA, ← Int.natCast_emod, ← Int.natCast_ediv]
  by_cases h1 : ps.length = 1
  · have e : (ps.map Pa.comp).headD 0 = p.comp := by
      obtain rfl : i = 0 := by omega
      cases ps with
      | nil => simp at h1
      | cons q r => simp at hp; subst hp; rfl
    have hf : fcN cs ps i = (1, 1) := by unfold fcN; rw [if_pos h1]
    rw [hf] at hn
    obtain rfl : n = 0 := by simpa using hn
    obtain rfl : i = 0 := by omega
    have hb := hone h1
    obtain ⟨B, hB'⟩ : ∃ B : Nat, (Uni w h cs ps).2 = B := ⟨(Uni w h cs ps).2.toNat, by omega⟩
    rw [hA, hB'] at hu
    have q1 : u % A < A := Nat.mod_lt _ (by omega)
    have q2 : u / A < B := Nat.div_lt_of_lt_mul (by have : ((A * B : Nat) : Int) = (A : Int) * (B : Int) := by push_cast; rfl
                                                    omega)
    unfold unitL offN spN
    rw [if_pos h1, if_pos h1, e, hf, hb, hA, hB']
    simp
    exact ⟨by omega, by omega⟩
  · have hf : fcN cs ps i = (c.h.toNat, c.v.toNat) := by unfold fcN; rw [if_neg h1]; simp only [hp, hc]
    obtain ⟨hN, ehN⟩ : ∃ hN : Nat, c.h = hN := ⟨c.h.toNat, by omega⟩
    obtain ⟨vN, evN⟩ : ∃ vN : Nat, c.v = vN := ⟨c.v.toNat, by omega⟩
    have hm : (c.h * c.v).toNat = hN * vN := by rw [ehN, evN]; omega
    rw [hf, ehN, evN, Int.toNat_natCast, Int.toNat_natCast] at hn
    have hl := (parts_len hP ((u % A : Nat) : Int) ((u / A : Nat) : Int) i (by omega)).2
    unfold unitL offN
    rw [if_neg h1, if_neg h1, ← hl]
    refine cat_get _ hil ?_
    rw [partL_eq hp hc, List.getElem?_map, hm, List.getElem?_range hn]
    unfold spN spotAt
    rw [hf, ehN, evN, Int.toNat_natCast, Int.toNat_natCast]
    simp only [Option.map_some]
    congr 1
/-- Each block of a unit is one of these. -/
theorem unit_of (hP : Prt w h cs ps = 0) {A u m : Nat} {x : Sp} (hA : (Uni w h cs ps).1 = (A : Int)) (hu : (u : Int) < (Uni w h cs ps).1 * (Uni w h cs ps).2)
    (hx : (unitL w h cs ps ((u : Int) % (Uni w h cs ps).1) ((u : Int) / (Uni w h cs ps).1))[m]? = some x) : ∃ i n p, ps[i]? = some p ∧ n < (fcN cs ps i).1 * (fcN cs ps i).2 ∧ m = offN cs ps i + n ∧ x = spN w h cs ps u A i n p := by
  obtain ⟨hC, fr, hL, hB, hU⟩ := prt_fr hP
  have key : ∃ i n p, ps[i]? = some p ∧ n < (fcN cs ps i).1 * (fcN cs ps i).2 ∧ m = offN cs ps i + n := by
    by_cases h1 : ps.length = 1
    · have hl := (List.getElem?_eq_some_iff.1 hx).1
      rw [unit_len hP] at hl
      unfold eachL at hl
      rw [if_pos h1] at hl
      refine ⟨0, 0, ps[0], get_some (by omega), ?_, ?_⟩
      · unfold fcN; rw [if_pos h1]; simp
      · unfold offN; rw [if_pos h1]; omega
    · unfold unitL at hx
      rw [if_neg h1] at hx
      obtain ⟨i, n, hi, hn, hm⟩ := cat_of _ hx
      obtain ⟨p, hp⟩ : ∃ p, ps[i]? = some p := ⟨_, get_some hi⟩
      obtain ⟨pc0, pc1⟩ := part_in hB hp
      obtain ⟨c, hc⟩ : ∃ c, cs[p.comp.toNat]? = some c := ⟨_, get_some (by omega)⟩
      obtain ⟨⟨ch1, ch4⟩, cv1, cv4⟩ := fr.fac c (List.mem_of_getElem? hc)
      refine ⟨i, n, p, hp, ?_, ?_⟩
      · have hl := (List.getElem?_eq_some_iff.1 hn).1
        rw [partL_eq hp hc, List.length_map, List.length_range] at hl
        have hf : fcN cs ps i = (c.h.toNat, c.v.toNat) := by unfold fcN; rw [if_neg h1]; simp only [hp, hc]
        rw [hf]
        obtain ⟨hN, ehN⟩ : ∃ hN : Nat, c.h = hN := ⟨c.h.toNat, by omega⟩
        obtain ⟨vN, evN⟩ : ∃ vN : Nat, c.v = vN := ⟨c.v.toNat, by omega⟩
        rw [ehN, evN] at hl ⊢
        simp only [Int.toNat_natCast]
        have : ((hN : Int) * (vN : Int)).toNat = hN * vN := by omega
        omega
      · have hl := (parts_len hP ((u : Int) % (Uni w h cs ps).1) ((u : Int) / (Uni w h cs ps).1) i (by omega)).2
        unfold offN
        rw [if_neg h1, ← hl]
        exact hm
  obtain ⟨i, n, p, hp, hn, hm⟩ := key
  refine ⟨i, n, p, hp, hn, hm, ?_⟩
  have := unit_get hP hA hu hp hn
  rw [← hm, hx] at this
  exact Option.some.inj this
theorem divmod {a b q r : Nat} (h : r < b) : (q * b + r) % b = r ∧ (q * b + r) / b = q := by
  rw [Nat.mul_comm]
  exact ⟨by rw [Nat.mul_add_mod, Nat.mod_eq_of_lt h], by rw [Nat.mul_add_div (by omega), Nat.div_eq_of_lt h, Nat.add_zero]⟩
variable (w h cs ps) in
/-- All about the walk over all units: XS its blocks, A by B units. -/
structure Cov (XS : List Sp) (A B : Nat) : Prop where
  inn : ∀ x ∈ XS, ∃ (i : Nat) (p : Pa) (X Y : Nat), ps[i]? = some p ∧ X < 4 * A ∧ Y < 4 * B ∧ x.1 = (i : Int) ∧ x.2.1 = p.comp ∧ x.2.2.1 = (X : Int) ∧ x.2.2.2.1 = (Y : Int) ∧ (x.2.2.2.2 = true ↔ (X : Int) < (Blo w h cs p.comp).1 ∧ (Y : Int) < (Blo w h cs p.comp).2)
  one : ∀ (j k : Nat) (x y : Sp), XS[j]? = some x → XS[k]? = some y → x.1 = y.1 → x.2.2.1 = y.2.2.1 → x.2.2.2.1 = y.2.2.2.1 → j = k
  all : ∀ (i : Nat) (p : Pa) (X Y : Nat), ps[i]? = some p → (X : Int) < (Blo w h cs p.comp).1 → (Y : Int) < (Blo w h cs p.comp).2 → ∃ x ∈ XS, x.1 = (i : Int) ∧ x.2.2.1 = (X : Int) ∧ x.2.2.2.1 = (Y : Int)
  wide : ∀ (i : Nat) (p : Pa), ps[i]? = some p → (Blo w h cs p.comp).1 ≤ 4 * A ∧ (Blo w h cs p.comp).2 ≤ 4 * B
theorem cov (hP : Prt w h cs ps = 0) {A B : Nat} (hA : (Uni w h cs ps).1 = (A : Int)) (hB : (Uni w h cs ps).2 = (B : Int)) : Cov w h cs ps (walkL w h cs ps 0 (A * B)) A B := by
  have up := uni_pos hP
  have hAB : (Uni w h cs ps).1 * (Uni w h cs ps).2 = ((A * B : Nat) : Int) := by rw [hA, hB]; push_cast; rfl
  have hul : ∀ col row, (unitL w h cs ps col row).length = eachL cs ps := fun col row => unit_len hP col row
  have hx0 : ∀ {j : Nat} {x : Sp}, (walkL w h cs ps 0 (A * B))[j]? = some x → ∃ u i n p, u < A * B ∧ ps[i]? = some p ∧ n < (fcN cs ps i).1 * (fcN cs ps i).2 ∧ j = u * eachL cs ps + (offN cs ps i + n) ∧ x = spN w h cs ps u A i n p := fun {j x} hx => by
    obtain ⟨u, m, hu, hm, hj⟩ := cat_of _ hx
    have hcl : (cat (fun k => unitL w h cs ps (((0 + k : Nat) : Int) % (Uni w h cs ps).1) (((0 + k : Nat) : Int) / (Uni w h cs ps).1)) u).length = u * eachL cs ps := cat_mul (fun k => hul _ _) u
    rw [hcl] at hj
    simp only [Nat.zero_add] at hm
    obtain ⟨i, n, p, hp, hn, hmm, hxx⟩ := unit_of hP hA (by rw [hAB]; omega) hm
    exact ⟨u, i, n, p, hu, hp, hn, by rw [hj, hmm], hxx⟩
  have bnd : ∀ {u i n : Nat} {p : Pa}, u < A * B → ps[i]? = some p → n < (fcN cs ps i).1 * (fcN cs ps i).2 → (u % A) * (fcN cs ps i).1 + n % (fcN cs ps i).1 < A * (fcN cs ps i).1 ∧ (u / A) * (fcN cs ps i).2 + n / (fcN cs ps i).1 < B * (fcN cs ps i).2 := fun {u i n p} hu hp hn => by
    obtain ⟨⟨f1, f2⟩, ⟨f3, f4⟩, _⟩ := fc_le hP hp
    have q1 : u % A < A := Nat.mod_lt _ (by omega)
    have q2 : u / A < B := Nat.div_lt_of_lt_mul hu
    have q3 : n % (fcN cs ps i).1 < (fcN cs ps i).1 := Nat.mod_lt _ (by omega)
    have q4 : n / (fcN cs ps i).1 < (fcN cs ps i).2 := Nat.div_lt_of_lt_mul hn
    have p1 := Nat.mul_le_mul_right (fcN cs ps i).1 (show u % A + 1 ≤ A by omega)
    have p2 := Nat.mul_le_mul_right (fcN cs ps i).2 (show u / A + 1 ≤ B by omega)
    rw [Nat.add_mul, Nat.one_mul] at p1 p2
    omega
  refine ⟨fun x hx => ?_, fun j k x y hj hk e1 e2 e3 => ?_, fun i p X Y hp hX hY => ?_, fun i p hp => ?_⟩
  · obtain ⟨j, hj⟩ := List.mem_iff_getElem?.1 hx
    obtain ⟨u, i, n, p, hu, hp, hn, _, rfl⟩ := hx0 hj
    obtain ⟨⟨f1, f2⟩, ⟨f3, f4⟩, _⟩ := fc_le hP hp
    obtain ⟨b1, b2⟩ := bnd hu hp hn
    have m1 := Nat.mul_le_mul_left A f2
    have m2 := Nat.mul_le_mul_left B f4
    refine ⟨i, p, _, _, hp, by omega, by omega, rfl, rfl, rfl, rfl, ?_⟩
    unfold spN
    exact decide_eq_true_iff
  · obtain ⟨u, i, n, p, hu, hp, hn, rfl, rfl⟩ := hx0 hj
    obtain ⟨u', i', n', p', hu', hp', hn', rfl, rfl⟩ := hx0 hk
    unfold spN at e1 e2 e3
    simp only at e1 e2 e3
    obtain rfl : i = i' := by omega
    obtain ⟨⟨f1, f2⟩, ⟨f3, f4⟩, _⟩ := fc_le hP hp
    generalize fcN cs ps i = fc at *
    have e2' : (u % A) * fc.1 + n % fc.1 = (u' % A) * fc.1 + n' % fc.1 := by omega
    have e3' : (u / A) * fc.2 + n / fc.1 = (u' / A) * fc.2 + n' / fc.1 := by omega
    have q3 : n % fc.1 < fc.1 := Nat.mod_lt _ (by omega)
    have q3' : n' % fc.1 < fc.1 := Nat.mod_lt _ (by omega)
    have q4 : n / fc.1 < fc.2 := Nat.div_lt_of_lt_mul hn
    have q4' : n' / fc.1 < fc.2 := Nat.div_lt_of_lt_mul hn'
    have d1 := divmod (a := 0) (q := u % A) q3
    have d1' := divmod (a := 0) (q := u' % A) q3'
    have d2 := divmod (a := 0) (q := u / A) q4
    have d2' := divmod (a := 0) (q := u' / A) q4'
    rw [← e2'] at d1'
    rw [← e3'] at d2'
    have hn1 : n % fc.1 = n' % fc.1 := d1.1.symm.trans d1'.1
    have hu1 : u % A = u' % A := d1.2.symm.trans d1'.2
    have hn2 : n / fc.1 = n' / fc.1 := d2.1.symm.trans d2'.1
    have hu2 : u / A = u' / A := d2.2.symm.trans d2'.2
    have eu : u = u' := by
      have a1 := Nat.div_add_mod u A
      have a2 := Nat.div_add_mod u' A
      rw [hu1, hu2, a2] at a1
      exact a1.symm
    have en : n = n' := by
      have a1 := Nat.div_add_mod n fc.1
      have a2 := Nat.div_add_mod n' fc.1
      rw [hn1, hn2, a2] at a1
      exact a1.symm
    rw [eu, en]
  · obtain ⟨⟨f1, f2⟩, ⟨f3, f4⟩, _⟩ := fc_le hP hp
    obtain ⟨a1, a2, _⟩ := fc_all hP hp
    rw [hA] at a1
    rw [hB] at a2
    have hXA : X < A * (fcN cs ps i).1 := by
      have : ((A * (fcN cs ps i).1 : Nat) : Int) = (A : Int) * ((fcN cs ps i).1 : Int) := by push_cast; rfl
      omega
    have hYB : Y < B * (fcN cs ps i).2 := by
      have : ((B * (fcN cs ps i).2 : Nat) : Int) = (B : Int) * ((fcN cs ps i).2 : Int) := by push_cast; rfl
      omega
    generalize hfc : fcN cs ps i = fc at *
    have c1 : X / fc.1 < A := Nat.div_lt_of_lt_mul (by rw [Nat.mul_comm]; exact hXA)
    have c2 : Y / fc.2 < B := Nat.div_lt_of_lt_mul (by rw [Nat.mul_comm]; exact hYB)
    have c3 : X % fc.1 < fc.1 := Nat.mod_lt _ (by omega)
    have c4 : Y % fc.2 < fc.2 := Nat.mod_lt _ (by omega)
    obtain ⟨u1, u2⟩ := divmod (a := 0) (q := Y / fc.2) c1
    obtain ⟨n1, n2⟩ := divmod (a := 0) (q := Y % fc.2) c3
    have hu : (Y / fc.2) * A + X / fc.1 < A * B := by
      have := Nat.mul_le_mul_right A (show Y / fc.2 + 1 ≤ B by omega)
      rw [Nat.add_mul, Nat.one_mul, Nat.mul_comm B] at this
      omega
    have hn : (Y % fc.2) * fc.1 + X % fc.1 < fc.1 * fc.2 := by
      have := Nat.mul_le_mul_right fc.1 (show Y % fc.2 + 1 ≤ fc.2 by omega)
      rw [Nat.add_mul, Nat.one_mul, Nat.mul_comm fc.2] at this
      omega
    have g := unit_get (w := w) (h := h) (u := (Y / fc.2) * A + X / fc.1) (n := (Y % fc.2) * fc.1 + X % fc.1) hP hA (by rw [hAB]; omega) hp (by rw [hfc]; exact hn)
    have g2 := walk_at (T := A * B) (a := (Y / fc.2) * A + X / fc.1) (m := 1) hP (by
      unfold walkL
      rw [cat, cat, List.nil_append, Nat.add_zero]
      exact g) (by omega)
    refine ⟨_, List.mem_of_getElem? g2, rfl, ?_, ?_⟩
    · unfold spN
      simp only
      rw [hfc, u1, n1, Nat.mul_comm, Nat.div_add_mod]
    · unfold spN
      simp only
      rw [hfc, u2, n2, Nat.mul_comm, Nat.div_add_mod]
  · obtain ⟨⟨f1, f2⟩, ⟨f3, f4⟩, _⟩ := fc_le hP hp
    obtain ⟨a1, a2, _⟩ := fc_all hP hp
    rw [hA] at a1
    rw [hB] at a2
    have m1 := Int.mul_le_mul_of_nonneg_left (show ((fcN cs ps i).1 : Int) ≤ 4 by omega) (show (0 : Int) ≤ A by omega)
    have m2 := Int.mul_le_mul_of_nonneg_left (show ((fcN cs ps i).2 : Int) ≤ 4 by omega) (show (0 : Int) ≤ B by omega)
    omega
end
end Go.Proofs.Ytlonijlcddlhjaa.G
