/- Frames: what they may be, their greatest factors and sizes. -/
import Derived.Test.YtlonijlcddlhjaaGV
import Derived.Test.YtlonijlcddlhjaaKgeom
import Derived.Test.YtlonijlcddlhjaaKmosaicref14
namespace Go.Proofs.Ytlonijlcddlhjaa.G
open Go.RowKit
set_option linter.unusedVariables false
set_option linter.unusedSimpArgs false

structure Cp where
  id : Int
  h : Int
  v : Int
  q : Int
def cC (c : Cp) : List Value := c23 c.id c.h c.v c.q
theorem cC_len (c : Cp) : (cC c).length = 4 := rfl
theorem cC_ones (c : Cp) : ∀ u ∈ cC c, u.oneCell' = true := one23 _ _ _ _
def Cp.ok (c : Cp) : Prop := (0 ≤ c.id ∧ c.id ≤ 255) ∧ (0 ≤ c.h ∧ c.h ≤ 255) ∧ (0 ≤ c.v ∧ c.v ≤ 255) ∧ (0 ≤ c.q ∧ c.q ≤ 255)
abbrev Cs (H : Hp) (s : Sl) (cs : List Cp) : Prop := SlV H s 4 cC cs

/-! ### the greatest factors -/
def mxH (cs : List Cp) : Int := cs.foldl (fun a c => if a < c.h then c.h else a) 0
def mxV (cs : List Cp) : Int := cs.foldl (fun a c => if a < c.v then c.v else a) 0
theorem take_next {α : Type} {xs : List α} {i : Nat} {x : α} (h : xs[i]? = some x) : xs.take (i + 1) = xs.take i ++ [x] := by
  rw [List.take_add_one, h]; rfl
theorem mxH_next {cs : List Cp} {i : Nat} {c : Cp} (h : cs[i]? = some c) : mxH (cs.take (i + 1)) = if mxH (cs.take i) < c.h then c.h else mxH (cs.take i) := by
  rw [take_next h]; unfold mxH; rw [List.foldl_append]; rfl
theorem mxV_next {cs : List Cp} {i : Nat} {c : Cp} (h : cs[i]? = some c) : mxV (cs.take (i + 1)) = if mxV (cs.take i) < c.v then c.v else mxV (cs.take i) := by
  rw [take_next h]; unfold mxV; rw [List.foldl_append]; rfl
theorem get_some {α : Type} {xs : List α} {i : Nat} (h : i < xs.length) : xs[i]? = some xs[i] := List.getElem?_eq_getElem h
theorem ok_get {cs : List Cp} (hok : ∀ c ∈ cs, c.ok) {i : Nat} {c : Cp} (h : cs[i]? = some c) : c.ok := hok c (List.mem_of_getElem? h)
theorem nx_i {i n : Nat} (hi : i < n) (hn : n ≤ 9223372036854775806) : IntKind.wrap .i64 ((i : Int) + 1) = ((i + 1 : Nat) : Int) := by rw [w64 (by omega)]; omega
theorem wu {x : Int} (h : 0 ≤ x ∧ x ≤ 255) : IntKind.wrap .i64 x = x := w64 (by omega)

section
variable {w h : Int} {s : Sl} {cs : List Cp} {H : Hp} {g : Int}
theorem most_ok {Q : (Int × Int) → Hp → Prop} (hs : Cs H s cs) (hok : ∀ c ∈ cs, c.ok) (hl : cs.length ≤ 140737488355328) (hQ : ∀ H', Keep H H' → Q (mxH cs, mxV cs) H') : geom_most.s g w h s H Q := by
  unfold geom_most.s
  intro b1 H2 k2 z2 z2'
  replace k2 : Keep H H2 := k2.keep (by simp)
  have hn := hs.n
  refine Fix.intro (fun (x : Int × Int × Int) H' => ∃ i : Nat, x = (mxH (cs.take i), mxV (cs.take i), (i : Int)) ∧ i ≤ cs.length ∧ Keep H H') (fun x _ => cs.length - x.2.2.toNat) ⟨0, rfl, by omega, k2⟩ ?_
  rintro _ H6 ⟨i, rfl, hi, k6⟩ rec hrec
  simp only
  by_cases hc : i < cs.length
  · obtain ⟨b, o, ha, hl6⟩ := (hs.keep k6).get (get_some hc)
    have ho := ok_get hok (get_some hc)
    refine ite_t (dect (by omega)) ⟨by omega, by omega, _, ha, _, _, _, _, by rw [Int.toNat_natCast]; exact hl6, fun b18 H20 c20 _ _ => ?_⟩
    rw [wu ho.2.1, wu ho.2.2.1, nx_i hc (by omega), ← mxH_next (get_some hc), ← mxV_next (get_some hc)]
    exact hrec _ _ ⟨i + 1, rfl, by omega, k6.trans (c20.keep (by simp))⟩ (by simp only [Int.toNat_natCast]; omega)
  · refine ite_f (decf (by omega)) ?_
    have : cs.take i = cs := List.take_of_length_le (by omega)
    rw [this]
    exact hQ _ k6
theorem greatest_ok {Q : (Int × Int) → Hp → Prop} (hs : Cs H s cs) (hok : ∀ c ∈ cs, c.ok) (hl : cs.length ≤ 140737488355328) (hQ : ∀ H', Keep H H' → Q (mxH cs, mxV cs) H') : mosaicref14_greatest.s g w h s H Q := by
  unfold mosaicref14_greatest.s
  intro b1 H2 k2 z2 z2'
  replace k2 : Keep H H2 := k2.keep (by simp)
  have hn := hs.n
  refine Fix.intro (fun (x : Int × Int × Int) H' => ∃ i : Nat, x = (mxH (cs.take i), mxV (cs.take i), (i : Int)) ∧ i ≤ cs.length ∧ Keep H H') (fun x _ => cs.length - x.2.2.toNat) ⟨0, rfl, by omega, k2⟩ ?_
  rintro _ H6 ⟨i, rfl, hi, k6⟩ rec hrec
  simp only
  by_cases hc : i < cs.length
  · obtain ⟨b, o, ha, hl6⟩ := (hs.keep k6).get (get_some hc)
    have ho := ok_get hok (get_some hc)
    refine ite_t (dect (by omega)) ?_
    have e1 := mxH_next (get_some hc)
    have e2 := mxV_next (get_some hc)
    refine Join.intro (fun x H' => x = (mxH (cs.take (i + 1)), mxV (cs.take (i + 1))) ∧ H6 = H') ?_ ?_
    · rintro _ _ ⟨rfl, rfl⟩
      rw [nx_i hc (by omega)]
      exact hrec _ _ ⟨i + 1, rfl, by omega, k6⟩ (by simp only [Int.toNat_natCast]; omega)
    · intro J hJ
      refine Join.intro (fun x H' => x = mxH (cs.take (i + 1)) ∧ H6 = H') ?_ ?_
      · rintro _ _ ⟨rfl, rfl⟩
        refine ⟨by omega, by omega, _, ha, ?_⟩
        rw [Int.toNat_natCast]
        refine ldI_of hl6 (j := 2) rfl ?_
        rw [wu ho.2.2.1]
        by_cases h2 : mxV (cs.take i) < cs[i].v
        · exact ite_t (dect h2) ⟨by omega, by omega, ldI_of hl6 (j := 2) rfl (hJ _ _ ⟨by rw [e2, if_pos h2, wu ho.2.2.1], rfl⟩)⟩
        · exact ite_f (decf h2) (hJ _ _ ⟨by rw [e2, if_neg h2], rfl⟩)
      · intro J2 hJ2
        refine ⟨by omega, by omega, _, ha, ?_⟩
        rw [Int.toNat_natCast]
        refine ldI_of hl6 (j := 1) rfl ?_
        rw [wu ho.2.1]
        by_cases h2 : mxH (cs.take i) < cs[i].h
        · exact ite_t (dect h2) ⟨by omega, by omega, ldI_of hl6 (j := 1) rfl (hJ2 _ _ ⟨by rw [e1, if_pos h2, wu ho.2.1], rfl⟩)⟩
        · exact ite_f (decf h2) (hJ2 _ _ ⟨by rw [e1, if_neg h2], rfl⟩)
  · refine ite_f (decf (by omega)) ?_
    have : cs.take i = cs := List.take_of_length_le (by omega)
    rw [this]
    exact hQ _ k6

end
/-! ### may a frame be? -/
def BadAt (cs : List Cp) (i : Nat) (c : Cp) : Prop := 3 < c.q ∨ ∃ (k : Nat) (d : Cp), k < i ∧ cs[k]? = some d ∧ d.id = c.id
def Bad (cs : List Cp) : Prop := ∃ i c, cs[i]? = some c ∧ BadAt cs i c
def Fac (cs : List Cp) : Prop := ∃ c ∈ cs, c.h < 1 ∨ 4 < c.h ∨ c.v < 1 ∨ 4 < c.v
def Rat (cs : List Cp) : Prop := ∃ c ∈ cs, (mxH cs).tmod c.h ≠ 0 ∨ (mxV cs).tmod c.v ≠ 0
def Emp (w h : Int) : Prop := w < 1 ∨ 65535 < w ∨ h < 1 ∨ 65535 < h
open Classical in
noncomputable def Chk (w h : Int) (cs : List Cp) : Int :=
  if Emp w h then 140 else if cs.length < 1 ∨ 4 < cs.length ∨ Bad cs then 143 else if Fac cs then 141 else if Rat cs then 142 else 0
section
variable {w h : Int} {s : Sl} {cs : List Cp} {H : Hp} {g : Int}
theorem chk140 (e : Emp w h) : Chk w h cs = 140 := by unfold Chk; rw [if_pos e]
theorem chk143 (e : ¬ Emp w h) (b : cs.length < 1 ∨ 4 < cs.length ∨ Bad cs) : Chk w h cs = 143 := by unfold Chk; rw [if_neg e, if_pos b]
theorem chk141 (e : ¬ Emp w h) (b : ¬ (cs.length < 1 ∨ 4 < cs.length ∨ Bad cs)) (f : Fac cs) : Chk w h cs = 141 := by unfold Chk; rw [if_neg e, if_neg b, if_pos f]
theorem chk142 (e : ¬ Emp w h) (b : ¬ (cs.length < 1 ∨ 4 < cs.length ∨ Bad cs)) (f : ¬ Fac cs) (r : Rat cs) : Chk w h cs = 142 := by unfold Chk; rw [if_neg e, if_neg b, if_neg f, if_pos r]
theorem chk0 (e : ¬ Emp w h) (b : ¬ (cs.length < 1 ∨ 4 < cs.length ∨ Bad cs)) (f : ¬ Fac cs) (r : ¬ Rat cs) : Chk w h cs = 0 := by unfold Chk; rw [if_neg e, if_neg b, if_neg f, if_neg r]
theorem join_or4 {H : Hp} {J : Bool → Hp → Prop} {a b c d : Bool} (h : J (a || b || c || d) H) : if a = true then J true H else if b = true then J true H else if c = true then J true H else J d H := by
  cases a <;> cases b <;> cases c <;> simpa using h
theorem join_or2 {H : Hp} {J : Bool → Hp → Prop} {a b : Bool} (h : J (a || b) H) : if a = true then J true H else J b H := by
  cases a <;> simpa using h
theorem emp_dec : (decide (w < 1) || decide ((65535 : Int) < w) || decide (h < 1) || decide ((65535 : Int) < h)) = true ↔ Emp w h := by
  unfold Emp; simp [or_assoc]
theorem gCheck_ok {Q : Int → Hp → Prop} (hs : Cs H s cs) (hok : ∀ c ∈ cs, c.ok) (hl : cs.length ≤ 140737488355328) (hQ : ∀ H', Keep H H' → Q (Chk w h cs) H') : geom_Check.s g w h s H Q := by
  unfold geom_Check.s
  intro b1 H2 k2 z2 z2'
  replace k2 : Keep H H2 := k2.keep (by simp)
  replace hs := hs.keep k2
  replace hQ : ∀ H', Keep H2 H' → Q (Chk w h cs) H' := fun H' k => hQ H' (k2.trans k)
  have hn := hs.n
  refine Join.intro (fun x H' => (x = true ↔ Emp w h) ∧ H2 = H') ?_ fun J hJ => join_or4 (hJ _ _ ⟨emp_dec, rfl⟩)
  rintro x _ ⟨hx, rfl⟩
  by_cases hE : Emp w h
  · refine ite_t (hx.2 hE) ?_
    rw [← chk140 (cs := cs) hE]; exact hQ _ (Keep.refl _)
  refine ite_f (by cases x with | false => rfl | true => exact absurd (hx.1 rfl) hE) ?_
  refine Join.intro (fun x H' => (x = true ↔ (cs.length < 1 ∨ 4 < cs.length)) ∧ H2 = H') ?_ fun J hJ => join_or2 (hJ _ _ ⟨by simp only [Bool.or_eq_true, decide_eq_true_eq]; omega, rfl⟩)
  rintro x _ ⟨hx, rfl⟩
  by_cases hL : cs.length < 1 ∨ 4 < cs.length
  · refine ite_t (hx.2 hL) ?_
    rw [← chk143 (cs := cs) hE (by rcases hL with h | h; exact .inl h; exact .inr (.inl h))]; exact hQ _ (Keep.refl _)
  refine ite_f (by cases x with | false => rfl | true => exact absurd (hx.1 rfl) hL) ?_
  have h143 : Bad cs → Chk w h cs = 143 := fun b => chk143 hE (.inr (.inr b))
  refine Fix.intro (fun (x : Int) H' => ∃ i : Nat, x = (i : Int) ∧ i ≤ cs.length ∧ (∀ j c, j < i → cs[j]? = some c → ¬ BadAt cs j c) ∧ Keep H2 H') (fun (x : Int) _ => cs.length - x.toNat) ⟨0, rfl, by omega, fun j c hj => by omega, Keep.refl _⟩ ?_
  rintro _ H12 ⟨i, rfl, hi, hno, k12⟩ rec hrec
  by_cases hc : i < cs.length
  · obtain ⟨b, o, ha, hl12⟩ := (hs.keep k12).get (get_some hc)
    have ho := ok_get hok (get_some hc)
    refine ite_t (dect (by omega)) ⟨by omega, by omega, _, ha, _, _, _, _, by rw [Int.toNat_natCast]; exact hl12, fun b24 H26 c26 _ _ => ⟨by omega, by have := hs.c; omega, ?_⟩⟩
    have k26 : Keep H2 H26 := k12.trans (c26.keep (by simp))
    have hs2 := hs.take (i := i) (by omega)
    refine Fix.intro (fun (x : Int) H' => ∃ k : Nat, x = (k : Int) ∧ k ≤ i ∧ (∀ j d, j < k → cs[j]? = some d → d.id ≠ cs[i].id) ∧ Keep H2 H') (fun (x : Int) _ => i - x.toNat) ⟨0, rfl, by omega, fun j c hj => by omega, k26⟩ ?_
    rintro _ H32 ⟨k, rfl, hk, hne, k32⟩ rec2 hrec2
    have hn2 := hs2.n
    simp at hn2
    by_cases hck : k < i
    · have hkg : (cs.take i)[k]? = some cs[k] := by rw [List.getElem?_take, if_pos hck]; exact get_some (by omega)
      obtain ⟨b', o', ha', hl32⟩ := (hs2.keep k32).get hkg
      refine ite_t (dect (by omega)) ⟨by omega, by omega, _, ha', _, _, _, _, by rw [Int.toNat_natCast]; exact hl32, fun b44 H46 c46 _ _ => ?_⟩
      have k46 : Keep H2 H46 := k32.trans (c46.keep (by simp))
      by_cases heq : cs[k].id = cs[i].id
      · refine ite_t (beqi heq) ?_
        rw [← h143 ⟨i, cs[i], get_some hc, .inr ⟨k, cs[k], hck, get_some (by omega), heq⟩⟩]
        exact hQ _ k46
      · refine ite_f (beqf heq) ?_
        rw [nx_i hck (by omega)]
        refine hrec2 _ _ ⟨k + 1, rfl, by omega, fun j d hj hd => ?_, k46⟩ (by simp only [Int.toNat_natCast]; omega)
        rcases Nat.lt_succ_iff_lt_or_eq.1 hj with h1 | h1
        · exact hne j d h1 hd
        · subst h1
          rw [get_some (by omega)] at hd
          cases hd
          exact heq
    · refine ite_f (decf (by omega)) ?_
      by_cases hq : 3 < cs[i].q
      · refine ite_t (dect hq) ?_
        rw [← h143 ⟨i, cs[i], get_some hc, .inl hq⟩]
        exact hQ _ k32
      · refine ite_f (decf hq) ?_
        rw [nx_i hc (by omega)]
        refine hrec _ _ ⟨i + 1, rfl, by omega, fun j c hj hc' => ?_, k32⟩ (by simp only [Int.toNat_natCast]; omega)
        rcases Nat.lt_succ_iff_lt_or_eq.1 hj with h1 | h1
        · exact hno j c h1 hc'
        · subst h1
          rw [get_some hc] at hc'
          cases hc'
          rintro (h1 | ⟨k', d, h1, h2, h3⟩)
          · exact hq h1
          · exact hne k' d (by omega) h2 h3
  · refine ite_f (decf (by omega)) ?_
    have hB : ¬ Bad cs := fun ⟨j, c, h1, h2⟩ => hno j c (by have := (List.getElem?_eq_some_iff.1 h1).1; omega) h1 h2
    have hLB : ¬ (cs.length < 1 ∨ 4 < cs.length ∨ Bad cs) := by rintro (h | h | h); exact hL (.inl h); exact hL (.inr h); exact hB h
    refine most_ok (hs.keep k12) hok hl fun H48 k48' => ⟨Pv.keep k48' (by have := k12.size; simp; omega), ?_⟩
    have k48 := k12.trans k48'
    refine Fix.intro (fun (x : Int) H' => ∃ i : Nat, x = (i : Int) ∧ i ≤ cs.length ∧ (∀ j c, j < i → cs[j]? = some c → ¬ (c.h < 1 ∨ 4 < c.h ∨ c.v < 1 ∨ 4 < c.v)) ∧ Keep H2 H') (fun (x : Int) _ => cs.length - x.toNat) ⟨0, rfl, by omega, fun j c hj => by omega, k48⟩ ?_
    rintro _ H53 ⟨i, rfl, hi, hno, k53⟩ rec hrec
    by_cases hc : i < cs.length
    · obtain ⟨b, o, ha, hl53⟩ := (hs.keep k53).get (get_some hc)
      refine ite_t (dect (by omega)) ⟨by omega, by omega, _, ha, _, _, _, _, by rw [Int.toNat_natCast]; exact hl53, fun b65 H67 c67 _ _ => ?_⟩
      have k67 : Keep H2 H67 := k53.trans (c67.keep (by simp))
      refine Join.intro (fun x H' => (x = true ↔ (cs[i].h < 1 ∨ 4 < cs[i].h ∨ cs[i].v < 1 ∨ 4 < cs[i].v)) ∧ H67 = H') ?_ fun J hJ => join_or4 (hJ _ _ ⟨by simp [or_assoc], rfl⟩)
      rintro x _ ⟨hx, rfl⟩
      by_cases hF : cs[i].h < 1 ∨ 4 < cs[i].h ∨ cs[i].v < 1 ∨ 4 < cs[i].v
      · refine ite_t (hx.2 hF) ?_
        rw [← chk141 (w := w) (h := h) (cs := cs) hE hLB ⟨cs[i], List.getElem_mem hc, hF⟩]
        exact hQ _ k67
      · refine ite_f (by cases x with | false => rfl | true => exact absurd (hx.1 rfl) hF) ?_
        rw [nx_i hc (by omega)]
        refine hrec _ _ ⟨i + 1, rfl, by omega, fun j c hj hc' => ?_, k67⟩ (by simp only [Int.toNat_natCast]; omega)
        rcases Nat.lt_succ_iff_lt_or_eq.1 hj with h1 | h1
        · exact hno j c h1 hc'
        · subst h1
          rw [get_some hc] at hc'
          cases hc'
          exact hF
    · refine ite_f (decf (by omega)) ?_
      have hF : ¬ Fac cs := fun ⟨c, h1, h2⟩ => by
        obtain ⟨j, hj⟩ := List.mem_iff_getElem?.1 h1
        exact hno j c (by have := (List.getElem?_eq_some_iff.1 hj).1; omega) hj h2
      have hfac : ∀ c ∈ cs, 1 ≤ c.h ∧ c.h ≤ 4 ∧ 1 ≤ c.v ∧ c.v ≤ 4 := fun c hc => by
        have : ¬ (c.h < 1 ∨ 4 < c.h ∨ c.v < 1 ∨ 4 < c.v) := fun h => hF ⟨c, hc, h⟩
        omega
      refine Fix.intro (fun (x : Int) H' => ∃ i : Nat, x = (i : Int) ∧ i ≤ cs.length ∧ (∀ j c, j < i → cs[j]? = some c → ¬ ((mxH cs).tmod c.h ≠ 0 ∨ (mxV cs).tmod c.v ≠ 0)) ∧ Keep H2 H') (fun (x : Int) _ => cs.length - x.toNat) ⟨0, rfl, by omega, fun j c hj => by omega, k53⟩ ?_
      rintro _ H74 ⟨i, rfl, hi, hno, k74⟩ rec hrec
      by_cases hc : i < cs.length
      · obtain ⟨b, o, ha, hl74⟩ := (hs.keep k74).get (get_some hc)
        have ho := ok_get hok (get_some hc)
        have hf := hfac _ (List.getElem_mem hc)
        refine ite_t (dect (by omega)) ⟨by omega, by omega, _, ha, _, _, _, _, by rw [Int.toNat_natCast]; exact hl74, fun b86 H88 c88 _ _ => ?_⟩
        have k88 : Keep H2 H88 := k74.trans (c88.keep (by simp))
        refine Join.intro (fun x H' => (x = true ↔ ((mxH cs).tmod cs[i].h ≠ 0 ∨ (mxV cs).tmod cs[i].v ≠ 0)) ∧ H88 = H') ?_ fun J hJ => ?_
        · rintro x _ ⟨hx, rfl⟩
          by_cases hR : (mxH cs).tmod cs[i].h ≠ 0 ∨ (mxV cs).tmod cs[i].v ≠ 0
          · refine ite_t (hx.2 hR) ?_
            rw [← chk142 (w := w) (h := h) (cs := cs) hE hLB hF ⟨cs[i], List.getElem_mem hc, hR⟩]
            exact hQ _ k88
          · refine ite_f (by cases x with | false => rfl | true => exact absurd (hx.1 rfl) hR) ?_
            rw [nx_i hc (by omega)]
            refine hrec _ _ ⟨i + 1, rfl, by omega, fun j c hj hc' => ?_, k88⟩ (by simp only [Int.toNat_natCast]; omega)
            rcases Nat.lt_succ_iff_lt_or_eq.1 hj with h1 | h1
            · exact hno j c h1 hc'
            · subst h1
              rw [get_some hc] at hc'
              cases hc'
              exact hR
        · rw [wu ho.2.1, wu ho.2.2.1]
          refine ⟨by omega, ?_⟩
          simp only
          by_cases h1 : (mxH cs).tmod cs[i].h ≠ 0
          · exact ite_t (bnet h1) (hJ _ _ ⟨by simp [h1], rfl⟩)
          · exact ite_f (bnei (by omega)) ⟨by omega, hJ _ _ ⟨by simp at h1; simp [h1], rfl⟩⟩
      · refine ite_f (decf (by omega)) ?_
        rw [← chk0 (w := w) (h := h) (cs := cs) hE hLB hF fun ⟨c, h1, h2⟩ => by
          obtain ⟨j, hj⟩ := List.mem_iff_getElem?.1 h1
          exact hno j c (by have := (List.getElem?_eq_some_iff.1 hj).1; omega) hj h2]
        exact hQ _ k74
theorem rIds_ok {Q : Bool → Hp → Prop} (hs : Cs H s cs) (hok : ∀ c ∈ cs, c.ok) (hl : cs.length ≤ 140737488355328) (hQ : ∀ b H', (b = true ↔ Bad cs) → Keep H H' → Q b H') : mosaicref14_ids.s g w h s H Q := by
  unfold mosaicref14_ids.s
  intro b1 H2 k2 z2 z2'
  replace k2 : Keep H H2 := k2.keep (by simp)
  have hn := hs.n
  refine Fix.intro (fun (x : Int) H' => ∃ i : Nat, x = (i : Int) ∧ i ≤ cs.length ∧ (∀ j c, j < i → cs[j]? = some c → ¬ BadAt cs j c) ∧ Keep H H') (fun (x : Int) _ => cs.length - x.toNat) ⟨0, rfl, by omega, fun j c hj => by omega, k2⟩ ?_
  rintro _ H6 ⟨i, rfl, hi, hno, k6⟩ rec hrec
  by_cases hc : i < cs.length
  · obtain ⟨b, o, ha, hl6⟩ := (hs.keep k6).get (get_some hc)
    refine ite_t (dect (by omega)) ⟨by omega, by omega, _, ha, ?_⟩
    rw [Int.toNat_natCast]
    refine ldI_of hl6 (j := 3) rfl ?_
    by_cases hq : 3 < cs[i].q
    · exact ite_t (dect hq) (hQ _ _ ⟨fun _ => ⟨i, cs[i], get_some hc, .inl hq⟩, fun _ => rfl⟩ k6)
    refine ite_f (decf hq) ?_
    refine Fix.intro (fun (x : Int) H' => ∃ k : Nat, x = (k : Int) ∧ k ≤ i ∧ (∀ j d, j < k → cs[j]? = some d → d.id ≠ cs[i].id) ∧ H6 = H') (fun (x : Int) _ => i - x.toNat) ⟨0, rfl, by omega, fun j c hj => by omega, rfl⟩ ?_
    rintro _ _ ⟨k, rfl, hk, hne, rfl⟩ rec2 hrec2
    by_cases hck : k < i
    · obtain ⟨b', o', ha', hl'⟩ := (hs.keep k6).get (get_some (show k < cs.length by omega))
      rw [ha] at ha'
      obtain ⟨rfl, rfl⟩ : b = b' ∧ o = o' := by simpa using ha'
      refine ite_t (dect (by omega)) ⟨by omega, by omega, ?_⟩
      rw [Int.toNat_natCast]
      refine ldI_of hl' (j := 0) rfl ⟨by omega, by omega, ldI_of hl6 (j := 0) rfl ?_⟩
      by_cases heq : cs[k].id = cs[i].id
      · exact ite_t (beqi heq) (hQ _ _ ⟨fun _ => ⟨i, cs[i], get_some hc, .inr ⟨k, cs[k], hck, get_some (by omega), heq⟩⟩, fun _ => rfl⟩ k6)
      · refine ite_f (beqf heq) ?_
        rw [nx_i hck (by omega)]
        refine hrec2 _ _ ⟨k + 1, rfl, by omega, fun j d hj hd => ?_, rfl⟩ (by simp only [Int.toNat_natCast]; omega)
        rcases Nat.lt_succ_iff_lt_or_eq.1 hj with h1 | h1
        · exact hne j d h1 hd
        · subst h1
          rw [get_some (by omega)] at hd
          cases hd
          exact heq
    · refine ite_f (decf (by omega)) ?_
      rw [nx_i hc (by omega)]
      refine hrec _ _ ⟨i + 1, rfl, by omega, fun j c hj hc' => ?_, k6⟩ (by simp only [Int.toNat_natCast]; omega)
      rcases Nat.lt_succ_iff_lt_or_eq.1 hj with h1 | h1
      · exact hno j c h1 hc'
      · subst h1
        rw [get_some hc] at hc'
        cases hc'
        rintro (h1 | ⟨k', d, h1, h2, h3⟩)
        · exact hq h1
        · exact hne k' d (by omega) h2 h3
  · exact ite_f (decf (by omega)) (hQ _ _ ⟨fun x => (by cases x), fun ⟨j, c, h1, h2⟩ => absurd h2 (hno j c (by have := (List.getElem?_eq_some_iff.1 h1).1; omega) h1)⟩ k6)
theorem join_or3' {H : Hp} {J : Bool → Hp → Prop} {a b c : Bool} (h : J (a || b || c) H) : if a = true then J true H else if b = true then J true H else J c H := by
  cases a <;> cases b <;> simpa using h
theorem rCheck_ok {Q : Int → Hp → Prop} (hs : Cs H s cs) (hok : ∀ c ∈ cs, c.ok) (hl : cs.length ≤ 140737488355328) (hQ : ∀ H', Keep H H' → Q (Chk w h cs) H') : mosaicref14_Check.s g w h s H Q := by
  unfold mosaicref14_Check.s
  intro b1 H2 k2 z2 z2'
  replace k2 : Keep H H2 := k2.keep (by simp)
  replace hs := hs.keep k2
  replace hQ : ∀ H', Keep H2 H' → Q (Chk w h cs) H' := fun H' k => hQ H' (k2.trans k)
  have hn := hs.n
  refine Join.intro (fun x H' => (x = true ↔ Emp w h) ∧ H2 = H') ?_ fun J hJ => join_or4 (hJ _ _ ⟨emp_dec, rfl⟩)
  rintro x _ ⟨hx, rfl⟩
  by_cases hE : Emp w h
  · refine ite_t (hx.2 hE) ?_
    rw [← chk140 (cs := cs) hE]; exact hQ _ (Keep.refl _)
  refine ite_f (by cases x with | false => rfl | true => exact absurd (hx.1 rfl) hE) ?_
  refine rIds_ok hs hok hl fun bad H7 hbad k7 => ⟨Pv.keep k7 (by simp; omega), ?_⟩
  refine Join.intro (fun x H' => (x = true ↔ (cs.length < 1 ∨ 4 < cs.length ∨ Bad cs)) ∧ H7 = H') ?_ fun J hJ => join_or3' (hJ _ _ ⟨by
    rw [← hbad, hn]; simp only [Bool.or_eq_true, decide_eq_true_eq, beq_iff_eq, or_assoc]
    constructor
    · rintro (h | h | h)
      · exact .inl (by omega)
      · exact .inr (.inl (by omega))
      · exact .inr (.inr h)
    · rintro (h | h | h)
      · exact .inl (by omega)
      · exact .inr (.inl (by omega))
      · exact .inr (.inr h), rfl⟩)
  rintro x _ ⟨hx, rfl⟩
  by_cases hLB : cs.length < 1 ∨ 4 < cs.length ∨ Bad cs
  · refine ite_t (hx.2 hLB) ?_
    rw [← chk143 (cs := cs) hE hLB]; exact hQ _ k7
  refine ite_f (by cases x with | false => rfl | true => exact absurd (hx.1 rfl) hLB) ?_
  refine greatest_ok (hs.keep k7) hok hl fun H13 k13' => ⟨Pv.keep k13' (by have := k7.size; simp; omega), ?_⟩
  have k13 := k7.trans k13'
  refine Fix.intro (fun (x : Bool × Int) H' => ∃ i : Nat, x.2 = (i : Int) ∧ i ≤ cs.length ∧ (∀ j c, j < i → cs[j]? = some c → ¬ (c.h < 1 ∨ 4 < c.h ∨ c.v < 1 ∨ 4 < c.v)) ∧
    (x.1 = true ↔ ∃ j c, j < i ∧ cs[j]? = some c ∧ ((mxH cs).tmod c.h ≠ 0 ∨ (mxV cs).tmod c.v ≠ 0)) ∧ H13 = H') (fun (x : Bool × Int) _ => cs.length - x.2.toNat) ⟨0, rfl, by omega, fun j c hj => by omega, ⟨fun x => (by cases x), fun ⟨j, c, h1, _⟩ => (by omega)⟩, rfl⟩ ?_
  rintro ⟨rt, _⟩ _ ⟨i, rfl, hi, hno, hrt, rfl⟩ rec hrec
  simp only at hrt ⊢
  by_cases hc : i < cs.length
  · obtain ⟨b, o, ha, hl18⟩ := (hs.keep k13).get (get_some hc)
    have ho := ok_get hok (get_some hc)
    refine ite_t (dect (by omega)) ?_
    refine Join.intro (fun x H' => (x = true ↔ ∃ j c, j < i + 1 ∧ cs[j]? = some c ∧ ((mxH cs).tmod c.h ≠ 0 ∨ (mxV cs).tmod c.v ≠ 0)) ∧ (¬ (cs[i].h < 1 ∨ 4 < cs[i].h ∨ cs[i].v < 1 ∨ 4 < cs[i].v)) ∧ H13 = H') ?_ fun J hJ => ?_
    · rintro x _ ⟨hx, hF, rfl⟩
      rw [nx_i hc (by omega)]
      refine hrec _ _ ⟨i + 1, rfl, by omega, fun j c hj hc' => ?_, hx, rfl⟩ (by simp only [Int.toNat_natCast]; omega)
      rcases Nat.lt_succ_iff_lt_or_eq.1 hj with h1 | h1
      · exact hno j c h1 hc'
      · subst h1
        rw [get_some hc] at hc'
        cases hc'
        exact hF
    · refine ⟨by omega, by omega, _, ha, ?_⟩
      rw [Int.toNat_natCast]
      refine ldI_of hl18 (j := 1) rfl ⟨by omega, by omega, ldI_of hl18 (j := 2) rfl ?_⟩
      rw [wu ho.2.1, wu ho.2.2.1]
      refine Join.intro (fun x H' => (x = true ↔ (cs[i].h < 1 ∨ 4 < cs[i].h ∨ cs[i].v < 1 ∨ 4 < cs[i].v)) ∧ H13 = H') ?_ fun J2 hJ2 => join_or4 (hJ2 _ _ ⟨by simp [or_assoc], rfl⟩)
      rintro x _ ⟨hx, rfl⟩
      by_cases hF : cs[i].h < 1 ∨ 4 < cs[i].h ∨ cs[i].v < 1 ∨ 4 < cs[i].v
      · refine ite_t (hx.2 hF) ?_
        rw [← chk141 (w := w) (h := h) (cs := cs) hE hLB ⟨cs[i], List.getElem_mem hc, hF⟩]
        exact hQ _ k13
      · refine ite_f (by cases x with | false => rfl | true => exact absurd (hx.1 rfl) hF) ?_
        have ext : (∃ j c, j < i + 1 ∧ cs[j]? = some c ∧ ((mxH cs).tmod c.h ≠ 0 ∨ (mxV cs).tmod c.v ≠ 0)) ↔ (rt = true ∨ (mxH cs).tmod cs[i].h ≠ 0 ∨ (mxV cs).tmod cs[i].v ≠ 0) := by
          rw [hrt]
          constructor
          · rintro ⟨j, c, h1, h2, h3⟩
            rcases Nat.lt_succ_iff_lt_or_eq.1 h1 with h4 | h4
            · exact .inl ⟨j, c, h4, h2, h3⟩
            · subst h4
              rw [get_some hc] at h2
              cases h2
              exact .inr h3
          · rintro (⟨j, c, h1, h2, h3⟩ | h3)
            · exact ⟨j, c, by omega, h2, h3⟩
            · exact ⟨i, cs[i], by omega, get_some hc, h3⟩
        cases rt with
        | true => exact ite_t rfl (hJ _ _ ⟨by rw [ext]; simp, hF, rfl⟩)
        | false =>
          refine ite_f rfl ⟨by omega, ?_⟩
          by_cases h1 : (mxH cs).tmod cs[i].h ≠ 0
          · exact ite_t (bnet h1) (hJ _ _ ⟨by rw [ext]; simp [h1], hF, rfl⟩)
          · exact ite_f (bnei (by omega)) ⟨by omega, hJ _ _ ⟨by rw [ext]; simp at h1; simp [h1], hF, rfl⟩⟩
  · refine ite_f (decf (by omega)) ?_
    have hF : ¬ Fac cs := fun ⟨c, h1, h2⟩ => by
      obtain ⟨j, hj⟩ := List.mem_iff_getElem?.1 h1
      exact hno j c (by have := (List.getElem?_eq_some_iff.1 hj).1; omega) hj h2
    have hR : rt = true ↔ Rat cs := by
      rw [hrt]
      constructor
      · rintro ⟨j, c, h1, h2, h3⟩
        exact ⟨c, List.mem_of_getElem? h2, h3⟩
      · rintro ⟨c, h1, h2⟩
        obtain ⟨j, hj⟩ := List.mem_iff_getElem?.1 h1
        exact ⟨j, c, by have := (List.getElem?_eq_some_iff.1 hj).1; omega, hj, h2⟩
    cases rt with
    | true =>
      refine ite_t rfl ?_
      rw [← chk142 (w := w) (h := h) (cs := cs) hE hLB hF (hR.1 rfl)]; exact hQ _ k13
    | false =>
      refine ite_f rfl ?_
      rw [← chk0 (w := w) (h := h) (cs := cs) hE hLB hF fun h => by simpa using hR.2 h]; exact hQ _ k13
end
/-! ### what a frame that may be is like -/
theorem foldmax (f : Cp → Int) : ∀ (l : List Cp) (a : Int), a ≤ l.foldl (fun a c => if a < f c then f c else a) a ∧ (∀ c ∈ l, f c ≤ l.foldl (fun a c => if a < f c then f c else a) a) ∧ (∀ B, a ≤ B → (∀ c ∈ l, f c ≤ B) → l.foldl (fun a c => if a < f c then f c else a) a ≤ B)
  | [], a => ⟨Int.le_refl _, by simp, fun B h _ => h⟩
  | c :: l, a => by
    obtain ⟨h1, h2, h3⟩ := foldmax f l (if a < f c then f c else a)
    have hc : a ≤ (if a < f c then f c else a) ∧ f c ≤ (if a < f c then f c else a) := by split <;> omega
    refine ⟨by rw [List.foldl_cons]; omega, fun d hd => ?_, fun B hB hl => ?_⟩
    · rw [List.foldl_cons]
      rcases List.mem_cons.1 hd with rfl | hd
      · omega
      · exact h2 d hd
    · rw [List.foldl_cons]
      exact h3 B (by have := hl c (by simp); split <;> omega) fun d hd => hl d (by simp [hd])
structure Fr (w h : Int) (cs : List Cp) : Prop where
  w1 : 1 ≤ w ∧ w ≤ 65535
  h1 : 1 ≤ h ∧ h ≤ 65535
  n : 1 ≤ cs.length ∧ cs.length ≤ 4
  ids : ¬ Bad cs
  fac : ∀ c ∈ cs, (1 ≤ c.h ∧ c.h ≤ 4) ∧ (1 ≤ c.v ∧ c.v ≤ 4)
  rat : ∀ c ∈ cs, (mxH cs).tmod c.h = 0 ∧ (mxV cs).tmod c.v = 0
  mh : 1 ≤ mxH cs ∧ mxH cs ≤ 4
  mv : 1 ≤ mxV cs ∧ mxV cs ≤ 4
  le : ∀ c ∈ cs, c.h ≤ mxH cs ∧ c.v ≤ mxV cs
theorem chk_fr {w h : Int} {cs : List Cp} (hc : Chk w h cs = 0) : Fr w h cs := by
  unfold Chk at hc
  by_cases hE : Emp w h
  · rw [if_pos hE] at hc; omega
  rw [if_neg hE] at hc
  by_cases hB : cs.length < 1 ∨ 4 < cs.length ∨ Bad cs
  · rw [if_pos hB] at hc; omega
  rw [if_neg hB] at hc
  by_cases hF : Fac cs
  · rw [if_pos hF] at hc; omega
  rw [if_neg hF] at hc
  by_cases hR : Rat cs
  · rw [if_pos hR] at hc; omega
  have hB1 : ¬ cs.length < 1 := fun h => hB (.inl h)
  have hB2 : ¬ 4 < cs.length := fun h => hB (.inr (.inl h))
  have fac : ∀ c ∈ cs, (1 ≤ c.h ∧ c.h ≤ 4) ∧ (1 ≤ c.v ∧ c.v ≤ 4) := fun c hc => by
    have : ¬ (c.h < 1 ∨ 4 < c.h ∨ c.v < 1 ∨ 4 < c.v) := fun h => hF ⟨c, hc, h⟩
    omega
  unfold Emp at hE
  obtain ⟨a1, a2, a3⟩ := foldmax Cp.h cs 0
  obtain ⟨b1, b2, b3⟩ := foldmax Cp.v cs 0
  have m0 : cs[0] ∈ cs := List.getElem_mem (by omega)
  have f0 := fac _ m0
  refine ⟨by omega, by omega, by omega, fun h => hB (.inr (.inr h)), fac, fun c hc => ?_, ⟨?_, ?_⟩, ⟨?_, ?_⟩, fun c hc => ⟨a2 c hc, b2 c hc⟩⟩
  · have : ¬ ((mxH cs).tmod c.h ≠ 0 ∨ (mxV cs).tmod c.v ≠ 0) := fun h => hR ⟨c, hc, h⟩
    omega
  · have : cs[0].h ≤ mxH cs := a2 _ m0
    omega
  · exact a3 4 (by omega) fun c hc => (fac c hc).1.2
  · have : cs[0].v ≤ mxV cs := b2 _ m0
    omega
  · exact b3 4 (by omega) fun c hc => (fac c hc).2.2

/-! ### quotients, rounded up -/
def cl (a b : Int) : Int := (a + b - 1) / b
theorem cl_pos {a b : Int} (ha : 0 ≤ a) (hb : 1 ≤ b) : 0 ≤ cl a b := Int.ediv_nonneg (by omega) (by omega)
theorem cl_le {a b : Int} (ha : 0 ≤ a) (hb : 1 ≤ b) : cl a b ≤ a := by
  unfold cl
  have h1 := Int.ediv_mul_le (a + b - 1) (show b ≠ 0 by omega)
  have h2 : 0 ≤ (a + b - 1) / b := Int.ediv_nonneg (by omega) (by omega)
  generalize (a + b - 1) / b = q at *
  by_cases hq : q ≤ a
  · exact hq
  · have h3 : (a + 1) * b ≤ q * b := Int.mul_le_mul_of_nonneg_right (by omega) (by omega)
    have h4 : a * 1 ≤ a * b := Int.mul_le_mul_of_nonneg_left hb ha
    rw [Int.add_mul] at h3
    omega
theorem cl_ge1 {a b : Int} (ha : 1 ≤ a) (hb : 1 ≤ b) : 1 ≤ cl a b := by
  unfold cl
  exact (Int.le_ediv_iff_mul_le (by omega)).2 (by omega)
theorem cl_zero : cl 0 8 = 0 := by decide
theorem up_ok {a b : Int} {H : Hp} {Q : Int → Hp → Prop} (ha : 0 ≤ a ∧ a ≤ 2305843009213693952) (hb : 1 ≤ b ∧ b ≤ 2305843009213693952) (hQ : Q (cl a b) H) : geom_up.s a b H Q := by
  unfold geom_up.s
  refine ⟨by omega, ?_⟩
  rw [w64 (x := a + b) (by omega), w64 (x := a + b - 1) (by omega), Int.tdiv_eq_ediv_of_nonneg (by omega)]
  have h1 := cl_pos ha.1 hb.1
  have h2 := cl_le ha.1 hb.1
  rw [show (a + b - 1) / b = cl a b from rfl, w64 (by omega)]
  exact Lt.of hQ
theorem Ceil_ok {a b : Int} {H : Hp} {Q : Int → Hp → Prop} (ha : 0 ≤ a ∧ a ≤ 4611686018427387904) (hb : 1 ≤ b) (hQ : Q (cl a b) H) : mosaicref14_Ceil.s a b H Q := by
  unfold mosaicref14_Ceil.s
  refine ⟨by omega, ?_⟩
  rw [Int.tdiv_eq_ediv_of_nonneg ha.1]
  have h0 : 0 ≤ a / b := Int.ediv_nonneg ha.1 (by omega)
  have h1 := Int.ediv_mul_le a (show b ≠ 0 by omega)
  have h2 : a / b ≤ a := Int.ediv_le_self _ ha.1
  have h3 := Int.lt_ediv_add_one_mul_self a (show 0 < b by omega)
  have h4 : 0 ≤ a / b * b := Int.mul_nonneg h0 (by omega)
  rw [w64 (x := a / b) (by omega), w64 (x := a / b * b) (by omega)]
  rw [Int.add_mul] at h3
  by_cases hc : a / b * b < a
  · refine ite_t (dect hc) (Lt.of ?_)
    have : cl a b = a / b + 1 := by
      unfold cl
      have e : a + b - 1 = (a - 1 - a / b * b) + (a / b + 1) * b := by rw [Int.add_mul]; omega
      rw [e, Int.add_mul_ediv_right _ _ (by omega), Int.ediv_eq_zero_of_lt (by omega) (by omega)]
      omega
    rw [w64 (by omega), ← this]
    exact hQ
  · refine ite_f (decf hc) ?_
    have : cl a b = a / b := by
      unfold cl
      have e : a + b - 1 = (b - 1) + (a / b) * b := by omega
      rw [e, Int.add_mul_ediv_right _ _ (by omega), Int.ediv_eq_zero_of_lt (by omega) (by omega)]
      omega
    rw [← this]
    exact hQ

/-! ### sizes -/
open Classical in
noncomputable def Sam (w h : Int) (cs : List Cp) (i : Int) : Int × Int :=
  if Chk w h cs = 0 ∧ 0 ≤ i then match cs[i.toNat]? with | some c => (cl (w * c.h) (mxH cs), cl (h * c.v) (mxV cs)) | none => (0, 0) else (0, 0)
noncomputable def Blo (w h : Int) (cs : List Cp) (i : Int) : Int × Int := (cl (Sam w h cs i).1 8, cl (Sam w h cs i).2 8)
theorem mul_le4 {a b : Int} (ha : 0 ≤ a ∧ a ≤ 65535) (hb : 0 ≤ b ∧ b ≤ 4) : 0 ≤ a * b ∧ a * b ≤ 262140 :=
  ⟨Int.mul_nonneg ha.1 hb.1, by have := Int.mul_le_mul ha.2 hb.2 hb.1 (by omega); omega⟩
theorem sam_le {w h : Int} {cs : List Cp} {i : Int} : (0 ≤ (Sam w h cs i).1 ∧ (Sam w h cs i).1 ≤ 262140) ∧ (0 ≤ (Sam w h cs i).2 ∧ (Sam w h cs i).2 ≤ 262140) := by
  unfold Sam
  split
  · rename_i hc
    have fr := chk_fr hc.1
    split
    · rename_i c hcc
      have hm := List.mem_of_getElem? hcc
      have f := fr.fac c hm
      have := fr.w1; have := fr.h1; have := fr.mh; have := fr.mv
      have m1 := mul_le4 (a := w) (b := c.h) (by omega) (by omega)
      have m2 := mul_le4 (a := h) (b := c.v) (by omega) (by omega)
      have c1 := cl_pos m1.1 (b := mxH cs) (by omega)
      have c2 := cl_le m1.1 (b := mxH cs) (by omega)
      have c3 := cl_pos m2.1 (b := mxV cs) (by omega)
      have c4 := cl_le m2.1 (b := mxV cs) (by omega)
      simp only
      omega
    · simp
  · simp
theorem blo_le {w h : Int} {cs : List Cp} {i : Int} : (0 ≤ (Blo w h cs i).1 ∧ (Blo w h cs i).1 ≤ 262140) ∧ (0 ≤ (Blo w h cs i).2 ∧ (Blo w h cs i).2 ≤ 262140) := by
  have s := sam_le (w := w) (h := h) (cs := cs) (i := i)
  have c1 := cl_pos s.1.1 (b := 8) (by omega)
  have c2 := cl_le s.1.1 (b := 8) (by omega)
  have c3 := cl_pos s.2.1 (b := 8) (by omega)
  have c4 := cl_le s.2.1 (b := 8) (by omega)
  unfold Blo
  simp only
  omega
section
variable {w h : Int} {s : Sl} {cs : List Cp} {H : Hp} {g : Int}
theorem sam_no {i : Int} (hn : ¬ (Chk w h cs = 0 ∧ 0 ≤ i ∧ i < cs.length)) : Sam w h cs i = (0, 0) := by
  unfold Sam
  split
  · rename_i hc
    rw [List.getElem?_eq_none (by omega)]
  · rfl
theorem sam_at {i : Int} {c : Cp} (h0 : Chk w h cs = 0) (hi : 0 ≤ i) (hc : cs[i.toNat]? = some c) : Sam w h cs i = (cl (w * c.h) (mxH cs), cl (h * c.v) (mxV cs)) := by
  unfold Sam
  rw [if_pos ⟨h0, hi⟩, hc]
theorem join_or3 {H : Hp} {J : Bool → Hp → Prop} {a b c : Bool} (h : J (a || b || c) H) : if a = true then J true H else if b = true then J true H else J c H := by
  cases a <;> cases b <;> simpa using h
theorem gSamples_ok {i : Int} {Q : (Int × Int) → Hp → Prop} (hs : Cs H s cs) (hok : ∀ c ∈ cs, c.ok) (hl : cs.length ≤ 140737488355328) (hQ : ∀ H', Keep H H' → Q (Sam w h cs i) H') : geom_Samples.s g w h s i H Q := by
  unfold geom_Samples.s
  intro b1 H2 k2 z2 z2'
  replace k2 : Keep H H2 := k2.keep (by simp)
  replace hs := hs.keep k2
  replace hQ : ∀ H', Keep H2 H' → Q (Sam w h cs i) H' := fun H' k => hQ H' (k2.trans k)
  have hn := hs.n
  refine Join.intro (fun x H' => (x = true ↔ ¬ (Chk w h cs = 0 ∧ 0 ≤ i ∧ i < cs.length)) ∧ Keep H2 H') ?_ fun J hJ => ?_
  · rintro x H5 ⟨hx, k5⟩
    by_cases hc : Chk w h cs = 0 ∧ 0 ≤ i ∧ i < cs.length
    · refine ite_f (by cases x with | false => rfl | true => exact absurd hc (hx.1 rfl)) ?_
      have fr := chk_fr hc.1
      refine most_ok (hs.keep k5) hok hl fun H7 k7 => ⟨Pv.keep k7 (by have := k5.size; simp; omega), ?_⟩
      have hi : i.toNat < cs.length := by omega
      obtain ⟨b, o, ha, hl7⟩ := (hs.keep (k5.trans k7)).get (get_some hi)
      have ho := ok_get hok (get_some hi)
      have f := fr.fac _ (List.getElem_mem hi)
      have := fr.w1; have := fr.h1; have := fr.mh; have := fr.mv
      refine ⟨by omega, by omega, _, ha, _, _, _, _, hl7, fun b18 H20 c20 z20 z20' => ?_⟩
      have k20 : Keep H7 H20 := c20.keep (by simp)
      have m1 := mul_le4 (a := w) (b := cs[i.toNat].h) (by omega) (by omega)
      have m2 := mul_le4 (a := h) (b := cs[i.toNat].v) (by omega) (by omega)
      have := k5.size; have := k7.size
      rw [wu ho.2.1, wu ho.2.2.1, w64 (x := w * _) (by omega), w64 (x := h * _) (by omega)]
      refine up_ok (by omega) (by omega) ⟨Pv.keep (Keep.refl _) (by simp; omega), up_ok (by omega) (by omega) ⟨Pv.keep (Keep.refl _) (by simp; omega), ?_⟩⟩
      have e := sam_at (w := w) (h := h) hc.1 hc.2.1 (get_some hi)
      have q : Q (Sam w h cs i) H20 := hQ _ ((k5.trans k7).trans k20)
      rw [e] at q
      exact q
    · refine ite_t (hx.2 hc) ?_
      have q : Q (Sam w h cs i) H5 := hQ _ k5
      rw [sam_no hc] at q
      exact q
  · refine gCheck_ok hs hok hl fun H33 k33 => ⟨Pv.keep k33 (by simp; omega), join_or3 (hJ _ _ ⟨?_, k33⟩)⟩
    rw [hn]
    simp only [Bool.or_eq_true, decide_eq_true_eq, bne_iff_ne]
    constructor
    · rintro ((h1 | h1) | h1) <;> omega
    · intro h1
      by_cases h0 : Chk w h cs = 0 <;> omega
theorem rSamples_ok {i : Int} {Q : (Int × Int) → Hp → Prop} (hs : Cs H s cs) (hok : ∀ c ∈ cs, c.ok) (hl : cs.length ≤ 140737488355328) (hQ : ∀ H', Keep H H' → Q (Sam w h cs i) H') : mosaicref14_Samples.s g w h s i H Q := by
  unfold mosaicref14_Samples.s
  intro b1 H2 k2 z2 z2'
  replace k2 : Keep H H2 := k2.keep (by simp)
  replace hs := hs.keep k2
  replace hQ : ∀ H', Keep H2 H' → Q (Sam w h cs i) H' := fun H' k => hQ H' (k2.trans k)
  have hn := hs.n
  refine Join.intro (fun x H' => (x = true ↔ ¬ (Chk w h cs = 0 ∧ 0 ≤ i ∧ i < cs.length)) ∧ Keep H2 H') ?_ fun J hJ => ?_
  · rintro x H5 ⟨hx, k5⟩
    by_cases hc : Chk w h cs = 0 ∧ 0 ≤ i ∧ i < cs.length
    · refine ite_f (by cases x with | false => rfl | true => exact absurd hc (hx.1 rfl)) ?_
      have fr := chk_fr hc.1
      refine greatest_ok (hs.keep k5) hok hl fun H7 k7 => ⟨Pv.keep k7 (by have := k5.size; simp; omega), ?_⟩
      have hi : i.toNat < cs.length := by omega
      obtain ⟨b, o, ha, hl7⟩ := (hs.keep (k5.trans k7)).get (get_some hi)
      have ho := ok_get hok (get_some hi)
      have f := fr.fac _ (List.getElem_mem hi)
      have := fr.w1; have := fr.h1; have := fr.mh; have := fr.mv
      have m1 := mul_le4 (a := w) (b := cs[i.toNat].h) (by omega) (by omega)
      have m2 := mul_le4 (a := h) (b := cs[i.toNat].v) (by omega) (by omega)
      have := k5.size; have := k7.size
      refine ⟨by omega, by omega, _, ha, ldI_of hl7 (j := 1) rfl ⟨by omega, by omega, ldI_of hl7 (j := 2) rfl ?_⟩⟩
      rw [wu ho.2.1, wu ho.2.2.1, w64 (x := w * _) (by omega), w64 (x := h * _) (by omega)]
      refine Ceil_ok (by omega) (by omega) ⟨Pv.keep (Keep.refl _) (by simp; omega), cell_of hl7 rfl, Ceil_ok (by omega) (by omega) ⟨Pv.keep (Keep.refl _) (by simp; omega), ?_⟩⟩
      have e := sam_at (w := w) (h := h) hc.1 hc.2.1 (get_some hi)
      have q : Q (Sam w h cs i) H7 := hQ _ (k5.trans k7)
      rw [e] at q
      exact q
    · refine ite_t (hx.2 hc) ?_
      have q : Q (Sam w h cs i) H5 := hQ _ k5
      rw [sam_no hc] at q
      exact q
  · refine rCheck_ok hs hok hl fun H33 k33 => ⟨Pv.keep k33 (by simp; omega), join_or3 (hJ _ _ ⟨?_, k33⟩)⟩
    rw [hn]
    simp only [Bool.or_eq_true, decide_eq_true_eq, bne_iff_ne]
    constructor
    · rintro ((h1 | h1) | h1) <;> omega
    · intro h1
      by_cases h0 : Chk w h cs = 0 <;> omega
theorem gBlocks_ok {i : Int} {Q : (Int × Int) → Hp → Prop} (hs : Cs H s cs) (hok : ∀ c ∈ cs, c.ok) (hl : cs.length ≤ 140737488355328) (hQ : ∀ H', Keep H H' → Q (Blo w h cs i) H') : geom_Blocks.s g w h s i H Q := by
  unfold geom_Blocks.s
  intro b1 H2 k2 z2 z2'
  replace k2 : Keep H H2 := k2.keep (by simp)
  have sl := sam_le (w := w) (h := h) (cs := cs) (i := i)
  exact gSamples_ok (hs.keep k2) hok hl fun H4 k4 => up_ok (by omega) (by omega) (up_ok (by omega) (by omega) (hQ _ (k2.trans k4)))
theorem rBlocks_ok {i : Int} {Q : (Int × Int) → Hp → Prop} (hs : Cs H s cs) (hok : ∀ c ∈ cs, c.ok) (hl : cs.length ≤ 140737488355328) (hQ : ∀ H', Keep H H' → Q (Blo w h cs i) H') : mosaicref14_Blocks.s g w h s i H Q := by
  unfold mosaicref14_Blocks.s
  intro b1 H2 k2 z2 z2'
  replace k2 : Keep H H2 := k2.keep (by simp)
  have sl := sam_le (w := w) (h := h) (cs := cs) (i := i)
  exact rSamples_ok (hs.keep k2) hok hl fun H4 k4 => Ceil_ok (by omega) (by omega) (Ceil_ok (by omega) (by omega) (hQ _ (k2.trans k4)))
open Classical in
noncomputable def Mos (w h : Int) (cs : List Cp) : Int × Int := if Chk w h cs = 0 then (mxH cs, mxV cs) else (0, 0)
theorem gMost_ok {Q : (Int × Int) → Hp → Prop} (hs : Cs H s cs) (hok : ∀ c ∈ cs, c.ok) (hl : cs.length ≤ 140737488355328) (hQ : ∀ H', Keep H H' → Q (Mos w h cs) H') : geom_Most.s g w h s H Q := by
  unfold geom_Most.s
  intro b1 H2 k2 z2 z2'
  replace k2 : Keep H H2 := k2.keep (by simp)
  refine gCheck_ok (hs.keep k2) hok hl fun H4 k4 => ⟨Pv.keep k4 (by simp; omega), ?_⟩
  by_cases hc : Chk w h cs = 0
  · refine ite_f (bnei hc) (most_ok (hs.keep (k2.trans k4)) hok hl fun H7 k7 => ?_)
    have := hQ _ ((k2.trans k4).trans k7)
    unfold Mos at this
    rwa [if_pos hc] at this
  · refine ite_t (bnet hc) ?_
    have := hQ _ (k2.trans k4)
    unfold Mos at this
    rwa [if_neg hc] at this
theorem rMost_ok {Q : (Int × Int) → Hp → Prop} (hs : Cs H s cs) (hok : ∀ c ∈ cs, c.ok) (hl : cs.length ≤ 140737488355328) (hQ : ∀ H', Keep H H' → Q (Mos w h cs) H') : mosaicref14_Most.s g w h s H Q := by
  unfold mosaicref14_Most.s
  intro b1 H2 k2 z2 z2'
  replace k2 : Keep H H2 := k2.keep (by simp)
  refine rCheck_ok (hs.keep k2) hok hl fun H4 k4 => ⟨Pv.keep k4 (by simp; omega), ?_⟩
  by_cases hc : Chk w h cs = 0
  · refine ite_f (bnei hc) (greatest_ok (hs.keep (k2.trans k4)) hok hl fun H7 k7 => ?_)
    have := hQ _ ((k2.trans k4).trans k7)
    unfold Mos at this
    rwa [if_pos hc] at this
  · refine ite_t (bnet hc) ?_
    have := hQ _ (k2.trans k4)
    unfold Mos at this
    rwa [if_neg hc] at this
end
/-! ### parts, units, intervals -/
structure Pa where
  comp : Int
  dc : Int
  ac : Int
def cP (p : Pa) : List Value := c52 p.comp p.dc p.ac
theorem cP_len (p : Pa) : (cP p).length = 3 := rfl
theorem cP_ones (p : Pa) : ∀ u ∈ cP p, u.oneCell' = true := one52 _ _ _
def Pa.ok (p : Pa) : Prop := (-9223372036854775808 ≤ p.comp ∧ p.comp ≤ 9223372036854775807) ∧ (0 ≤ p.dc ∧ p.dc ≤ 255) ∧ (0 ≤ p.ac ∧ p.ac ≤ 255)
abbrev Ps (H : Hp) (s : Sl) (ps : List Pa) : Prop := SlV H s 3 cP ps
def PtBad (cs : List Cp) (ps : List Pa) (i : Nat) (p : Pa) : Prop := p.comp < 0 ∨ (cs.length : Int) ≤ p.comp ∨ (∃ j q, i = j + 1 ∧ ps[j]? = some q ∧ p.comp ≤ q.comp) ∨ 3 < p.dc ∨ 3 < p.ac
def PBad (cs : List Cp) (ps : List Pa) : Prop := ∃ i p, ps[i]? = some p ∧ PtBad cs ps i p
def hv (cs : List Cp) (p : Pa) : Int := match cs[p.comp.toNat]? with | some c => c.h * c.v | none => 0
def uSum (cs : List Cp) (ps : List Pa) : Int := (ps.map (hv cs)).sum
theorem uSum_next {cs : List Cp} {ps : List Pa} {i : Nat} {p : Pa} (h : ps[i]? = some p) : uSum cs (ps.take (i + 1)) = uSum cs (ps.take i) + hv cs p := by
  rw [take_next h]; simp [uSum]
open Classical in
noncomputable def Prt (w h : Int) (cs : List Cp) (ps : List Pa) : Int :=
  if Chk w h cs ≠ 0 then Chk w h cs else if ps.length < 1 ∨ 4 < ps.length then 143 else if PBad cs ps then 143 else if 1 < ps.length ∧ 10 < uSum cs ps then 143 else 0
open Classical in
noncomputable def Uni (w h : Int) (cs : List Cp) (ps : List Pa) : Int × Int :=
  if Prt w h cs ps ≠ 0 then (0, 0) else if ps.length = 1 then Blo w h cs ((ps.map Pa.comp).headD 0) else (cl w (8 * mxH cs), cl h (8 * mxV cs))
noncomputable def Itv (w h : Int) (cs : List Cp) (ps : List Pa) (r : Int) : Int :=
  if (Uni w h cs ps).1 = 0 ∨ r < 0 then 0 else if r = 0 then 1 else cl ((Uni w h cs ps).1 * (Uni w h cs ps).2) r
section
variable {w h : Int} {s t : Sl} {cs : List Cp} {ps : List Pa} {H : Hp} {g : Int}
theorem prt1 (e : Chk w h cs ≠ 0) : Prt w h cs ps = Chk w h cs := by unfold Prt; rw [if_pos e]
theorem prt2 (e : Chk w h cs = 0) (l : ps.length < 1 ∨ 4 < ps.length) : Prt w h cs ps = 143 := by unfold Prt; rw [if_neg (by simpa using e), if_pos l]
theorem prt3 (e : Chk w h cs = 0) (l : ¬ (ps.length < 1 ∨ 4 < ps.length)) (b : PBad cs ps) : Prt w h cs ps = 143 := by unfold Prt; rw [if_neg (by simpa using e), if_neg l, if_pos b]
theorem prt4 (e : Chk w h cs = 0) (l : ¬ (ps.length < 1 ∨ 4 < ps.length)) (b : ¬ PBad cs ps) (u : 1 < ps.length ∧ 10 < uSum cs ps) : Prt w h cs ps = 143 := by unfold Prt; rw [if_neg (by simpa using e), if_neg l, if_neg b, if_pos u]
theorem prt5 (e : Chk w h cs = 0) (l : ¬ (ps.length < 1 ∨ 4 < ps.length)) (b : ¬ PBad cs ps) (u : ¬ (1 < ps.length ∧ 10 < uSum cs ps)) : Prt w h cs ps = 0 := by unfold Prt; rw [if_neg (by simpa using e), if_neg l, if_neg b, if_neg u]
theorem join_and {H : Hp} {J : Bool → Hp → Prop} {a b : Bool} (h : J (a && b) H) : if a = true then J b H else J false H := by
  cases a <;> simpa using h
theorem bool_t {x : Bool} {p : Prop} (h : x = true ↔ p) (hp : p) : x = true := h.2 hp
theorem bool_f {x : Bool} {p : Prop} (h : x = true ↔ p) (hp : ¬ p) : x = false := by
  cases x with
  | false => rfl
  | true => exact absurd (h.1 rfl) hp
theorem hv_at {p : Pa} {c : Cp} (h : cs[p.comp.toNat]? = some c) : hv cs p = c.h * c.v := by unfold hv; rw [h]
theorem mul16 {a b : Int} (ha : 1 ≤ a ∧ a ≤ 4) (hb : 1 ≤ b ∧ b ≤ 4) : 1 ≤ a * b ∧ a * b ≤ 16 :=
  ⟨by have := Int.mul_le_mul ha.1 hb.1 (by omega) (by omega); omega, by have := Int.mul_le_mul ha.2 hb.2 (by omega) (by omega); omega⟩
theorem gParts_ok {Q : Int → Hp → Prop} (hs : Cs H s cs) (hok : ∀ c ∈ cs, c.ok) (hl : cs.length ≤ 140737488355328) (ht : Ps H t ps) (hpk : ∀ p ∈ ps, p.ok) (hQ : ∀ H', Keep H H' → Q (Prt w h cs ps) H') : geom_Parts.s g w h s t H Q := by
  unfold geom_Parts.s
  intro b1 H2 k2 z2 z2'
  replace k2 : Keep H H2 := k2.keep (by simp)
  replace hs := hs.keep k2
  replace ht := ht.keep k2
  replace hQ : ∀ H', Keep H2 H' → Q (Prt w h cs ps) H' := fun H' k => hQ H' (k2.trans k)
  have hn := hs.n
  have hm := ht.n
  refine gCheck_ok hs hok hl fun H4 k4 => ⟨Pv.keep k4 (by simp; omega), ?_⟩
  by_cases hC : ¬ Chk w h cs = 0
  · refine ite_t (bnet hC) ?_
    rw [← prt1 (ps := ps) hC]; exact hQ _ k4
  replace hC := Classical.not_not.1 hC
  refine ite_f (bnei hC) ?_
  have fr := chk_fr hC
  refine Join.intro (fun x H' => (x = true ↔ (ps.length < 1 ∨ 4 < ps.length)) ∧ H4 = H') ?_ fun J hJ => join_or2 (hJ _ _ ⟨by rw [hm]; simp only [Bool.or_eq_true, decide_eq_true_eq]; omega, rfl⟩)
  rintro x _ ⟨hx, rfl⟩
  by_cases hL : ps.length < 1 ∨ 4 < ps.length
  · refine ite_t (hx.2 hL) ?_
    rw [← prt2 (ps := ps) hC hL]; exact hQ _ k4
  refine ite_f (bool_f hx hL) ?_
  refine Fix.intro (fun (x : Int × Int × Int) H' => ∃ i : Nat, x.2.2 = (i : Int) ∧ i ≤ ps.length ∧ (i = 0 ∧ x.1 = -1 ∨ ∃ j q, i = j + 1 ∧ ps[j]? = some q ∧ x.1 = q.comp) ∧ (∀ j p, j < i → ps[j]? = some p → ¬ PtBad cs ps j p) ∧ x.2.1 = uSum cs (ps.take i) ∧ (0 ≤ x.2.1 ∧ x.2.1 ≤ 16 * i) ∧ Keep H2 H')
    (fun (x : Int × Int × Int) _ => ps.length - x.2.2.toNat) ⟨0, rfl, by omega, .inl ⟨rfl, rfl⟩, fun j c hj => by omega, rfl, by simp, k4⟩ ?_
  rintro ⟨last, sum, _⟩ H12 ⟨i, rfl, hi, hlast, hno, hsum, hsb, k12⟩ rec hrec
  simp only at hlast hsum hsb ⊢
  by_cases hc : i < ps.length
  · obtain ⟨b, o, ha, hl12⟩ := (ht.keep k12).get (get_some hc)
    have ho := hpk _ (List.getElem_mem hc)
    refine ite_t (dect (by omega)) ⟨by omega, by omega, _, ha, _, _, _, by rw [Int.toNat_natCast]; exact hl12, fun b23 H25 c25 _ _ => ?_⟩
    have k25 : Keep H2 H25 := k12.trans (c25.keep (by simp))
    have hpt : (ps[i].comp ≤ last ∨ (cs.length : Int) ≤ ps[i].comp ∨ 3 < ps[i].dc ∨ 3 < ps[i].ac) ↔ PtBad cs ps i ps[i] := by
      unfold PtBad
      rcases hlast with ⟨rfl, rfl⟩ | ⟨j, q, rfl, hq, rfl⟩
      · constructor
        · rintro (h1 | h1 | h1 | h1)
          · exact .inl (by omega)
          · exact .inr (.inl h1)
          · exact .inr (.inr (.inr (.inl h1)))
          · exact .inr (.inr (.inr (.inr h1)))
        · rintro (h1 | h1 | ⟨j, q, h1, _⟩ | h1 | h1)
          · exact .inl (by omega)
          · exact .inr (.inl h1)
          · omega
          · exact .inr (.inr (.inl h1))
          · exact .inr (.inr (.inr h1))
      · have hq0 : 0 ≤ q.comp := by
          have := hno j q (by omega) hq
          unfold PtBad at this
          omega
        constructor
        · rintro (h1 | h1 | h1 | h1)
          · exact .inr (.inr (.inl ⟨j, q, rfl, hq, h1⟩))
          · exact .inr (.inl h1)
          · exact .inr (.inr (.inr (.inl h1)))
          · exact .inr (.inr (.inr (.inr h1)))
        · rintro (h1 | h1 | ⟨j', q', h1, h2, h3⟩ | h1 | h1)
          · exact .inl (by omega)
          · exact .inr (.inl h1)
          · obtain rfl : j = j' := by omega
            rw [hq] at h2
            cases h2
            exact .inl h3
          · exact .inr (.inr (.inl h1))
          · exact .inr (.inr (.inr h1))
    refine Join.intro (fun x H' => (x = true ↔ PtBad cs ps i ps[i]) ∧ H25 = H') ?_ fun J hJ => join_or4 (hJ _ _ ⟨by rw [← hpt, hn]; simp [or_assoc], rfl⟩)
    rintro x _ ⟨hx, rfl⟩
    by_cases hB : PtBad cs ps i ps[i]
    · refine ite_t (hx.2 hB) ?_
      rw [← prt3 (ps := ps) hC hL ⟨i, _, get_some hc, hB⟩]; exact hQ _ k25
    refine ite_f (bool_f hx hB) ?_
    have hB' := hB
    unfold PtBad at hB'
    have hci : ps[i].comp.toNat < cs.length := by omega
    obtain ⟨b', o', ha', hl'⟩ := (hs.keep k25).get (get_some hci)
    have ho' := ok_get hok (get_some hci)
    have f := fr.fac _ (List.getElem_mem hci)
    have hvv := hv_at (p := ps[i]) (get_some hci)
    have m := mul16 f.1 f.2
    refine ⟨by omega, by omega, _, ha', ldI_of hl' (j := 1) rfl ⟨by omega, by omega, ldI_of hl' (j := 2) rfl ?_⟩⟩
    rw [wu ho'.2.1, wu ho'.2.2.1, w64 (x := cs[ps[i].comp.toNat].h * _) (by omega), w64 (x := sum + _) (by omega), nx_i hc (by omega)]
    refine hrec _ _ ⟨i + 1, rfl, by omega, .inr ⟨i, _, rfl, get_some hc, rfl⟩, fun j p hj hp => ?_, ?_, ?_, k25⟩ (by simp only [Int.toNat_natCast]; omega)
    · rcases Nat.lt_succ_iff_lt_or_eq.1 hj with h1 | h1
      · exact hno j p h1 hp
      · subst h1
        rw [get_some hc] at hp
        cases hp
        exact hB
    · rw [uSum_next (get_some hc), hvv, hsum]
    · simp only; omega
  · refine ite_f (decf (by omega)) ?_
    have hB : ¬ PBad cs ps := fun ⟨j, p, h1, h2⟩ => hno j p (by have := (List.getElem?_eq_some_iff.1 h1).1; omega) h1 h2
    have hall : ps.take i = ps := List.take_of_length_le (by omega)
    rw [hall] at hsum
    refine Join.intro (fun x H' => (x = true ↔ (1 < ps.length ∧ 10 < uSum cs ps)) ∧ H12 = H') ?_ fun J hJ => join_and (hJ _ _ ⟨by rw [hm, hsum]; simp only [Bool.and_eq_true, decide_eq_true_eq]; omega, rfl⟩)
    rintro x _ ⟨hx, rfl⟩
    by_cases hU : 1 < ps.length ∧ 10 < uSum cs ps
    · refine ite_t (hx.2 hU) ?_
      rw [← prt4 (ps := ps) hC hL hB hU]; exact hQ _ k12
    · refine ite_f (bool_f hx hU) ?_
      rw [← prt5 (ps := ps) hC hL hB hU]; exact hQ _ k12
theorem join_or5 {H : Hp} {J : Bool → Hp → Prop} {a b c d e : Bool} (h : J (a || b || c || d || e) H) : if a = true then J true H else if b = true then J true H else if c = true then J true H else if d = true then J true H else J e H := by
  cases a <;> cases b <;> cases c <;> cases d <;> simpa using h
theorem rParts_ok {Q : Int → Hp → Prop} (hs : Cs H s cs) (hok : ∀ c ∈ cs, c.ok) (hl : cs.length ≤ 140737488355328) (ht : Ps H t ps) (hpk : ∀ p ∈ ps, p.ok) (hQ : ∀ H', Keep H H' → Q (Prt w h cs ps) H') : mosaicref14_Parts.s g w h s t H Q := by
  unfold mosaicref14_Parts.s
  intro b1 H2 k2 z2 z2'
  replace k2 : Keep H H2 := k2.keep (by simp)
  replace hs := hs.keep k2
  replace ht := ht.keep k2
  replace hQ : ∀ H', Keep H2 H' → Q (Prt w h cs ps) H' := fun H' k => hQ H' (k2.trans k)
  have hn := hs.n
  have hm := ht.n
  refine rCheck_ok hs hok hl fun H4 k4 => ⟨Pv.keep k4 (by simp; omega), ?_⟩
  by_cases hC : ¬ Chk w h cs = 0
  · refine ite_t (bnet hC) ?_
    rw [← prt1 (ps := ps) hC]; exact hQ _ k4
  replace hC := Classical.not_not.1 hC
  refine ite_f (bnei hC) ?_
  have fr := chk_fr hC
  refine Join.intro (fun x H' => (x = true ↔ (ps.length < 1 ∨ 4 < ps.length)) ∧ H4 = H') ?_ fun J hJ => join_or2 (hJ _ _ ⟨by rw [hm]; simp only [Bool.or_eq_true, decide_eq_true_eq, beq_iff_eq]; omega, rfl⟩)
  rintro x _ ⟨hx, rfl⟩
  by_cases hL : ps.length < 1 ∨ 4 < ps.length
  · refine ite_t (hx.2 hL) ?_
    rw [← prt2 (ps := ps) hC hL]; exact hQ _ k4
  refine ite_f (bool_f hx hL) ?_
  refine Fix.intro (fun (x : Int × Int) H' => ∃ i : Nat, x.2 = (i : Int) ∧ i ≤ ps.length ∧ (∀ j p, j < i → ps[j]? = some p → ¬ PtBad cs ps j p) ∧ x.1 = uSum cs (ps.take i) ∧ (0 ≤ x.1 ∧ x.1 ≤ 16 * i) ∧ Keep H2 H')
    (fun (x : Int × Int) _ => ps.length - x.2.toNat) ⟨0, rfl, by omega, fun j c hj => by omega, rfl, by simp, k4⟩ ?_
  rintro ⟨sum, _⟩ H12 ⟨i, rfl, hi, hno, hsum, hsb, k12⟩ rec hrec
  simp only at hsum hsb ⊢
  by_cases hc : i < ps.length
  · obtain ⟨b, o, ha, hl12⟩ := (ht.keep k12).get (get_some hc)
    have ho := hpk _ (List.getElem_mem hc)
    refine ite_t (dect (by omega)) ⟨by omega, by omega, _, ha, _, _, _, by rw [Int.toNat_natCast]; exact hl12, fun b23 H25 c25 _ _ => ?_⟩
    have k25 : Keep H2 H25 := k12.trans (c25.keep (by simp))
    refine Join.intro (fun x H' => (x = true ↔ PtBad cs ps i ps[i]) ∧ H25 = H') ?_ fun J hJ => ?_
    · rintro x _ ⟨hx, rfl⟩
      by_cases hB : PtBad cs ps i ps[i]
      · refine ite_t (hx.2 hB) ?_
        rw [← prt3 (ps := ps) hC hL ⟨i, _, get_some hc, hB⟩]; exact hQ _ k25
      refine ite_f (bool_f hx hB) ?_
      have hB' := hB
      unfold PtBad at hB'
      have hci : ps[i].comp.toNat < cs.length := by omega
      obtain ⟨b', o', ha', hl'⟩ := (hs.keep k25).get (get_some hci)
      have ho' := ok_get hok (get_some hci)
      have f := fr.fac _ (List.getElem_mem hci)
      have hvv := hv_at (p := ps[i]) (get_some hci)
      have m := mul16 f.1 f.2
      refine ⟨by omega, by omega, _, ha', ldI_of hl' (j := 1) rfl ⟨by omega, by omega, ldI_of hl' (j := 2) rfl ?_⟩⟩
      rw [wu ho'.2.1, wu ho'.2.2.1, w64 (x := cs[ps[i].comp.toNat].h * _) (by omega), w64 (x := sum + _) (by omega), nx_i hc (by omega)]
      refine hrec _ _ ⟨i + 1, rfl, by omega, fun j p hj hp => ?_, ?_, ?_, k25⟩ (by simp only [Int.toNat_natCast]; omega)
      · rcases Nat.lt_succ_iff_lt_or_eq.1 hj with h1 | h1
        · exact hno j p h1 hp
        · subst h1
          rw [get_some hc] at hp
          cases hp
          exact hB
      · rw [uSum_next (get_some hc), hvv, hsum]
      · simp only; omega
    · cases i with
      | zero =>
        have e : (decide (ps[0].comp < 0) || decide ((cs.length : Int) ≤ ps[0].comp) || decide ((3 : Int) < ps[0].dc) || decide ((3 : Int) < ps[0].ac)) = true ↔ PtBad cs ps 0 ps[0] := by
          unfold PtBad
          simp only [Bool.or_eq_true, decide_eq_true_eq, or_assoc]
          constructor
          · rintro (h1 | h1 | h1 | h1)
            · exact .inl h1
            · exact .inr (.inl h1)
            · exact .inr (.inr (.inr (.inl h1)))
            · exact .inr (.inr (.inr (.inr h1)))
          · rintro (h1 | h1 | ⟨j, q, h1, _⟩ | h1 | h1)
            · exact .inl h1
            · exact .inr (.inl h1)
            · omega
            · exact .inr (.inr (.inl h1))
            · exact .inr (.inr (.inr h1))
        have := join_or4 (H := H25) (J := J) (hJ _ _ ⟨e, rfl⟩)
        rw [hn]
        simpa using this
      | succ i =>
        obtain ⟨b', o', ha', hl'⟩ := (ht.keep k25).get (get_some (show i < ps.length by omega))
        rw [ha] at ha'
        obtain ⟨rfl, rfl⟩ : b = b' ∧ o = o' := by simpa using ha'
        have hpos : decide ((0 : Int) < ((i + 1 : Nat) : Int)) = true := dect (by omega)
        have e1 : IntKind.wrap .i64 (((i + 1 : Nat) : Int) - 1) = (i : Int) := by rw [w64 (by omega)]; omega
        rw [e1, hn]
        have e : (decide (ps[i + 1].comp < 0) || decide ((cs.length : Int) ≤ ps[i + 1].comp) || decide (ps[i + 1].comp ≤ ps[i].comp) || decide ((3 : Int) < ps[i + 1].dc) || decide ((3 : Int) < ps[i + 1].ac)) = true ↔ PtBad cs ps (i + 1) ps[i + 1] := by
          unfold PtBad
          simp only [Bool.or_eq_true, decide_eq_true_eq, or_assoc]
          constructor
          · rintro (h1 | h1 | h1 | h1 | h1)
            · exact .inl h1
            · exact .inr (.inl h1)
            · exact .inr (.inr (.inl ⟨i, _, rfl, get_some (by omega), h1⟩))
            · exact .inr (.inr (.inr (.inl h1)))
            · exact .inr (.inr (.inr (.inr h1)))
          · rintro (h1 | h1 | ⟨j, q, h1, h2, h3⟩ | h1 | h1)
            · exact .inl h1
            · exact .inr (.inl h1)
            · obtain rfl : i = j := by omega
              rw [get_some (by omega)] at h2
              have h2' : ps[i] = q := Option.some.inj h2
              exact .inr (.inr (.inl (by rw [h2']; exact h3)))
            · exact .inr (.inr (.inr (.inl h1)))
            · exact .inr (.inr (.inr (.inr h1)))
        have key := join_or5 (H := H25) (J := J) (hJ _ _ ⟨e, rfl⟩)
        by_cases h1 : ps[i + 1].comp < 0
        · exact ite_t (dect h1) (by rw [if_pos (dect h1)] at key; exact key)
        rw [if_neg (by simp [h1])] at key
        refine ite_f (decf h1) ?_
        by_cases h2 : (cs.length : Int) ≤ ps[i + 1].comp
        · exact ite_t (dect h2) (by rw [if_pos (dect h2)] at key; exact key)
        rw [if_neg (by simp; omega)] at key
        refine ite_f (decf h2) (ite_t hpos ⟨by omega, by omega, ?_⟩)
        rw [Int.toNat_natCast]
        exact ldI_of hl' (j := 0) rfl key
  · refine ite_f (decf (by omega)) ?_
    have hB : ¬ PBad cs ps := fun ⟨j, p, h1, h2⟩ => hno j p (by have := (List.getElem?_eq_some_iff.1 h1).1; omega) h1 h2
    have hall : ps.take i = ps := List.take_of_length_le (by omega)
    rw [hall] at hsum
    refine Join.intro (fun x H' => (x = true ↔ (1 < ps.length ∧ 10 < uSum cs ps)) ∧ H12 = H') ?_ fun J hJ => join_and (hJ _ _ ⟨by rw [hm, hsum]; simp only [Bool.and_eq_true, decide_eq_true_eq]; omega, rfl⟩)
    rintro x _ ⟨hx, rfl⟩
    by_cases hU : 1 < ps.length ∧ 10 < uSum cs ps
    · refine ite_t (hx.2 hU) ?_
      rw [← prt4 (ps := ps) hC hL hB hU]; exact hQ _ k12
    · refine ite_f (bool_f hx hU) ?_
      rw [← prt5 (ps := ps) hC hL hB hU]; exact hQ _ k12
theorem prt_fr (e : Prt w h cs ps = 0) : Chk w h cs = 0 ∧ Fr w h cs ∧ (1 ≤ ps.length ∧ ps.length ≤ 4) ∧ ¬ PBad cs ps ∧ (ps.length = 1 ∨ uSum cs ps ≤ 10) := by
  by_cases hC : ¬ Chk w h cs = 0
  · rw [prt1 hC] at e; exact absurd e hC
  replace hC := Classical.not_not.1 hC
  by_cases hL : ps.length < 1 ∨ 4 < ps.length
  · rw [prt2 hC hL] at e; omega
  by_cases hB : PBad cs ps
  · rw [prt3 hC hL hB] at e; omega
  by_cases hU : 1 < ps.length ∧ 10 < uSum cs ps
  · rw [prt4 hC hL hB hU] at e; omega
  exact ⟨hC, chk_fr hC, by omega, hB, by omega⟩
theorem uni_le : (0 ≤ (Uni w h cs ps).1 ∧ (Uni w h cs ps).1 ≤ 262140) ∧ (0 ≤ (Uni w h cs ps).2 ∧ (Uni w h cs ps).2 ≤ 262140) := by
  unfold Uni
  by_cases hP : Prt w h cs ps ≠ 0
  · rw [if_pos hP]; simp
  rw [if_neg hP]
  by_cases h1 : ps.length = 1
  · rw [if_pos h1]; exact blo_le
  rw [if_neg h1]
  have fr := (prt_fr (Classical.not_not.1 hP)).2.1
  have := fr.w1; have := fr.h1; have := fr.mh; have := fr.mv
  have c1 := cl_pos (a := w) (b := 8 * mxH cs) (by omega) (by omega)
  have c2 := cl_le (a := w) (b := 8 * mxH cs) (by omega) (by omega)
  have c3 := cl_pos (a := h) (b := 8 * mxV cs) (by omega) (by omega)
  have c4 := cl_le (a := h) (b := 8 * mxV cs) (by omega) (by omega)
  simp only
  omega
theorem gUnits_ok {Q : (Int × Int) → Hp → Prop} (hs : Cs H s cs) (hok : ∀ c ∈ cs, c.ok) (hl : cs.length ≤ 140737488355328) (ht : Ps H t ps) (hpk : ∀ p ∈ ps, p.ok) (hQ : ∀ H', Keep H H' → Q (Uni w h cs ps) H') : geom_Units.s g w h s t H Q := by
  unfold geom_Units.s
  intro b1 H2 k2 z2 z2'
  replace k2 : Keep H H2 := k2.keep (by simp)
  replace hs := hs.keep k2
  replace ht := ht.keep k2
  replace hQ : ∀ H', Keep H2 H' → Q (Uni w h cs ps) H' := fun H' k => hQ H' (k2.trans k)
  have hm := ht.n
  refine gParts_ok hs hok hl ht hpk fun H4 k4 => ⟨Pv.keep k4 (by simp; omega), ?_⟩
  by_cases hP : Prt w h cs ps ≠ 0
  · refine ite_t (bnet hP) ?_
    have := hQ _ k4
    unfold Uni at this
    rwa [if_pos hP] at this
  refine ite_f (bnei (Classical.not_not.1 hP)) ?_
  obtain ⟨hC, fr, hL, hB, hU⟩ := prt_fr (Classical.not_not.1 hP)
  have := k4.size
  by_cases h1 : ps.length = 1
  · obtain ⟨b, o, ha, hl4⟩ := (ht.keep k4).get (get_some (show 0 < ps.length by omega))
    refine ite_t (beqi (by omega)) ⟨by omega, by omega, _, ha, ldI_of hl4 (j := 0) rfl (gBlocks_ok (hs.keep k4) hok hl fun H15 k15 => ⟨Pv.keep k15 (by simp; omega), ?_⟩)⟩
    have q := hQ _ (k4.trans k15)
    unfold Uni at q
    rw [if_neg hP, if_pos h1] at q
    have e : (ps.map Pa.comp).headD 0 = ps[0].comp := by
      cases ps with
      | nil => simp at h1
      | cons p r => rfl
    rw [e] at q
    exact q
  · refine ite_f (beqf (by omega)) (most_ok (hs.keep k4) hok hl fun H18 k18 => ⟨Pv.keep k18 (by simp; omega), ?_⟩)
    have := fr.w1; have := fr.h1; have := fr.mh; have := fr.mv; have := k18.size
    rw [w64 (x := 8 * (mxH cs, mxV cs).1) (by simp only; omega), w64 (x := 8 * (mxH cs, mxV cs).2) (by simp only; omega)]
    refine up_ok (by omega) (by simp only; omega) ⟨Pv.keep (Keep.refl _) (by simp; omega), up_ok (by omega) (by simp only; omega) ⟨Pv.keep (Keep.refl _) (by simp; omega), ?_⟩⟩
    have q := hQ _ (k4.trans k18)
    unfold Uni at q
    rw [if_neg hP, if_neg h1] at q
    exact q
theorem rUnits_ok {Q : (Int × Int) → Hp → Prop} (hs : Cs H s cs) (hok : ∀ c ∈ cs, c.ok) (hl : cs.length ≤ 140737488355328) (ht : Ps H t ps) (hpk : ∀ p ∈ ps, p.ok) (hQ : ∀ H', Keep H H' → Q (Uni w h cs ps) H') : mosaicref14_Units.s g w h s t H Q := by
  unfold mosaicref14_Units.s
  intro b1 H2 k2 z2 z2'
  replace k2 : Keep H H2 := k2.keep (by simp)
  replace hs := hs.keep k2
  replace ht := ht.keep k2
  replace hQ : ∀ H', Keep H2 H' → Q (Uni w h cs ps) H' := fun H' k => hQ H' (k2.trans k)
  have hm := ht.n
  refine rParts_ok hs hok hl ht hpk fun H4 k4 => ⟨Pv.keep k4 (by simp; omega), ?_⟩
  by_cases hP : Prt w h cs ps ≠ 0
  · refine ite_t (bnet hP) ?_
    have := hQ _ k4
    unfold Uni at this
    rwa [if_pos hP] at this
  refine ite_f (bnei (Classical.not_not.1 hP)) ?_
  obtain ⟨hC, fr, hL, hB, hU⟩ := prt_fr (Classical.not_not.1 hP)
  have := k4.size
  by_cases h1 : ps.length = 1
  · obtain ⟨b, o, ha, hl4⟩ := (ht.keep k4).get (get_some (show 0 < ps.length by omega))
    refine ite_t (beqi (by omega)) ⟨by omega, by omega, _, ha, ldI_of hl4 (j := 0) rfl (rBlocks_ok (hs.keep k4) hok hl fun H15 k15 => ⟨Pv.keep k15 (by simp; omega), ?_⟩)⟩
    have q := hQ _ (k4.trans k15)
    unfold Uni at q
    rw [if_neg hP, if_pos h1] at q
    have e : (ps.map Pa.comp).headD 0 = ps[0].comp := by
      cases ps with
      | nil => simp at h1
      | cons p r => rfl
    rw [e] at q
    exact q
  · refine ite_f (beqf (by omega)) (greatest_ok (hs.keep k4) hok hl fun H18 k18 => ⟨Pv.keep k18 (by simp; omega), ?_⟩)
    have := fr.w1; have := fr.h1; have := fr.mh; have := fr.mv; have := k18.size
    rw [w64 (x := 8 * (mxH cs, mxV cs).1) (by simp only; omega), w64 (x := 8 * (mxH cs, mxV cs).2) (by simp only; omega)]
    refine Ceil_ok (by omega) (by simp only; omega) ⟨Pv.keep (Keep.refl _) (by simp; omega), Ceil_ok (by omega) (by simp only; omega) ⟨Pv.keep (Keep.refl _) (by simp; omega), ?_⟩⟩
    have q := hQ _ (k4.trans k18)
    unfold Uni at q
    rw [if_neg hP, if_neg h1] at q
    exact q
theorem uni_pos (hP : Prt w h cs ps = 0) : (1 ≤ (Uni w h cs ps).1) ∧ (1 ≤ (Uni w h cs ps).2) := by
  obtain ⟨hC, fr, hL, hB, hU⟩ := prt_fr hP
  have := fr.w1; have := fr.h1; have := fr.mh; have := fr.mv
  unfold Uni
  rw [if_neg (by simpa using hP)]
  by_cases h1 : ps.length = 1
  · rw [if_pos h1]
    have hpb : ¬ PtBad cs ps 0 ps[0] := fun h => hB ⟨0, _, get_some (by omega), h⟩
    unfold PtBad at hpb
    have hci : ps[0].comp.toNat < cs.length := by omega
    have e : (ps.map Pa.comp).headD 0 = ps[0].comp := by
      cases ps with
      | nil => simp at h1
      | cons p r => rfl
    have f := fr.fac _ (List.getElem_mem hci)
    rw [e]
    unfold Blo
    rw [sam_at hC (by omega) (get_some hci)]
    have m1 : 1 ≤ w * cs[ps[0].comp.toNat].h := by have := Int.mul_le_mul (show (1 : Int) ≤ w by omega) f.1.1 (by omega) (by omega); omega
    have m2 : 1 ≤ h * cs[ps[0].comp.toNat].v := by have := Int.mul_le_mul (show (1 : Int) ≤ h by omega) f.2.1 (by omega) (by omega); omega
    exact ⟨cl_ge1 (cl_ge1 m1 (by omega)) (by omega), cl_ge1 (cl_ge1 m2 (by omega)) (by omega)⟩
  · rw [if_neg h1]
    exact ⟨cl_ge1 (by omega) (by omega), cl_ge1 (by omega) (by omega)⟩
theorem uni_no (hP : Prt w h cs ps ≠ 0) : Uni w h cs ps = (0, 0) := by unfold Uni; rw [if_pos hP]
theorem uni_area : 0 ≤ (Uni w h cs ps).1 * (Uni w h cs ps).2 ∧ (Uni w h cs ps).1 * (Uni w h cs ps).2 ≤ 68717379600 := by
  have u := uni_le (w := w) (h := h) (cs := cs) (ps := ps)
  have := Int.mul_le_mul u.1.2 u.2.2 u.2.1 (by omega)
  exact ⟨Int.mul_nonneg u.1.1 u.2.1, by omega⟩
theorem cl_big {a b : Int} (ha : 1 ≤ a) (hb : a < b) : cl a b = 1 := by
  unfold cl
  rw [show a + b - 1 = (a - 1) + 1 * b by omega, Int.add_mul_ediv_right _ _ (by omega), Int.ediv_eq_zero_of_lt (by omega) (by omega)]
  rfl
theorem gIntervals_ok {r : Int} {Q : Int → Hp → Prop} (hs : Cs H s cs) (hok : ∀ c ∈ cs, c.ok) (hl : cs.length ≤ 140737488355328) (ht : Ps H t ps) (hpk : ∀ p ∈ ps, p.ok) (hr : r ≤ 9223372036854775807) (hQ : ∀ H', Keep H H' → Q (Itv w h cs ps r) H') : geom_Intervals.s g w h s t r H Q := by
  unfold geom_Intervals.s
  intro b1 H2 k2 z2 z2'
  replace k2 : Keep H H2 := k2.keep (by simp)
  refine gUnits_ok (hs.keep k2) hok hl (ht.keep k2) hpk fun H4 k4 => ?_
  have q := hQ _ (k2.trans k4)
  unfold Itv at q
  have u := uni_le (w := w) (h := h) (cs := cs) (ps := ps)
  have ua := uni_area (w := w) (h := h) (cs := cs) (ps := ps)
  refine Join.intro (fun x H' => (x = true ↔ ((Uni w h cs ps).1 = 0 ∨ r < 0)) ∧ H4 = H') ?_ fun J hJ => join_or2 (hJ _ _ ⟨by simp, rfl⟩)
  rintro x _ ⟨hx, rfl⟩
  by_cases h0 : (Uni w h cs ps).1 = 0 ∨ r < 0
  · rw [if_pos h0] at q
    exact ite_t (hx.2 h0) q
  rw [if_neg h0] at q
  have hP : Prt w h cs ps = 0 := Classical.byContradiction fun hP => h0 (.inl (by rw [uni_no hP]))
  have up := uni_pos hP
  have ar : 1 ≤ (Uni w h cs ps).1 * (Uni w h cs ps).2 := by have := Int.mul_le_mul up.1 up.2 (by omega) (by omega); omega
  refine ite_f (bool_f hx h0) ?_
  rw [w64 (x := (Uni w h cs ps).1 * (Uni w h cs ps).2) (by omega)]
  refine Join.intro (fun x H' => (x = true ↔ (r = 0 ∨ (Uni w h cs ps).1 * (Uni w h cs ps).2 < r)) ∧ H4 = H') ?_ fun J hJ => join_or2 (hJ _ _ ⟨by simp, rfl⟩)
  rintro x _ ⟨hx, rfl⟩
  by_cases h1 : r = 0 ∨ (Uni w h cs ps).1 * (Uni w h cs ps).2 < r
  · refine ite_t (hx.2 h1) ?_
    by_cases h2 : r = 0
    · rw [if_pos h2] at q; exact q
    · rw [if_neg h2, cl_big ar (by omega)] at q; exact q
  · refine ite_f (bool_f hx h1) (up_ok (by omega) (by omega) ?_)
    rw [if_neg (by omega)] at q
    exact q
theorem rIntervals_ok {r : Int} {Q : Int → Hp → Prop} (hs : Cs H s cs) (hok : ∀ c ∈ cs, c.ok) (hl : cs.length ≤ 140737488355328) (ht : Ps H t ps) (hpk : ∀ p ∈ ps, p.ok) (hr : r ≤ 9223372036854775807) (hQ : ∀ H', Keep H H' → Q (Itv w h cs ps r) H') : mosaicref14_Intervals.s g w h s t r H Q := by
  unfold mosaicref14_Intervals.s
  intro b1 H2 k2 z2 z2'
  replace k2 : Keep H H2 := k2.keep (by simp)
  refine rUnits_ok (hs.keep k2) hok hl (ht.keep k2) hpk fun H4 k4 => ?_
  have q := hQ _ (k2.trans k4)
  unfold Itv at q
  have u := uni_le (w := w) (h := h) (cs := cs) (ps := ps)
  have ua := uni_area (w := w) (h := h) (cs := cs) (ps := ps)
  refine Join.intro (fun x H' => (x = true ↔ ((Uni w h cs ps).1 = 0 ∨ r < 0)) ∧ H4 = H') ?_ fun J hJ => join_or2 (hJ _ _ ⟨by simp, rfl⟩)
  rintro x _ ⟨hx, rfl⟩
  by_cases h0 : (Uni w h cs ps).1 = 0 ∨ r < 0
  · rw [if_pos h0] at q
    exact ite_t (hx.2 h0) q
  rw [if_neg h0] at q
  refine ite_f (bool_f hx h0) ?_
  by_cases h2 : r = 0
  · rw [if_pos h2] at q
    exact ite_t (beqi h2) q
  · rw [if_neg h2] at q
    refine ite_f (beqf h2) ?_
    rw [w64 (x := (Uni w h cs ps).1 * (Uni w h cs ps).2) (by omega)]
    exact Ceil_ok (by omega) (by omega) q
end
end Go.Proofs.Ytlonijlcddlhjaa.G
