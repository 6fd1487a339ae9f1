/- Of this text what the row needs. -/
import Derived.Test.YtmnoecpnoofdjaaQPenCostGV
import Derived.Test.YtmnoecpnoofdjaaQPenCostKgeom
import Derived.Test.YtmnoecpnoofdjaaQPenCostGT
import Derived.Test.YtmnoecpnoofdjaaQPenCostZSW
import Derived.Test.YtmnoecpnoofdjaaQPenCostZW
namespace Go.Proofs.Ytmnoecpnoofdjaa.G
open Go.RowKit
set_option linter.unusedVariables false
set_option linter.unusedSimpArgs false
structure Cp where
  id : Int
  h : Int
  v : Int
  q : Int
def cC (c : Cp) : List Value := c100 c.id c.h c.v c.q
theorem cC_len (c : Cp) : (cC c).length = 4 := rfl
theorem cC_ones (c : Cp) : ∀ u ∈ cC c, u.oneCell' = true := one100 _ _ _ _
def Cp.ok (c : Cp) : Prop := (0 ≤ c.id ∧ c.id ≤ 255) ∧ (0 ≤ c.h ∧ c.h ≤ 255) ∧ (0 ≤ c.v ∧ c.v ≤ 255) ∧ (0 ≤ c.q ∧ c.q ≤ 255)
abbrev Cs (H : Hp) (s : Sl) (cs : List Cp) : Prop := SlV H s 4 cC cs
def mxH (cs : List Cp) : Int := cs.foldl (fun a c => if a < c.h then c.h else a) 0
def mxV (cs : List Cp) : Int := cs.foldl (fun a c => if a < c.v then c.v else a) 0
theorem take_next {α : Type} {xs : List α} {i : Nat} {x : α} (h : xs[i]? = some x) : xs.take (i + 1) = xs.take i ++ [x] := by
  rw [List.take_add_one, h]; rfl
theorem mxH_next {cs : List Cp} {i : Nat} {c : Cp} (h : cs[i]? = some c) : mxH (cs.take (i + 1)) = if mxH (cs.take i) < c.h then c.h else mxH (cs.take i) := by
  rw [take_next h]; unfold mxH; rw [List.foldl_append]; rfl
theorem mxV_next {cs : List Cp} {i : Nat} {c : Cp} (h : cs[i]? = some c) : mxV (cs.take (i + 1)) = if mxV (cs.take i) < c.v then c.v else mxV (cs.take i) := by
  rw [take_next h]; unfold mxV; rw [List.foldl_append]; rfl
theorem get_some {α : Type} {xs : List α} {i : Nat} (h : i < xs.length) : xs[i]? = some xs[i] := List.getElem?_eq_getElem h
theorem ok_get {cs : List Cp} (hok : ∀ c ∈ cs, c.ok) {i : Nat} {c : Cp} (h : cs[i]? = some c) : c.ok := hok c (List.mem_of_getElem? h)
theorem nx_i {i n : Nat} (hi : i < n) (hn : n ≤ 9223372036854775806) : IntKind.wrap .i64 ((i : Int) + 1) = ((i + 1 : Nat) : Int) := by rw [w64 (by omega)]; omega
theorem wu {x : Int} (h : 0 ≤ x ∧ x ≤ 255) : IntKind.wrap .i64 x = x := w64 (by omega)
section
variable {w h : Int} {s : Sl} {cs : List Cp} {H : Hp} {g : Int}
theorem most_ok {Q : (Int × Int) → Hp → Prop} (hs : Cs H s cs) (hok : ∀ c ∈ cs, c.ok) (hl : cs.length ≤ 140737488355328) (hQ : ∀ H', Keep H H' → Q (mxH cs, mxV cs) H') : geom_most.s g w h s H Q := by
  unfold geom_most.s
  intro b1 H2 k2 z2 z2'
  replace k2 : Keep H H2 := k2.keep (by simp)
  have hn := hs.n
  refine Fix.intro (fun (x : Int × Int × Int) H' => ∃ i : Nat, x = (mxH (cs.take i), mxV (cs.take i), (i : Int)) ∧ i ≤ cs.length ∧ Keep H H') (fun x _ => cs.length - x.2.2.toNat) ⟨0, rfl, by omega, k2⟩ ?_
  rintro _ H6 ⟨i, rfl, hi, k6⟩ rec hrec
  simp only
  by_cases hc : i < cs.length
  · obtain ⟨b, o, ha, hl6⟩ := (hs.keep k6).get (get_some hc)
    have ho := ok_get hok (get_some hc)
    refine ite_t (dect (by omega)) ⟨by omega, by omega, _, ha, _, _, _, _, by rw [Int.toNat_natCast]; exact hl6, fun b18 H20 c20 _ _ => ?_⟩
    rw [wu ho.2.1, wu ho.2.2.1, nx_i hc (by omega), ← mxH_next (get_some hc), ← mxV_next (get_some hc)]
    exact hrec _ _ ⟨i + 1, rfl, by omega, k6.trans (c20.keep (by simp))⟩ (by simp only [Int.toNat_natCast]; omega)
  · refine ite_f (decf (by omega)) ?_
    have : cs.take i = cs := List.take_of_length_le (by omega)
    rw [this]
    exact hQ _ k6
end
def BadAt (cs : List Cp) (i : Nat) (c : Cp) : Prop := 3 < c.q ∨ ∃ (k : Nat) (d : Cp), k < i ∧ cs[k]? = some d ∧ d.id = c.id
def Bad (cs : List Cp) : Prop := ∃ i c, cs[i]? = some c ∧ BadAt cs i c
def Fac (cs : List Cp) : Prop := ∃ c ∈ cs, c.h < 1 ∨ 4 < c.h ∨ c.v < 1 ∨ 4 < c.v
def Rat (cs : List Cp) : Prop := ∃ c ∈ cs, (mxH cs).tmod c.h ≠ 0 ∨ (mxV cs).tmod c.v ≠ 0
def Emp (w h : Int) : Prop := w < 1 ∨ 65535 < w ∨ h < 1 ∨ 65535 < h
open Classical in
noncomputable def Chk (w h : Int) (cs : List Cp) : Int :=
  if Emp w h then 140 else if cs.length < 1 ∨ 4 < cs.length ∨ Bad cs then 143 else if Fac cs then 141 else if Rat cs then 142 else 0
section
variable {w h : Int} {s : Sl} {cs : List Cp} {H : Hp} {g : Int}
theorem chk140 (e : Emp w h) : Chk w h cs = 140 := by unfold Chk; rw [if_pos e]
theorem chk143 (e : ¬ Emp w h) (b : cs.length < 1 ∨ 4 < cs.length ∨ Bad cs) : Chk w h cs = 143 := by unfold Chk; rw [if_neg e, if_pos b]
theorem chk141 (e : ¬ Emp w h) (b : ¬ (cs.length < 1 ∨ 4 < cs.length ∨ Bad cs)) (f : Fac cs) : Chk w h cs = 141 := by unfold Chk; rw [if_neg e, if_neg b, if_pos f]
theorem chk142 (e : ¬ Emp w h) (b : ¬ (cs.length < 1 ∨ 4 < cs.length ∨ Bad cs)) (f : ¬ Fac cs) (r : Rat cs) : Chk w h cs = 142 := by unfold Chk; rw [if_neg e, if_neg b, if_neg f, if_pos r]
theorem chk0 (e : ¬ Emp w h) (b : ¬ (cs.length < 1 ∨ 4 < cs.length ∨ Bad cs)) (f : ¬ Fac cs) (r : ¬ Rat cs) : Chk w h cs = 0 := by unfold Chk; rw [if_neg e, if_neg b, if_neg f, if_neg r]
theorem join_or4 {H : Hp} {J : Bool → Hp → Prop} {a b c d : Bool} (h : J (a || b || c || d) H) : if a = true then J true H else if b = true then J true H else if c = true then J true H else J d H := by
  cases a <;> cases b <;> cases c <;> simpa using h
theorem join_or2 {H : Hp} {J : Bool → Hp → Prop} {a b : Bool} (h : J (a || b) H) : if a = true then J true H else J b H := by
  cases a <;> simpa using h
theorem emp_dec : (decide (w < 1) || decide ((65535 : Int) < w) || decide (h < 1) || decide ((65535 : Int) < h)) = true ↔ Emp w h := by
  unfold Emp; simp [or_assoc]
theorem gCheck_ok {Q : Int → Hp → Prop} (hs : Cs H s cs) (hok : ∀ c ∈ cs, c.ok) (hl : cs.length ≤ 140737488355328) (hQ : ∀ H', Keep H H' → Q (Chk w h cs) H') : geom_Check.s g w h s H Q := by
  unfold geom_Check.s
  intro b1 H2 k2 z2 z2'
  replace k2 : Keep H H2 := k2.keep (by simp)
  replace hs := hs.keep k2
  replace hQ : ∀ H', Keep H2 H' → Q (Chk w h cs) H' := fun H' k => hQ H' (k2.trans k)
  have hn := hs.n
  refine Join.intro (fun x H' => (x = true ↔ Emp w h) ∧ H2 = H') ?_ fun J hJ => join_or4 (hJ _ _ ⟨emp_dec, rfl⟩)
  rintro x _ ⟨hx, rfl⟩
  by_cases hE : Emp w h
  · refine ite_t (hx.2 hE) ?_
    rw [← chk140 (cs := cs) hE]; exact hQ _ (Keep.refl _)
  refine ite_f (by cases x with | false => rfl | true => exact absurd (hx.1 rfl) hE) ?_
  refine Join.intro (fun x H' => (x = true ↔ (cs.length < 1 ∨ 4 < cs.length)) ∧ H2 = H') ?_ fun J hJ => join_or2 (hJ _ _ ⟨by simp only [Bool.or_eq_true, decide_eq_true_eq]; omega, rfl⟩)
  rintro x _ ⟨hx, rfl⟩
  by_cases hL : cs.length < 1 ∨ 4 < cs.length
  · refine ite_t (hx.2 hL) ?_
    rw [← chk143 (cs := cs) hE (by rcases hL with h | h; exact .inl h; exact .inr (.inl h))]; exact hQ _ (Keep.refl _)
  refine ite_f (by cases x with | false => rfl | true => exact absurd (hx.1 rfl) hL) ?_
  have h143 : Bad cs → Chk w h cs = 143 := fun b => chk143 hE (.inr (.inr b))
  refine Fix.intro (fun (x : Int) H' => ∃ i : Nat, x = (i : Int) ∧ i ≤ cs.length ∧ (∀ j c, j < i → cs[j]? = some c → ¬ BadAt cs j c) ∧ Keep H2 H') (fun (x : Int) _ => cs.length - x.toNat) ⟨0, rfl, by omega, fun j c hj => by omega, Keep.refl _⟩ ?_
  rintro _ H12 ⟨i, rfl, hi, hno, k12⟩ rec hrec
  by_cases hc : i < cs.length
  · obtain ⟨b, o, ha, hl12⟩ := (hs.keep k12).get (get_some hc)
    have ho := ok_get hok (get_some hc)
    refine ite_t (dect (by omega)) ⟨by omega, by omega, _, ha, _, _, _, _, by rw [Int.toNat_natCast]; exact hl12, fun b24 H26 c26 _ _ => ⟨by omega, by have := hs.c; omega, ?_⟩⟩
    have k26 : Keep H2 H26 := k12.trans (c26.keep (by simp))
    have hs2 := hs.take (i := i) (by omega)
    refine Fix.intro (fun (x : Int) H' => ∃ k : Nat, x = (k : Int) ∧ k ≤ i ∧ (∀ j d, j < k → cs[j]? = some d → d.id ≠ cs[i].id) ∧ Keep H2 H') (fun (x : Int) _ => i - x.toNat) ⟨0, rfl, by omega, fun j c hj => by omega, k26⟩ ?_
    rintro _ H32 ⟨k, rfl, hk, hne, k32⟩ rec2 hrec2
    have hn2 := hs2.n
    simp at hn2
    by_cases hck : k < i
    · have hkg : (cs.take i)[k]? = some cs[k] := by rw [List.getElem?_take, if_pos hck]; exact get_some (by omega)
      obtain ⟨b', o', ha', hl32⟩ := (hs2.keep k32).get hkg
      refine ite_t (dect (by omega)) ⟨by omega, by omega, _, ha', _, _, _, _, by rw [Int.toNat_natCast]; exact hl32, fun b44 H46 c46 _ _ => ?_⟩
      have k46 : Keep H2 H46 := k32.trans (c46.keep (by simp))
      by_cases heq : cs[k].id = cs[i].id
      · refine ite_t (beqi heq) ?_
        rw [← h143 ⟨i, cs[i], get_some hc, .inr ⟨k, cs[k], hck, get_some (by omega), heq⟩⟩]
        exact hQ _ k46
      · refine ite_f (beqf heq) ?_
        rw [nx_i hck (by omega)]
        refine hrec2 _ _ ⟨k + 1, rfl, by omega, fun j d hj hd => ?_, k46⟩ (by simp only [Int.toNat_natCast]; omega)
        rcases Nat.lt_succ_iff_lt_or_eq.1 hj with h1 | h1
        · exact hne j d h1 hd
        · subst h1
          rw [get_some (by omega)] at hd
          cases hd
          exact heq
    · refine ite_f (decf (by omega)) ?_
      by_cases hq : 3 < cs[i].q
      · refine ite_t (dect hq) ?_
        rw [← h143 ⟨i, cs[i], get_some hc, .inl hq⟩]
        exact hQ _ k32
      · refine ite_f (decf hq) ?_
        rw [nx_i hc (by omega)]
        refine hrec _ _ ⟨i + 1, rfl, by omega, fun j c hj hc' => ?_, k32⟩ (by simp only [Int.toNat_natCast]; omega)
        rcases Nat.lt_succ_iff_lt_or_eq.1 hj with h1 | h1
        · exact hno j c h1 hc'
        · subst h1
          rw [get_some hc] at hc'
          cases hc'
          rintro (h1 | ⟨k', d, h1, h2, h3⟩)
          · exact hq h1
          · exact hne k' d (by omega) h2 h3
  · refine ite_f (decf (by omega)) ?_
    have hB : ¬ Bad cs := fun ⟨j, c, h1, h2⟩ => hno j c (by have := (List.getElem?_eq_some_iff.1 h1).1; omega) h1 h2
    have hLB : ¬ (cs.length < 1 ∨ 4 < cs.length ∨ Bad cs) := by rintro (h | h | h); exact hL (.inl h); exact hL (.inr h); exact hB h
    refine most_ok (hs.keep k12) hok hl fun H48 k48' => ⟨Pv.keep k48' (by have := k12.size; simp; omega), ?_⟩
    have k48 := k12.trans k48'
    refine Fix.intro (fun (x : Int) H' => ∃ i : Nat, x = (i : Int) ∧ i ≤ cs.length ∧ (∀ j c, j < i → cs[j]? = some c → ¬ (c.h < 1 ∨ 4 < c.h ∨ c.v < 1 ∨ 4 < c.v)) ∧ Keep H2 H') (fun (x : Int) _ => cs.length - x.toNat) ⟨0, rfl, by omega, fun j c hj => by omega, k48⟩ ?_
    rintro _ H53 ⟨i, rfl, hi, hno, k53⟩ rec hrec
    by_cases hc : i < cs.length
    · obtain ⟨b, o, ha, hl53⟩ := (hs.keep k53).get (get_some hc)
      refine ite_t (dect (by omega)) ⟨by omega, by omega, _, ha, _, _, _, _, by rw [Int.toNat_natCast]; exact hl53, fun b65 H67 c67 _ _ => ?_⟩
      have k67 : Keep H2 H67 := k53.trans (c67.keep (by simp))
      refine Join.intro (fun x H' => (x = true ↔ (cs[i].h < 1 ∨ 4 < cs[i].h ∨ cs[i].v < 1 ∨ 4 < cs[i].v)) ∧ H67 = H') ?_ fun J hJ => join_or4 (hJ _ _ ⟨by simp [or_assoc], rfl⟩)
      rintro x _ ⟨hx, rfl⟩
      by_cases hF : cs[i].h < 1 ∨ 4 < cs[i].h ∨ cs[i].v < 1 ∨ 4 < cs[i].v
      · refine ite_t (hx.2 hF) ?_
        rw [← chk141 (w := w) (h := h) (cs := cs) hE hLB ⟨cs[i], List.getElem_mem hc, hF⟩]
        exact hQ _ k67
      · refine ite_f (by cases x with | false => rfl | true => exact absurd (hx.1 rfl) hF) ?_
        rw [nx_i hc (by omega)]
        refine hrec _ _ ⟨i + 1, rfl, by omega, fun j c hj hc' => ?_, k67⟩ (by simp only [Int.toNat_natCast]; omega)
        rcases Nat.lt_succ_iff_lt_or_eq.1 hj with h1 | h1
        · exact hno j c h1 hc'
        · subst h1
          rw [get_some hc] at hc'
          cases hc'
          exact hF
    · refine ite_f (decf (by omega)) ?_
      have hF : ¬ Fac cs := fun ⟨c, h1, h2⟩ => by
        obtain ⟨j, hj⟩ := List.mem_iff_getElem?.1 h1
        exact hno j c (by have := (List.getElem?_eq_some_iff.1 hj).1; omega) hj h2
      have hfac : ∀ c ∈ cs, 1 ≤ c.h ∧ c.h ≤ 4 ∧ 1 ≤ c.v ∧ c.v ≤ 4 := fun c hc => by
        have : ¬ (c.h < 1 ∨ 4 < c.h ∨ c.v < 1 ∨ 4 < c.v) := fun h => hF ⟨c, hc, h⟩
        omega
      refine Fix.intro (fun (x : Int) H' => ∃ i : Nat, x = (i : Int) ∧ i ≤ cs.length ∧ (∀ j c, j < i → cs[j]? = some c → ¬ ((mxH cs).tmod c.h ≠ 0 ∨ (mxV cs).tmod c.v ≠ 0)) ∧ Keep H2 H') (fun (x : Int) _ => cs.length - x.toNat) ⟨0, rfl, by omega, fun j c hj => by omega, k53⟩ ?_
      rintro _ H74 ⟨i, rfl, hi, hno, k74⟩ rec hrec
      by_cases hc : i < cs.length
      · obtain ⟨b, o, ha, hl74⟩ := (hs.keep k74).get (get_some hc)
        have ho := ok_get hok (get_some hc)
        have hf := hfac _ (List.getElem_mem hc)
        refine ite_t (dect (by omega)) ⟨by omega, by omega, _, ha, _, _, _, _, by rw [Int.toNat_natCast]; exact hl74, fun b86 H88 c88 _ _ => ?_⟩
        have k88 : Keep H2 H88 := k74.trans (c88.keep (by simp))
        refine Join.intro (fun x H' => (x = true ↔ ((mxH cs).tmod cs[i].h ≠ 0 ∨ (mxV cs).tmod cs[i].v ≠ 0)) ∧ H88 = H') ?_ fun J hJ => ?_
        · rintro x _ ⟨hx, rfl⟩
          by_cases hR : (mxH cs).tmod cs[i].h ≠ 0 ∨ (mxV cs).tmod cs[i].v ≠ 0
          · refine ite_t (hx.2 hR) ?_
            rw [← chk142 (w := w) (h := h) (cs := cs) hE hLB hF ⟨cs[i], List.getElem_mem hc, hR⟩]
            exact hQ _ k88
          · refine ite_f (by cases x with | false => rfl | true => exact absurd (hx.1 rfl) hR) ?_
            rw [nx_i hc (by omega)]
            refine hrec _ _ ⟨i + 1, rfl, by omega, fun j c hj hc' => ?_, k88⟩ (by simp only [Int.toNat_natCast]; omega)
            rcases Nat.lt_succ_iff_lt_or_eq.1 hj with h1 | h1
            · exact hno j c h1 hc'
            · subst h1
              rw [get_some hc] at hc'
              cases hc'
              exact hR
        · rw [wu ho.2.1, wu ho.2.2.1]
          refine ⟨by omega, ?_⟩
          simp only
          by_cases h1 : (mxH cs).tmod cs[i].h ≠ 0
          · exact ite_t (bnet h1) (hJ _ _ ⟨by simp [h1], rfl⟩)
          · exact ite_f (bnei (by omega)) ⟨by omega, hJ _ _ ⟨by simp at h1; simp [h1], rfl⟩⟩
      · refine ite_f (decf (by omega)) ?_
        rw [← chk0 (w := w) (h := h) (cs := cs) hE hLB hF fun ⟨c, h1, h2⟩ => by
          obtain ⟨j, hj⟩ := List.mem_iff_getElem?.1 h1
          exact hno j c (by have := (List.getElem?_eq_some_iff.1 hj).1; omega) hj h2]
        exact hQ _ k74
end
theorem foldmax (f : Cp → Int) : ∀ (l : List Cp) (a : Int), a ≤ l.foldl (fun a c => if a < f c then f c else a) a ∧ (∀ c ∈ l, f c ≤ l.foldl (fun a c => if a < f c then f c else a) a) ∧ (∀ B, a ≤ B → (∀ c ∈ l, f c ≤ B) → l.foldl (fun a c => if a < f c then f c else a) a ≤ B)
  | [], a => ⟨Int.le_refl _, by simp, fun B h _ => h⟩
  | c :: l, a => by
    obtain ⟨h1, h2, h3⟩ := foldmax f l (if a < f c then f c else a)
    have hc : a ≤ (if a < f c then f c else a) ∧ f c ≤ (if a < f c then f c else a) := by split <;> omega
    refine ⟨by rw [List.foldl_cons]; omega, fun d hd => ?_, fun B hB hl => ?_⟩
    · rw [List.foldl_cons]
      rcases List.mem_cons.1 hd with rfl | hd
      · omega
      · exact h2 d hd
    · rw [List.foldl_cons]
      exact h3 B (by have := hl c (by simp); split <;> omega) fun d hd => hl d (by simp [hd])
structure Fr (w h : Int) (cs : List Cp) : Prop where
  w1 : 1 ≤ w ∧ w ≤ 65535
  h1 : 1 ≤ h ∧ h ≤ 65535
  n : 1 ≤ cs.length ∧ cs.length ≤ 4
  ids : ¬ Bad cs
  fac : ∀ c ∈ cs, (1 ≤ c.h ∧ c.h ≤ 4) ∧ (1 ≤ c.v ∧ c.v ≤ 4)
  rat : ∀ c ∈ cs, (mxH cs).tmod c.h = 0 ∧ (mxV cs).tmod c.v = 0
  mh : 1 ≤ mxH cs ∧ mxH cs ≤ 4
  mv : 1 ≤ mxV cs ∧ mxV cs ≤ 4
  le : ∀ c ∈ cs, c.h ≤ mxH cs ∧ c.v ≤ mxV cs
theorem chk_fr {w h : Int} {cs : List Cp} (hc : Chk w h cs = 0) : Fr w h cs := by
  unfold Chk at hc
  by_cases hE : Emp w h
  · rw [if_pos hE] at hc; omega
  rw [if_neg hE] at hc
  by_cases hB : cs.length < 1 ∨ 4 < cs.length ∨ Bad cs
  · rw [if_pos hB] at hc; omega
  rw [if_neg hB] at hc
  by_cases hF : Fac cs
  · rw [if_pos hF] at hc; omega
  rw [if_neg hF] at hc
  by_cases hR : Rat cs
  · rw [if_pos hR] at hc; omega
  have hB1 : ¬ cs.length < 1 := fun h => hB (.inl h)
  have hB2 : ¬ 4 < cs.length := fun h => hB (.inr (.inl h))
  have fac : ∀ c ∈ cs, (1 ≤ c.h ∧ c.h ≤ 4) ∧ (1 ≤ c.v ∧ c.v ≤ 4) := fun c hc => by
    have : ¬ (c.h < 1 ∨ 4 < c.h ∨ c.v < 1 ∨ 4 < c.v) := fun h => hF ⟨c, hc, h⟩
    omega
  unfold Emp at hE
  obtain ⟨a1, a2, a3⟩ := foldmax Cp.h cs 0
  obtain ⟨b1, b2, b3⟩ := foldmax Cp.v cs 0
  have m0 : cs[0] ∈ cs := List.getElem_mem (by omega)
  have f0 := fac _ m0
  refine ⟨by omega, by omega, by omega, fun h => hB (.inr (.inr h)), fac, fun c hc => ?_, ⟨?_, ?_⟩, ⟨?_, ?_⟩, fun c hc => ⟨a2 c hc, b2 c hc⟩⟩
  · have : ¬ ((mxH cs).tmod c.h ≠ 0 ∨ (mxV cs).tmod c.v ≠ 0) := fun h => hR ⟨c, hc, h⟩
    omega
  · have : cs[0].h ≤ mxH cs := a2 _ m0
    omega
  · exact a3 4 (by omega) fun c hc => (fac c hc).1.2
  · have : cs[0].v ≤ mxV cs := b2 _ m0
    omega
  · exact b3 4 (by omega) fun c hc => (fac c hc).2.2
def cl (a b : Int) : Int := (a + b - 1) / b
theorem cl_pos {a b : Int} (ha : 0 ≤ a) (hb : 1 ≤ b) : 0 ≤ cl a b := Int.ediv_nonneg (by omega) (by omega)
theorem cl_le {a b : Int} (ha : 0 ≤ a) (hb : 1 ≤ b) : cl a b ≤ a := by
  unfold cl
  have h1 := Int.ediv_mul_le (a + b - 1) (show b ≠ 0 by omega)
  have h2 : 0 ≤ (a + b - 1) / b := Int.ediv_nonneg (by omega) (by omega)
  generalize (a + b - 1) / b = q at *
  by_cases hq : q ≤ a
  · exact hq
  · have h3 : (a + 1) * b ≤ q * b := Int.mul_le_mul_of_nonneg_right (by omega) (by omega)
    have h4 : a * 1 ≤ a * b := Int.mul_le_mul_of_nonneg_left hb ha
    rw [Int.add_mul] at h3
    omega
theorem cl_ge1 {a b : Int} (ha : 1 ≤ a) (hb : 1 ≤ b) : 1 ≤ cl a b := by
  unfold cl
  exact (Int.le_ediv_iff_mul_le (by omega)).2 (by omega)
theorem up_ok {a b : Int} {H : Hp} {Q : Int → Hp → Prop} (ha : 0 ≤ a ∧ a ≤ 2305843009213693952) (hb : 1 ≤ b ∧ b ≤ 2305843009213693952) (hQ : Q (cl a b) H) : geom_up.s a b H Q := by
  unfold geom_up.s
  refine ⟨by omega, ?_⟩
  rw [w64 (x := a + b) (by omega), w64 (x := a + b - 1) (by omega), Int.tdiv_eq_ediv_of_nonneg (by omega)]
  have h1 := cl_pos ha.1 hb.1
  have h2 := cl_le ha.1 hb.1
  rw [show (a + b - 1) / b = cl a b from rfl, w64 (by omega)]
  exact Lt.of hQ
open Classical in
noncomputable def Sam (w h : Int) (cs : List Cp) (i : Int) : Int × Int :=
  if Chk w h cs = 0 ∧ 0 ≤ i then match cs[i.toNat]? with | some c => (cl (w * c.h) (mxH cs), cl (h * c.v) (mxV cs)) | none => (0, 0) else (0, 0)
noncomputable def Blo (w h : Int) (cs : List Cp) (i : Int) : Int × Int := (cl (Sam w h cs i).1 8, cl (Sam w h cs i).2 8)
theorem mul_le4 {a b : Int} (ha : 0 ≤ a ∧ a ≤ 65535) (hb : 0 ≤ b ∧ b ≤ 4) : 0 ≤ a * b ∧ a * b ≤ 262140 :=
  ⟨Int.mul_nonneg ha.1 hb.1, by have := Int.mul_le_mul ha.2 hb.2 hb.1 (by omega); omega⟩
theorem sam_le {w h : Int} {cs : List Cp} {i : Int} : (0 ≤ (Sam w h cs i).1 ∧ (Sam w h cs i).1 ≤ 262140) ∧ (0 ≤ (Sam w h cs i).2 ∧ (Sam w h cs i).2 ≤ 262140) := by
  unfold Sam
  split
  · rename_i hc
    have fr := chk_fr hc.1
    split
    · rename_i c hcc
      have hm := List.mem_of_getElem? hcc
      have f := fr.fac c hm
      have := fr.w1; have := fr.h1; have := fr.mh; have := fr.mv
      have m1 := mul_le4 (a := w) (b := c.h) (by omega) (by omega)
      have m2 := mul_le4 (a := h) (b := c.v) (by omega) (by omega)
      have c1 := cl_pos m1.1 (b := mxH cs) (by omega)
      have c2 := cl_le m1.1 (b := mxH cs) (by omega)
      have c3 := cl_pos m2.1 (b := mxV cs) (by omega)
      have c4 := cl_le m2.1 (b := mxV cs) (by omega)
      simp only
      omega
    · simp
  · simp
theorem blo_le {w h : Int} {cs : List Cp} {i : Int} : (0 ≤ (Blo w h cs i).1 ∧ (Blo w h cs i).1 ≤ 262140) ∧ (0 ≤ (Blo w h cs i).2 ∧ (Blo w h cs i).2 ≤ 262140) := by
  have s := sam_le (w := w) (h := h) (cs := cs) (i := i)
  have c1 := cl_pos s.1.1 (b := 8) (by omega)
  have c2 := cl_le s.1.1 (b := 8) (by omega)
  have c3 := cl_pos s.2.1 (b := 8) (by omega)
  have c4 := cl_le s.2.1 (b := 8) (by omega)
  unfold Blo
  simp only
  omega
section
variable {w h : Int} {s : Sl} {cs : List Cp} {H : Hp} {g : Int}
theorem sam_no {i : Int} (hn : ¬ (Chk w h cs = 0 ∧ 0 ≤ i ∧ i < cs.length)) : Sam w h cs i = (0, 0) := by
  unfold Sam
  split
  · rename_i hc
    rw [List.getElem?_eq_none (by omega)]
  · rfl
theorem sam_at {i : Int} {c : Cp} (h0 : Chk w h cs = 0) (hi : 0 ≤ i) (hc : cs[i.toNat]? = some c) : Sam w h cs i = (cl (w * c.h) (mxH cs), cl (h * c.v) (mxV cs)) := by
  unfold Sam
  rw [if_pos ⟨h0, hi⟩, hc]
theorem join_or3 {H : Hp} {J : Bool → Hp → Prop} {a b c : Bool} (h : J (a || b || c) H) : if a = true then J true H else if b = true then J true H else J c H := by
  cases a <;> cases b <;> simpa using h
theorem gSamples_ok {i : Int} {Q : (Int × Int) → Hp → Prop} (hs : Cs H s cs) (hok : ∀ c ∈ cs, c.ok) (hl : cs.length ≤ 140737488355328) (hQ : ∀ H', Keep H H' → Q (Sam w h cs i) H') : geom_Samples.s g w h s i H Q := by
  unfold geom_Samples.s
  intro b1 H2 k2 z2 z2'
  replace k2 : Keep H H2 := k2.keep (by simp)
  replace hs := hs.keep k2
  replace hQ : ∀ H', Keep H2 H' → Q (Sam w h cs i) H' := fun H' k => hQ H' (k2.trans k)
  have hn := hs.n
  refine Join.intro (fun x H' => (x = true ↔ ¬ (Chk w h cs = 0 ∧ 0 ≤ i ∧ i < cs.length)) ∧ Keep H2 H') ?_ fun J hJ => ?_
  · rintro x H5 ⟨hx, k5⟩
    by_cases hc : Chk w h cs = 0 ∧ 0 ≤ i ∧ i < cs.length
    · refine ite_f (by cases x with | false => rfl | true => exact absurd hc (hx.1 rfl)) ?_
      have fr := chk_fr hc.1
      refine most_ok (hs.keep k5) hok hl fun H7 k7 => ⟨Pv.keep k7 (by have := k5.size; simp; omega), ?_⟩
      have hi : i.toNat < cs.length := by omega
      obtain ⟨b, o, ha, hl7⟩ := (hs.keep (k5.trans k7)).get (get_some hi)
      have ho := ok_get hok (get_some hi)
      have f := fr.fac _ (List.getElem_mem hi)
      have := fr.w1; have := fr.h1; have := fr.mh; have := fr.mv
      refine ⟨by omega, by omega, _, ha, _, _, _, _, hl7, fun b18 H20 c20 z20 z20' => ?_⟩
      have k20 : Keep H7 H20 := c20.keep (by simp)
      have m1 := mul_le4 (a := w) (b := cs[i.toNat].h) (by omega) (by omega)
      have m2 := mul_le4 (a := h) (b := cs[i.toNat].v) (by omega) (by omega)
      have := k5.size; have := k7.size
      rw [wu ho.2.1, wu ho.2.2.1, w64 (x := w * _) (by omega), w64 (x := h * _) (by omega)]
      refine up_ok (by omega) (by omega) ⟨Pv.keep (Keep.refl _) (by simp; omega), up_ok (by omega) (by omega) ⟨Pv.keep (Keep.refl _) (by simp; omega), ?_⟩⟩
      have e := sam_at (w := w) (h := h) hc.1 hc.2.1 (get_some hi)
      have q : Q (Sam w h cs i) H20 := hQ _ ((k5.trans k7).trans k20)
      rw [e] at q
      exact q
    · refine ite_t (hx.2 hc) ?_
      have q : Q (Sam w h cs i) H5 := hQ _ k5
      rw [sam_no hc] at q
      exact q
  · refine gCheck_ok hs hok hl fun H33 k33 => ⟨Pv.keep k33 (by simp; omega), join_or3 (hJ _ _ ⟨?_, k33⟩)⟩
    rw [hn]
    simp only [Bool.or_eq_true, decide_eq_true_eq, bne_iff_ne]
    constructor
    · rintro ((h1 | h1) | h1) <;> omega
    · intro h1
      by_cases h0 : Chk w h cs = 0 <;> omega
theorem gBlocks_ok {i : Int} {Q : (Int × Int) → Hp → Prop} (hs : Cs H s cs) (hok : ∀ c ∈ cs, c.ok) (hl : cs.length ≤ 140737488355328) (hQ : ∀ H', Keep H H' → Q (Blo w h cs i) H') : geom_Blocks.s g w h s i H Q := by
  unfold geom_Blocks.s
  intro b1 H2 k2 z2 z2'
  replace k2 : Keep H H2 := k2.keep (by simp)
  have sl := sam_le (w := w) (h := h) (cs := cs) (i := i)
  exact gSamples_ok (hs.keep k2) hok hl fun H4 k4 => up_ok (by omega) (by omega) (up_ok (by omega) (by omega) (hQ _ (k2.trans k4)))
end
structure Pa where
  comp : Int
  dc : Int
  ac : Int
def cP (p : Pa) : List Value := c76 p.comp p.dc p.ac
theorem cP_len (p : Pa) : (cP p).length = 3 := rfl
theorem cP_ones (p : Pa) : ∀ u ∈ cP p, u.oneCell' = true := one76 _ _ _
def Pa.ok (p : Pa) : Prop := (-9223372036854775808 ≤ p.comp ∧ p.comp ≤ 9223372036854775807) ∧ (0 ≤ p.dc ∧ p.dc ≤ 255) ∧ (0 ≤ p.ac ∧ p.ac ≤ 255)
abbrev Ps (H : Hp) (s : Sl) (ps : List Pa) : Prop := SlV H s 3 cP ps
def PtBad (cs : List Cp) (ps : List Pa) (i : Nat) (p : Pa) : Prop := p.comp < 0 ∨ (cs.length : Int) ≤ p.comp ∨ (∃ j q, i = j + 1 ∧ ps[j]? = some q ∧ p.comp ≤ q.comp) ∨ 3 < p.dc ∨ 3 < p.ac
def PBad (cs : List Cp) (ps : List Pa) : Prop := ∃ i p, ps[i]? = some p ∧ PtBad cs ps i p
def hv (cs : List Cp) (p : Pa) : Int := match cs[p.comp.toNat]? with | some c => c.h * c.v | none => 0
def uSum (cs : List Cp) (ps : List Pa) : Int := (ps.map (hv cs)).sum
theorem uSum_next {cs : List Cp} {ps : List Pa} {i : Nat} {p : Pa} (h : ps[i]? = some p) : uSum cs (ps.take (i + 1)) = uSum cs (ps.take i) + hv cs p := by
  rw [take_next h]; simp [uSum]
open Classical in
noncomputable def Prt (w h : Int) (cs : List Cp) (ps : List Pa) : Int :=
  if Chk w h cs ≠ 0 then Chk w h cs else if ps.length < 1 ∨ 4 < ps.length then 143 else if PBad cs ps then 143 else if 1 < ps.length ∧ 10 < uSum cs ps then 143 else 0
open Classical in
noncomputable def Uni (w h : Int) (cs : List Cp) (ps : List Pa) : Int × Int :=
  if Prt w h cs ps ≠ 0 then (0, 0) else if ps.length = 1 then Blo w h cs ((ps.map Pa.comp).headD 0) else (cl w (8 * mxH cs), cl h (8 * mxV cs))
section
variable {w h : Int} {s t : Sl} {cs : List Cp} {ps : List Pa} {H : Hp} {g : Int}
theorem prt1 (e : Chk w h cs ≠ 0) : Prt w h cs ps = Chk w h cs := by unfold Prt; rw [if_pos e]
theorem prt2 (e : Chk w h cs = 0) (l : ps.length < 1 ∨ 4 < ps.length) : Prt w h cs ps = 143 := by unfold Prt; rw [if_neg (by simpa using e), if_pos l]
theorem prt3 (e : Chk w h cs = 0) (l : ¬ (ps.length < 1 ∨ 4 < ps.length)) (b : PBad cs ps) : Prt w h cs ps = 143 := by unfold Prt; rw [if_neg (by simpa using e), if_neg l, if_pos b]
theorem prt4 (e : Chk w h cs = 0) (l : ¬ (ps.length < 1 ∨ 4 < ps.length)) (b : ¬ PBad cs ps) (u : 1 < ps.length ∧ 10 < uSum cs ps) : Prt w h cs ps = 143 := by unfold Prt; rw [if_neg (by simpa using e), if_neg l, if_neg b, if_pos u]
theorem prt5 (e : Chk w h cs = 0) (l : ¬ (ps.length < 1 ∨ 4 < ps.length)) (b : ¬ PBad cs ps) (u : ¬ (1 < ps.length ∧ 10 < uSum cs ps)) : Prt w h cs ps = 0 := by unfold Prt; rw [if_neg (by simpa using e), if_neg l, if_neg b, if_neg u]
theorem join_and {H : Hp} {J : Bool → Hp → Prop} {a b : Bool} (h : J (a && b) H) : if a = true then J b H else J false H := by
  cases a <;> simpa using h
theorem bool_f {x : Bool} {p : Prop} (h : x = true ↔ p) (hp : ¬ p) : x = false := by
  cases x with
  | false => rfl
  | true => exact absurd (h.1 rfl) hp
theorem hv_at {p : Pa} {c : Cp} (h : cs[p.comp.toNat]? = some c) : hv cs p = c.h * c.v := by unfold hv; rw [h]
theorem mul16 {a b : Int} (ha : 1 ≤ a ∧ a ≤ 4) (hb : 1 ≤ b ∧ b ≤ 4) : 1 ≤ a * b ∧ a * b ≤ 16 :=
  ⟨by have := Int.mul_le_mul ha.1 hb.1 (by omega) (by omega); omega, by have := Int.mul_le_mul ha.2 hb.2 (by omega) (by omega); omega⟩
theorem gParts_ok {Q : Int → Hp → Prop} (hs : Cs H s cs) (hok : ∀ c ∈ cs, c.ok) (hl : cs.length ≤ 140737488355328) (ht : Ps H t ps) (hpk : ∀ p ∈ ps, p.ok) (hQ : ∀ H', Keep H H' → Q (Prt w h cs ps) H') : geom_Parts.s g w h s t H Q := by
  unfold geom_Parts.s
  intro b1 H2 k2 z2 z2'
  replace k2 : Keep H H2 := k2.keep (by simp)
  replace hs := hs.keep k2
  replace ht := ht.keep k2
  replace hQ : ∀ H', Keep H2 H' → Q (Prt w h cs ps) H' := fun H' k => hQ H' (k2.trans k)
  have hn := hs.n
  have hm := ht.n
  refine gCheck_ok hs hok hl fun H4 k4 => ⟨Pv.keep k4 (by simp; omega), ?_⟩
  by_cases hC : ¬ Chk w h cs = 0
  · refine ite_t (bnet hC) ?_
    rw [← prt1 (ps := ps) hC]; exact hQ _ k4
  replace hC := Classical.not_not.1 hC
  refine ite_f (bnei hC) ?_
  have fr := chk_fr hC
  refine Join.intro (fun x H' => (x = true ↔ (ps.length < 1 ∨ 4 < ps.length)) ∧ H4 = H') ?_ fun J hJ => join_or2 (hJ _ _ ⟨by rw [hm]; simp only [Bool.or_eq_true, decide_eq_true_eq]; omega, rfl⟩)
  rintro x _ ⟨hx, rfl⟩
  by_cases hL : ps.length < 1 ∨ 4 < ps.length
  · refine ite_t (hx.2 hL) ?_
    rw [← prt2 (ps := ps) hC hL]; exact hQ _ k4
  refine ite_f (bool_f hx hL) ?_
  refine Fix.intro (fun (x : Int × Int × Int) H' => ∃ i : Nat, x.2.2 = (i : Int) ∧ i ≤ ps.length ∧ (i = 0 ∧ x.1 = -1 ∨ ∃ j q, i = j + 1 ∧ ps[j]? = some q ∧ x.1 = q.comp) ∧ (∀ j p, j < i → ps[j]? = some p → ¬ PtBad cs ps j p) ∧ x.2.1 = uSum cs (ps.take i) ∧ (0 ≤ x.2.1 ∧ x.2.1 ≤ 16 * i) ∧ Keep H2 H')
    (fun (x : Int × Int × Int) _ => ps.length - x.2.2.toNat) ⟨0, rfl, by omega, .inl ⟨rfl, rfl⟩, fun j c hj => by omega, rfl, by simp, k4⟩ ?_
  rintro ⟨last, sum, _⟩ H12 ⟨i, rfl, hi, hlast, hno, hsum, hsb, k12⟩ rec hrec
  simp only at hlast hsum hsb ⊢
  by_cases hc : i < ps.length
  · obtain ⟨b, o, ha, hl12⟩ := (ht.keep k12).get (get_some hc)
    have ho := hpk _ (List.getElem_mem hc)
    refine ite_t (dect (by omega)) ⟨by omega, by omega, _, ha, _, _, _, by rw [Int.toNat_natCast]; exact hl12, fun b23 H25 c25 _ _ => ?_⟩
    have k25 : Keep H2 H25 := k12.trans (c25.keep (by simp))
    have hpt : (ps[i].comp ≤ last ∨ (cs.length : Int) ≤ ps[i].comp ∨ 3 < ps[i].dc ∨ 3 < ps[i].ac) ↔ PtBad cs ps i ps[i] := by
      unfold PtBad
      rcases hlast with ⟨rfl, rfl⟩ | ⟨j, q, rfl, hq, rfl⟩
      · constructor
        · rintro (h1 | h1 | h1 | h1)
          · exact .inl (by omega)
          · exact .inr (.inl h1)
          · exact .inr (.inr (.inr (.inl h1)))
          · exact .inr (.inr (.inr (.inr h1)))
        · rintro (h1 | h1 | ⟨j, q, h1, _⟩ | h1 | h1)
          · exact .inl (by omega)
          · exact .inr (.inl h1)
          · omega
          · exact .inr (.inr (.inl h1))
          · exact .inr (.inr (.inr h1))
      · have hq0 : 0 ≤ q.comp := by
          have := hno j q (by omega) hq
          unfold PtBad at this
          omega
        constructor
        · rintro (h1 | h1 | h1 | h1)
          · exact .inr (.inr (.inl ⟨j, q, rfl, hq, h1⟩))
          · exact .inr (.inl h1)
          · exact .inr (.inr (.inr (.inl h1)))
          · exact .inr (.inr (.inr (.inr h1)))
        · rintro (h1 | h1 | ⟨j', q', h1, h2, h3⟩ | h1 | h1)
          · exact .inl (by omega)
          · exact .inr (.inl h1)
          · obtain rfl : j = j' := by omega
            rw [hq] at h2
            cases h2
            exact .inl h3
          · exact .inr (.inr (.inl h1))
          · exact .inr (.inr (.inr h1))
    refine Join.intro (fun x H' => (x = true ↔ PtBad cs ps i ps[i]) ∧ H25 = H') ?_ fun J hJ => join_or4 (hJ _ _ ⟨by rw [← hpt, hn]; simp [or_assoc], rfl⟩)
    rintro x _ ⟨hx, rfl⟩
    by_cases hB : PtBad cs ps i ps[i]
    · refine ite_t (hx.2 hB) ?_
      rw [← prt3 (ps := ps) hC hL ⟨i, _, get_some hc, hB⟩]; exact hQ _ k25
    refine ite_f (bool_f hx hB) ?_
    have hB' := hB
    unfold PtBad at hB'
    have hci : ps[i].comp.toNat < cs.length := by omega
    obtain ⟨b', o', ha', hl'⟩ := (hs.keep k25).get (get_some hci)
    have ho' := ok_get hok (get_some hci)
    have f := fr.fac _ (List.getElem_mem hci)
    have hvv := hv_at (p := ps[i]) (get_some hci)
    have m := mul16 f.1 f.2
    refine ⟨by omega, by omega, _, ha', ldI_of hl' (j := 1) rfl ⟨by omega, by omega, ldI_of hl' (j := 2) rfl ?_⟩⟩
    rw [wu ho'.2.1, wu ho'.2.2.1, w64 (x := cs[ps[i].comp.toNat].h * _) (by omega), w64 (x := sum + _) (by omega), nx_i hc (by omega)]
    refine hrec _ _ ⟨i + 1, rfl, by omega, .inr ⟨i, _, rfl, get_some hc, rfl⟩, fun j p hj hp => ?_, ?_, ?_, k25⟩ (by simp only [Int.toNat_natCast]; omega)
    · rcases Nat.lt_succ_iff_lt_or_eq.1 hj with h1 | h1
      · exact hno j p h1 hp
      · subst h1
        rw [get_some hc] at hp
        cases hp
        exact hB
    · rw [uSum_next (get_some hc), hvv, hsum]
    · simp only; omega
  · refine ite_f (decf (by omega)) ?_
    have hB : ¬ PBad cs ps := fun ⟨j, p, h1, h2⟩ => hno j p (by have := (List.getElem?_eq_some_iff.1 h1).1; omega) h1 h2
    have hall : ps.take i = ps := List.take_of_length_le (by omega)
    rw [hall] at hsum
    refine Join.intro (fun x H' => (x = true ↔ (1 < ps.length ∧ 10 < uSum cs ps)) ∧ H12 = H') ?_ fun J hJ => join_and (hJ _ _ ⟨by rw [hm, hsum]; simp only [Bool.and_eq_true, decide_eq_true_eq]; omega, rfl⟩)
    rintro x _ ⟨hx, rfl⟩
    by_cases hU : 1 < ps.length ∧ 10 < uSum cs ps
    · refine ite_t (hx.2 hU) ?_
      rw [← prt4 (ps := ps) hC hL hB hU]; exact hQ _ k12
    · refine ite_f (bool_f hx hU) ?_
      rw [← prt5 (ps := ps) hC hL hB hU]; exact hQ _ k12
theorem prt_fr (e : Prt w h cs ps = 0) : Chk w h cs = 0 ∧ Fr w h cs ∧ (1 ≤ ps.length ∧ ps.length ≤ 4) ∧ ¬ PBad cs ps ∧ (ps.length = 1 ∨ uSum cs ps ≤ 10) := by
  by_cases hC : ¬ Chk w h cs = 0
  · rw [prt1 hC] at e; exact absurd e hC
  replace hC := Classical.not_not.1 hC
  by_cases hL : ps.length < 1 ∨ 4 < ps.length
  · rw [prt2 hC hL] at e; omega
  by_cases hB : PBad cs ps
  · rw [prt3 hC hL hB] at e; omega
  by_cases hU : 1 < ps.length ∧ 10 < uSum cs ps
  · rw [prt4 hC hL hB hU] at e; omega
  exact ⟨hC, chk_fr hC, by omega, hB, by omega⟩
theorem uni_le : (0 ≤ (Uni w h cs ps).1 ∧ (Uni w h cs ps).1 ≤ 262140) ∧ (0 ≤ (Uni w h cs ps).2 ∧ (Uni w h cs ps).2 ≤ 262140) := by
  unfold Uni
  by_cases hP : Prt w h cs ps ≠ 0
  · rw [if_pos hP]; simp
  rw [if_neg hP]
  by_cases h1 : ps.length = 1
  · rw [if_pos h1]; exact blo_le
  rw [if_neg h1]
  have fr := (prt_fr (Classical.not_not.1 hP)).2.1
  have := fr.w1; have := fr.h1; have := fr.mh; have := fr.mv
  have c1 := cl_pos (a := w) (b := 8 * mxH cs) (by omega) (by omega)
  have c2 := cl_le (a := w) (b := 8 * mxH cs) (by omega) (by omega)
  have c3 := cl_pos (a := h) (b := 8 * mxV cs) (by omega) (by omega)
  have c4 := cl_le (a := h) (b := 8 * mxV cs) (by omega) (by omega)
  simp only
  omega
theorem gUnits_ok {Q : (Int × Int) → Hp → Prop} (hs : Cs H s cs) (hok : ∀ c ∈ cs, c.ok) (hl : cs.length ≤ 140737488355328) (ht : Ps H t ps) (hpk : ∀ p ∈ ps, p.ok) (hQ : ∀ H', Keep H H' → Q (Uni w h cs ps) H') : geom_Units.s g w h s t H Q := by
  unfold geom_Units.s
  intro b1 H2 k2 z2 z2'
  replace k2 : Keep H H2 := k2.keep (by simp)
  replace hs := hs.keep k2
  replace ht := ht.keep k2
  replace hQ : ∀ H', Keep H2 H' → Q (Uni w h cs ps) H' := fun H' k => hQ H' (k2.trans k)
  have hm := ht.n
  refine gParts_ok hs hok hl ht hpk fun H4 k4 => ⟨Pv.keep k4 (by simp; omega), ?_⟩
  by_cases hP : Prt w h cs ps ≠ 0
  · refine ite_t (bnet hP) ?_
    have := hQ _ k4
    unfold Uni at this
    rwa [if_pos hP] at this
  refine ite_f (bnei (Classical.not_not.1 hP)) ?_
  obtain ⟨hC, fr, hL, hB, hU⟩ := prt_fr (Classical.not_not.1 hP)
  have := k4.size
  by_cases h1 : ps.length = 1
  · obtain ⟨b, o, ha, hl4⟩ := (ht.keep k4).get (get_some (show 0 < ps.length by omega))
    refine ite_t (beqi (by omega)) ⟨by omega, by omega, _, ha, ldI_of hl4 (j := 0) rfl (gBlocks_ok (hs.keep k4) hok hl fun H15 k15 => ⟨Pv.keep k15 (by simp; omega), ?_⟩)⟩
    have q := hQ _ (k4.trans k15)
    unfold Uni at q
    rw [if_neg hP, if_pos h1] at q
    have e : (ps.map Pa.comp).headD 0 = ps[0].comp := by
      cases ps with
      | nil => simp at h1
      | cons p r => rfl
    rw [e] at q
    exact q
  · refine ite_f (beqf (by omega)) (most_ok (hs.keep k4) hok hl fun H18 k18 => ⟨Pv.keep k18 (by simp; omega), ?_⟩)
    have := fr.w1; have := fr.h1; have := fr.mh; have := fr.mv; have := k18.size
    rw [w64 (x := 8 * (mxH cs, mxV cs).1) (by simp only; omega), w64 (x := 8 * (mxH cs, mxV cs).2) (by simp only; omega)]
    refine up_ok (by omega) (by simp only; omega) ⟨Pv.keep (Keep.refl _) (by simp; omega), up_ok (by omega) (by simp only; omega) ⟨Pv.keep (Keep.refl _) (by simp; omega), ?_⟩⟩
    have q := hQ _ (k4.trans k18)
    unfold Uni at q
    rw [if_neg hP, if_neg h1] at q
    exact q
theorem uni_pos (hP : Prt w h cs ps = 0) : (1 ≤ (Uni w h cs ps).1) ∧ (1 ≤ (Uni w h cs ps).2) := by
  obtain ⟨hC, fr, hL, hB, hU⟩ := prt_fr hP
  have := fr.w1; have := fr.h1; have := fr.mh; have := fr.mv
  unfold Uni
  rw [if_neg (by simpa using hP)]
  by_cases h1 : ps.length = 1
  · rw [if_pos h1]
    have hpb : ¬ PtBad cs ps 0 ps[0] := fun h => hB ⟨0, _, get_some (by omega), h⟩
    unfold PtBad at hpb
    have hci : ps[0].comp.toNat < cs.length := by omega
    have e : (ps.map Pa.comp).headD 0 = ps[0].comp := by
      cases ps with
      | nil => simp at h1
      | cons p r => rfl
    have f := fr.fac _ (List.getElem_mem hci)
    rw [e]
    unfold Blo
    rw [sam_at hC (by omega) (get_some hci)]
    have m1 : 1 ≤ w * cs[ps[0].comp.toNat].h := by have := Int.mul_le_mul (show (1 : Int) ≤ w by omega) f.1.1 (by omega) (by omega); omega
    have m2 : 1 ≤ h * cs[ps[0].comp.toNat].v := by have := Int.mul_le_mul (show (1 : Int) ≤ h by omega) f.2.1 (by omega) (by omega); omega
    exact ⟨cl_ge1 (cl_ge1 m1 (by omega)) (by omega), cl_ge1 (cl_ge1 m2 (by omega)) (by omega)⟩
  · rw [if_neg h1]
    exact ⟨cl_ge1 (by omega) (by omega), cl_ge1 (by omega) (by omega)⟩
theorem uni_no (hP : Prt w h cs ps ≠ 0) : Uni w h cs ps = (0, 0) := by unfold Uni; rw [if_pos hP]
theorem uni_area : 0 ≤ (Uni w h cs ps).1 * (Uni w h cs ps).2 ∧ (Uni w h cs ps).1 * (Uni w h cs ps).2 ≤ 68717379600 := by
  have u := uni_le (w := w) (h := h) (cs := cs) (ps := ps)
  have := Int.mul_le_mul u.1.2 u.2.2 u.2.1 (by omega)
  exact ⟨Int.mul_nonneg u.1.1 u.2.1, by omega⟩
end
theorem cp_ofv {m : Option Nat} {H : Hp} {xs : List Value} (h : X100 m H xs) : ∃ c : Cp, xs = cC c ∧ c.ok := by
  obtain ⟨x0, x1, x2, x3, rfl, h0, h1, h2, h3⟩ := h
  exact ⟨⟨x0, x1, x2, x3⟩, rfl, h0, h1, h2, h3⟩
theorem pa_ofv {m : Option Nat} {H : Hp} {xs : List Value} (h : X76 m H xs) : ∃ p : Pa, xs = cP p ∧ p.ok := by
  obtain ⟨x0, x1, x2, rfl, h0, h1, h2⟩ := h
  exact ⟨⟨x0, x1, x2⟩, rfl, h0, h1, h2⟩
def cat {α : Type} (f : Nat → List α) : Nat → List α
  | 0 => []
  | n + 1 => cat f n ++ f n
theorem cat_pre {α : Type} (f : Nat → List α) {i : Nat} : ∀ {m : Nat}, i < m → ∃ l, cat f m = cat f i ++ (f i ++ l)
  | 0, h => by omega
  | m + 1, h => by
    rcases Nat.lt_succ_iff_lt_or_eq.1 h with h1 | h1
    · obtain ⟨l, hl⟩ := cat_pre f h1
      exact ⟨l ++ f m, by rw [cat, hl]; simp⟩
    · subst h1; exact ⟨[], by simp [cat]⟩
theorem cat_get {α : Type} (f : Nat → List α) {i m n : Nat} {x : α} (h : i < m) (hx : (f i)[n]? = some x) : (cat f m)[(cat f i).length + n]? = some x := by
  obtain ⟨l, hl⟩ := cat_pre f h
  have hn := (List.getElem?_eq_some_iff.1 hx).1
  rw [hl, List.getElem?_append_right (by omega), show (cat f i).length + n - (cat f i).length = n from by omega, List.getElem?_append_left hn]
  exact hx
theorem cat_len {α : Type} (f : Nat → List α) (n : Nat) : (cat f (n + 1)).length = (cat f n).length + (f n).length := by simp [cat]
abbrev Sp := Int × Int × Int × Int × Bool
def cSp (s : Sp) : List Value := c92 s.1 s.2.1 s.2.2.1 s.2.2.2.1 s.2.2.2.2
open Classical in
noncomputable def spotAt (w h : Int) (cs : List Cp) (i : Nat) (p : Pa) (c : Cp) (col row : Int) (n : Nat) : Sp :=
  ((i : Int), p.comp, col * c.h + (n : Int) % c.h, row * c.v + (n : Int) / c.h, decide (col * c.h + (n : Int) % c.h < (Blo w h cs p.comp).1 ∧ row * c.v + (n : Int) / c.h < (Blo w h cs p.comp).2))
noncomputable def partL (w h : Int) (cs : List Cp) (ps : List Pa) (col row : Int) (i : Nat) : List Sp :=
  match ps[i]? with
  | some p => match cs[p.comp.toNat]? with
    | some c => (List.range (c.h * c.v).toNat).map (spotAt w h cs i p c col row)
    | none => []
  | none => []
noncomputable def unitL (w h : Int) (cs : List Cp) (ps : List Pa) (col row : Int) : List Sp :=
  if ps.length = 1 then [(0, (ps.map Pa.comp).headD 0, col, row, true)] else cat (partL w h cs ps col row) ps.length
noncomputable def walkL (w h : Int) (cs : List Cp) (ps : List Pa) (f m : Nat) : List Sp := cat (fun k => unitL w h cs ps (((f + k : Nat) : Int) % (Uni w h cs ps).1) (((f + k : Nat) : Int) / (Uni w h cs ps).1)) m
theorem partL_eq {w h : Int} {cs : List Cp} {ps : List Pa} {col row : Int} {i : Nat} {p : Pa} {c : Cp} (hp : ps[i]? = some p) (hc : cs[p.comp.toNat]? = some c) : partL w h cs ps col row i = (List.range (c.h * c.v).toNat).map (spotAt w h cs i p c col row) := by
  unfold partL
  simp only [hp, hc]
theorem part_in {cs : List Cp} {ps : List Pa} (hB : ¬ PBad cs ps) {i : Nat} {p : Pa} (hi : ps[i]? = some p) : 0 ≤ p.comp ∧ p.comp < cs.length := by
  have : ¬ PtBad cs ps i p := fun hh => hB ⟨i, _, hi, hh⟩
  unfold PtBad at this
  omega
structure SB (H : Hp) (g w h : Int) (s t : Sl) (cs : List Cp) (ps : List Pa) (b1 b3 b5 b7 : Nat) (col row : Int) : Prop where
  f3 : Bk H b3 25 [.slice t.a t.n t.c]
  f5 : Bk H b5 3 [.int .i64 col]
  f7 : Bk H b7 3 [.int .i64 row]
  f1 : Bk H b1 24 (c24 g w h s)
  hs : Cs H s cs
  ht : Ps H t ps
  lt : ∀ b ∈ fp s ++ fp t, b < H.size
theorem SB.ch {H H' : Hp} {g w h : Int} {s t : Sl} {cs : List Cp} {ps : List Pa} {b1 b3 b5 b7 : Nat} {col row : Int} {F : List Nat} (a : SB H g w h s t cs ps b1 b3 b5 b7 col row) (k : Ch F H H') (hF : ∀ b ∈ b1 :: b3 :: b5 :: b7 :: (fp s ++ fp t), b ∉ F) : SB H' g w h s t cs ps b1 b3 b5 b7 col row :=
  ⟨a.f3.ch k (hF _ (by simp)), a.f5.ch k (hF _ (by simp)), a.f7.ch k (hF _ (by simp)), a.f1.ch k (hF _ (by simp)), a.hs.ch k fun b hb => hF b (by simp [hb]), a.ht.ch k fun b hb => hF b (by simp [hb]), fun b hb => by have := a.lt b hb; have := k.size; omega⟩
theorem SB.keep {H H' : Hp} {g w h : Int} {s t : Sl} {cs : List Cp} {ps : List Pa} {b1 b3 b5 b7 : Nat} {col row : Int} (a : SB H g w h s t cs ps b1 b3 b5 b7 col row) (k : Keep H H') : SB H' g w h s t cs ps b1 b3 b5 b7 col row := a.ch (k.ch (F := [])) (by simp)
theorem SB.lts {H : Hp} {g w h : Int} {s t : Sl} {cs : List Cp} {ps : List Pa} {b1 b3 b5 b7 : Nat} {col row : Int} (a : SB H g w h s t cs ps b1 b3 b5 b7 col row) : ∀ b ∈ b1 :: b3 :: b5 :: b7 :: (fp s ++ fp t), b < H.size := fun b hb => by
  rcases List.mem_cons.1 hb with rfl | hb
  · exact a.f1.lt
  rcases List.mem_cons.1 hb with rfl | hb
  · exact a.f3.lt
  rcases List.mem_cons.1 hb with rfl | hb
  · exact a.f5.lt
  rcases List.mem_cons.1 hb with rfl | hb
  · exact a.f7.lt
  exact a.lt b hb
section
variable {w h g : Int} {s t : Sl} {cs : List Cp} {ps : List Pa} {H : Hp}
open Classical in
theorem spots_seq {b1 b3 b5 b7 : Nat} {col row : Int} (sb : SB H g w h s t cs ps b1 b3 b5 b7 col row) (hok : ∀ c ∈ cs, c.ok) (hP : Prt w h cs ps = 0) (hcol : 0 ≤ col ∧ col ≤ 262140) (hrow : 0 ≤ row ∧ row ≤ 262140) :
    SeqG (fun Y H Q => geom_spots_1.s Y ⟨b3, 0, none⟩ ⟨b5, 0, none⟩ ⟨b7, 0, none⟩ ⟨b1, 0, none⟩ H Q) H (b1 :: b3 :: b5 :: b7 :: (fp s ++ fp t)) (unitL w h cs ps col row) := by
  intro Y Q I Z G0 hG h0 hk hlt hY hQ hZ
  obtain ⟨hC, fr, hL, hB, hU⟩ := prt_fr hP
  have hm := sb.ht.n
  have hn := sb.hs.n
  have hlc : cs.length ≤ 140737488355328 := by have := fr.n; omega
  unfold geom_spots_1.s
  refine ldL_i sb.f3 rfl ?_
  by_cases h1 : ps.length = 1
  · obtain ⟨b, o, ha, hl4⟩ := sb.ht.get (get_some (show 0 < ps.length by omega))
    have e : (ps.map Pa.comp).headD 0 = ps[0].comp := by
      cases ps with
      | nil => simp at h1
      | cons p r => rfl
    have hu : unitL w h cs ps col row = [((0, ps[0].comp, col, row, true) : Sp)] := by unfold unitL; rw [if_pos h1, e]
    refine ite_t (beqi (by omega)) (ldL_i sb.f3 rfl ⟨by omega, by omega, _, ha, ldI_of hl4 (j := 0) rfl (ldI_i sb.f5 rfl (ldI_i sb.f7 rfl ?_))⟩)
    exact hY 0 G0 _ _ _ (by rw [hu]; rfl) h0 (fun G' H' hI c g => hQ G' _ (by rw [hu]; exact hI)) fun H' hz c => hZ _ hz
  refine ite_f (beqf (by omega)) (ldL_i sb.f3 rfl ?_)
  have hu : unitL w h cs ps col row = cat (partL w h cs ps col row) ps.length := by unfold unitL; rw [if_neg h1]
  refine Fix.intro (fun (x : Int) H' => ∃ i : Nat, x = (i : Int) ∧ i ≤ ps.length ∧ SB H' g w h s t cs ps b1 b3 b5 b7 col row ∧ ∃ G, I (cat (partL w h cs ps col row) i).length G H' ∧ ∀ b ∈ b1 :: b3 :: b5 :: b7 :: (fp s ++ fp t), b ∉ G) (fun (x : Int) _ => ps.length - x.toNat) ⟨0, rfl, by omega, sb, G0, h0, fun b hb hh => hG b hh hb⟩ ?_
  rintro _ H23 ⟨i, rfl, hi, sb23, G, hI, hGP⟩ rec hrec
  by_cases hil : i < ps.length
  rotate_left
  · refine ite_f (decf (by omega)) (hQ G _ ?_)
    rw [hu]
    obtain rfl : i = ps.length := by omega
    exact hI
  obtain ⟨p, hp⟩ : ∃ p, ps[i]? = some p := ⟨_, get_some hil⟩
  obtain ⟨pc0, pc1⟩ := part_in hB hp
  obtain ⟨c, hc⟩ : ∃ c, cs[p.comp.toNat]? = some c := ⟨_, get_some (by omega)⟩
  obtain ⟨⟨ch1, ch4⟩, cv1, cv4⟩ := fr.fac c (List.mem_of_getElem? hc)
  obtain ⟨m1, m16⟩ := mul16 ⟨ch1, ch4⟩ ⟨cv1, cv4⟩
  have hpl := partL_eq (w := w) (h := h) (col := col) (row := row) hp hc
  obtain ⟨b, o, ha, hA⟩ := sb23.ht.get hp
  refine ite_t (dect (by omega)) ⟨by omega, by omega, _, ha, ?_⟩
  rw [Int.toNat_natCast]
  refine ⟨_, _, _, hA, ?_⟩
  intro b34 H36 c36 f36 f36'
  have k36 : Keep H23 H36 := c36.keep (by simp)
  have sb36 := sb23.keep k36
  refine ⟨_, _, _, _, ldA_full sb36.f1, gBlocks_ok sb36.hs hok hlc fun H43 k43 => ⟨Pv.keep k43 (by simp; omega), ?_⟩⟩
  have y43 := k43.size
  have sb43 := sb36.keep k43
  have hlG := hlt _ _ _ hI
  obtain ⟨bc, oc, hac, hAc⟩ := sb43.hs.get hc
  refine ldL_a sb43.f1 rfl ⟨pc0, by omega, _, hac, ldI_of hAc (j := 1) rfl (ldL_a sb43.f1 rfl ⟨pc0, by omega, _, hac, ldI_of hAc (j := 2) rfl ?_⟩)⟩
  rw [wu (x := c.h) (by omega), wu (x := c.v) (by omega), w64 (x := c.h * c.v) (by omega)]
  refine Fix.intro (fun (x : Int) H' => ∃ n : Nat, x = (n : Int) ∧ n ≤ (c.h * c.v).toNat ∧ SB H' g w h s t cs ps b1 b3 b5 b7 col row ∧ ∃ G, I ((cat (partL w h cs ps col row) i).length + n) G H' ∧ (∀ b ∈ b1 :: b3 :: b5 :: b7 :: (fp s ++ fp t), b ∉ G) ∧ b34 ∉ G ∧ b34 < H'.size) (fun (x : Int) _ => (c.h * c.v).toNat - x.toNat) ⟨0, rfl, by omega, sb43, G, hk _ _ _ _ hI (k36.trans k43), hGP, fun hh => by have := hlG _ hh; omega, by omega⟩ ?_
  rintro _ H65 ⟨n, rfl, hn', sb65, G', hI65, hGP', h34, l34⟩ rec2 hrec2
  by_cases hnm : n < (c.h * c.v).toNat
  rotate_left
  · refine ite_f (decf (by omega)) ?_
    rw [show (i : Int) + 1 = ((i + 1 : Nat) : Int) from by omega, w64 (by omega)]
    refine hrec _ _ ⟨i + 1, rfl, by omega, sb65, G', ?_, hGP'⟩ (by simp; omega)
    rw [cat_len, hpl, List.length_map, List.length_range, show (c.h * c.v).toNat = n from by omega]
    exact hI65
  refine ite_t (dect (by omega)) ⟨by omega, by omega, ldI_i sb65.f5 rfl (ldI_i sb65.f7 rfl ?_)⟩
  intro b76 H77 c77 f76 f76'
  have k77 : Keep H65 H77 := c77.keep (by simp)
  have sb77 := sb65.keep k77
  refine ⟨by rw [sb77.f7.cell]; rfl, by rw [sb77.f5.cell]; rfl, fun H80 c80 hb76 => ?_⟩
  have y65 := k77.size
  have k80 : Keep H65 H80 := (k77.ch (F := [])).trans c80 (by simp; omega) |>.keep (by simp)
  have y80 := k80.size
  have hx : col * c.h ≤ 262140 * 4 ∧ 0 ≤ col * c.h := ⟨Int.mul_le_mul hcol.2 ch4 (by omega) (by omega), Int.mul_nonneg hcol.1 (by omega)⟩
  have hy : row * c.v ≤ 262140 * 4 ∧ 0 ≤ row * c.v := ⟨Int.mul_le_mul hrow.2 cv4 (by omega) (by omega), Int.mul_nonneg hrow.1 (by omega)⟩
  have em : Int.tmod (n : Int) c.h = (n : Int) % c.h := Int.tmod_eq_emod_of_nonneg (by omega)
  have ed : Int.tdiv (n : Int) c.h = (n : Int) / c.h := Int.tdiv_eq_ediv_of_nonneg (by omega)
  have hm0 := Int.emod_nonneg (n : Int) (b := c.h) (by omega)
  have hm1 := Int.emod_lt_of_pos (n : Int) (b := c.h) (by omega)
  have hd0 : 0 ≤ (n : Int) / c.h := Int.ediv_nonneg (by omega) (by omega)
  have hd1 : (n : Int) / c.h ≤ n := Int.ediv_le_self _ (by omega)
  rw [em, ed, w64 (x := col * c.h) (by omega), w64 (x := row * c.v) (by omega), w64 (x := (n : Int) / c.h) (by omega), w64 (x := col * c.h + (n : Int) % c.h) (by omega), w64 (x := row * c.v + (n : Int) / c.h) (by omega)] at hb76
  refine Join.intro (fun (_ : Unit) H' => Bk H' b76 92 (cSp (spotAt w h cs i p c col row n)) ∧ Keep H65 H') ?_ fun J hJ => ?_
  rotate_left
  · have hpv : ∀ {A B : Hp}, Same A B b76 → H65.size ≤ A.size → Pv [b34] A B := fun {A B} ss hA => Pv.ch ss.ch (by simp; omega)
    refine ldI_i hb76 rfl ?_
    by_cases g1 : col * c.h + (n : Int) % c.h < (Blo w h cs p.comp).1
    · refine ite_t (dect g1) (ldI_i hb76 rfl (st_i hb76 (by show 4 < 5; omega) fun H97 b97 s97 => ⟨hpv s97 (by omega), hJ _ _ ⟨?_, k80.same s97 f76⟩⟩))
      have e : cSp (spotAt w h cs i p c col row n) = c92 (i : Int) p.comp (col * c.h + (n : Int) % c.h) (row * c.v + (n : Int) / c.h) (decide (row * c.v + (n : Int) / c.h < (Blo w h cs p.comp).2)) := by
        unfold cSp spotAt
        simp only [g1, true_and]
      rw [e]
      exact b97
    · refine ite_f (decf g1) (st_i hb76 (by show 4 < 5; omega) fun H99 b99 s99 => ⟨hpv s99 (by omega), hJ _ _ ⟨?_, k80.same s99 f76⟩⟩)
      have e : cSp (spotAt w h cs i p c col row n) = c92 (i : Int) p.comp (col * c.h + (n : Int) % c.h) (row * c.v + (n : Int) / c.h) false := by
        unfold cSp spotAt
        simp only [g1, false_and, decide_false]
      rw [e]
      exact b99
  rintro ⟨⟩ H83 ⟨b83, k83⟩
  have y83 := k83.size
  have sb83 := sb65.keep k83
  refine ⟨_, _, _, _, _, ldA_full b83, hY ((cat (partL w h cs ps col row) i).length + n) G' _ H83 _ ?_ (hk _ _ _ _ hI65 k83) ?_ ?_⟩
  · rw [hu]
    refine cat_get _ hil ?_
    rw [hpl, List.getElem?_map, List.getElem?_range hnm]
    rfl
  · intro G'' H91 hI91 c91 g91
    have y91 := c91.size
    refine ⟨Pv.ch c91 (by simp; exact ⟨by omega, h34⟩), ite_f rfl ?_⟩
    rw [show (n : Int) + 1 = ((n + 1 : Nat) : Int) from by omega, w64 (by omega)]
    refine hrec2 _ _ ⟨n + 1, rfl, by omega, sb83.ch c91 hGP', G'', by rw [← Nat.add_assoc]; exact hI91, fun b hb hh => ?_, fun hh => ?_, by omega⟩ (by simp; omega)
    · rcases g91 b hh with q | q
      · exact hGP' b hb q
      · have := sb83.lts b hb; omega
    · rcases g91 _ hh with q | q
      · exact h34 q
      · omega
  · intro H91 hz c91
    exact ⟨Pv.ch c91 (by simp; exact ⟨by omega, h34⟩), ite_t rfl (hZ _ hz)⟩
end
structure WB (H : Hp) (g w h : Int) (s t : Sl) (cs : List Cp) (ps : List Pa) (b5 b40 b1 b3 b26 : Nat) (f e : Nat) : Prop where
  f5 : Bk H b5 3 [.int .i64 (f : Int)]
  f40 : Bk H b40 3 [.int .i64 (e : Int)]
  f1 : Bk H b1 24 (c24 g w h s)
  f3 : Bk H b3 25 [.slice t.a t.n t.c]
  f26 : Bk H b26 3 [.int .i64 (Uni w h cs ps).1]
  hs : Cs H s cs
  ht : Ps H t ps
  lt : ∀ b ∈ fp s ++ fp t, b < H.size
theorem WB.ch {H H' : Hp} {g w h : Int} {s t : Sl} {cs : List Cp} {ps : List Pa} {b5 b40 b1 b3 b26 f e : Nat} {F : List Nat} (a : WB H g w h s t cs ps b5 b40 b1 b3 b26 f e) (k : Ch F H H') (hF : ∀ b ∈ b5 :: b40 :: b1 :: b3 :: b26 :: (fp s ++ fp t), b ∉ F) : WB H' g w h s t cs ps b5 b40 b1 b3 b26 f e :=
  ⟨a.f5.ch k (hF _ (by simp)), a.f40.ch k (hF _ (by simp)), a.f1.ch k (hF _ (by simp)), a.f3.ch k (hF _ (by simp)), a.f26.ch k (hF _ (by simp)), a.hs.ch k fun b hb => hF b (by simp [hb]), a.ht.ch k fun b hb => hF b (by simp [hb]), fun b hb => by have := a.lt b hb; have := k.size; omega⟩
theorem WB.keep {H H' : Hp} {g w h : Int} {s t : Sl} {cs : List Cp} {ps : List Pa} {b5 b40 b1 b3 b26 f e : Nat} (a : WB H g w h s t cs ps b5 b40 b1 b3 b26 f e) (k : Keep H H') : WB H' g w h s t cs ps b5 b40 b1 b3 b26 f e := a.ch (k.ch (F := [])) (by simp)
theorem WB.lts {H : Hp} {g w h : Int} {s t : Sl} {cs : List Cp} {ps : List Pa} {b5 b40 b1 b3 b26 f e : Nat} (a : WB H g w h s t cs ps b5 b40 b1 b3 b26 f e) : ∀ b ∈ b5 :: b40 :: b1 :: b3 :: b26 :: (fp s ++ fp t), b < H.size := fun b hb => by
  rcases List.mem_cons.1 hb with rfl | hb
  · exact a.f5.lt
  rcases List.mem_cons.1 hb with rfl | hb
  · exact a.f40.lt
  rcases List.mem_cons.1 hb with rfl | hb
  · exact a.f1.lt
  rcases List.mem_cons.1 hb with rfl | hb
  · exact a.f3.lt
  rcases List.mem_cons.1 hb with rfl | hb
  · exact a.f26.lt
  exact a.lt b hb
structure WC (H0 H : Hp) (g w h : Int) (s t : Sl) (cs : List Cp) (ps : List Pa) (b5 b40 b1 b3 b26 f e : Nat) (yv : Value) (bY : Nat) (Ds : List Nat) (G : List Nat) : Prop where
  wb : WB H g w h s t cs ps b5 b40 b1 b3 b26 f e
  by_ : Bk H bY 126 [yv]
  dfr : Dfr Ds H
  nP : ∀ b ∈ b5 :: b40 :: b1 :: b3 :: b26 :: (fp s ++ fp t), b ∉ G
  nY : bY ∉ G
  nD : ∀ D ∈ Ds, D ∉ G
  lY : H0.size ≤ bY
  lD : ∀ D ∈ Ds, H0.size ≤ D
  lP : ∀ b ∈ b5 :: b40 :: b1 :: b3 :: b26 :: (fp s ++ fp t), b < H0.size
section
variable {H0 H H' : Hp} {g w h : Int} {s t : Sl} {cs : List Cp} {ps : List Pa} {b5 b40 b1 b3 b26 f e : Nat} {yv : Value} {bY : Nat} {Ds G F : List Nat}
theorem WC.keep (a : WC H0 H g w h s t cs ps b5 b40 b1 b3 b26 f e yv bY Ds G) (k : Keep H H') : WC H0 H' g w h s t cs ps b5 b40 b1 b3 b26 f e yv bY Ds G :=
  ⟨a.wb.keep k, a.by_.keep k, a.dfr.keep k, a.nP, a.nY, a.nD, a.lY, a.lD, a.lP⟩
theorem WC.one {L : Nat} (a : WC H0 H g w h s t cs ps b5 b40 b1 b3 b26 f e yv bY Ds G) (k : Same H H' L) (h0 : H0.size ≤ L) (h1 : L ≠ bY) (h2 : L ∉ Ds) : WC H0 H' g w h s t cs ps b5 b40 b1 b3 b26 f e yv bY Ds G :=
  ⟨a.wb.ch k.ch (fun b hb hh => by have := a.lP b hb; simp at hh; omega), a.by_.same k h1.symm, Dfr.ch k.ch a.dfr (fun D hD hh => by simp at hh; subst hh; exact h2 hD), a.nP, a.nY, a.nD, a.lY, a.lD, a.lP⟩
theorem WC.step {G' : List Nat} (a : WC H0 H g w h s t cs ps b5 b40 b1 b3 b26 f e yv bY Ds G) (k : Ch G H H') (hG : ∀ b ∈ G', b ∈ G ∨ H.size ≤ b) : WC H0 H' g w h s t cs ps b5 b40 b1 b3 b26 f e yv bY Ds G' :=
  ⟨a.wb.ch k a.nP, a.by_.ch k a.nY, Dfr.ch k a.dfr a.nD, fun b hb hh => (hG b hh).elim (a.nP b hb) fun q => by have := a.wb.lts b hb; omega, fun hh => (hG _ hh).elim a.nY fun q => by have := a.by_.lt; omega,
    fun D hD hh => (hG D hh).elim (a.nD D hD) fun q => by have := a.dfr.lt D hD; omega, a.lY, a.lD, a.lP⟩
theorem uni_has (hU : (Uni w h cs ps).1 ≠ 0) : Prt w h cs ps = 0 := by
  by_cases hP : Prt w h cs ps = 0
  · exact hP
  · rw [uni_no hP] at hU
    exact absurd rfl hU
set_option maxHeartbeats 1000000 in
theorem walk_seq (wb : WB H g w h s t cs ps b5 b40 b1 b3 b26 f e) (hok : ∀ c ∈ cs, c.ok) (hfe : f ≤ e) (he : (e : Int) ≤ (Uni w h cs ps).1 * (Uni w h cs ps).2) (yv : Value) :
    SeqW (fun Y H Q => geom_Walk_1.s yv Y ⟨b5, 0, none⟩ ⟨b40, 0, none⟩ ⟨b1, 0, none⟩ ⟨b3, 0, none⟩ ⟨b26, 0, none⟩ H Q) H (b5 :: b40 :: b1 :: b3 :: b26 :: (fp s ++ fp t)) (walkL w h cs ps f (e - f)) := by
  intro Y Q I Z G0 hG h0 hk hkz hlt hY hQ hZ
  obtain ⟨⟨x0, x1⟩, y0, y1⟩ := uni_le (w := w) (h := h) (cs := cs) (ps := ps)
  obtain ⟨a0, a1⟩ := uni_area (w := w) (h := h) (cs := cs) (ps := ps)
  unfold geom_Walk_1.s
  intro bY H2 c2 g2 g2'
  have k2 : Keep H H2 := c2.keep (by simp)
  have y2 := k2.size
  refine ldI_i (wb.f5.keep k2) rfl fun hbY => ?_
  unfold walkL at hY hQ
  generalize hUL : (fun k : Nat => unitL w h cs ps (((f + k : Nat) : Int) % (Uni w h cs ps).1) (((f + k : Nat) : Int) / (Uni w h cs ps).1)) = UL at hY hQ
  have hkk : ∀ {i G H1 H'}, I i G H1 → Keep H1 H' → I i G H' := fun {i G H1 H'} hi k => hk i G H1 H' [] hi k.ch (by simp)
  refine Fix.intro (fun (x : Int × List Nat) H' => ∃ (k : Nat) (G : List Nat), x.1 = ((f + k : Nat) : Int) ∧ f + k ≤ e ∧ WC H H' g w h s t cs ps b5 b40 b1 b3 b26 f e yv bY x.2 G ∧ I (cat UL k).length G H') (fun x _ => e - x.1.toNat)
    ⟨0, G0, rfl, by omega, ⟨wb.keep k2, hbY, trivial, fun b hb hh => hG b hh hb, fun hh => by have := hlt _ _ _ h0 _ hh; omega, by simp, g2, by simp, wb.lts⟩, hkk h0 k2⟩ ?_
  rintro ⟨_, Ds⟩ H8 ⟨k, G, rfl, hk', wc, hI⟩ rec hrec
  simp only at wc ⊢
  have w8 := wc.wb
  refine ldI_i w8.f40 rfl ?_
  by_cases hke : f + k < e
  rotate_left
  · refine ite_f (decf (by omega)) (tkD_ok wc.dfr fun H' c' z => hQ G _ ?_)
    rw [show e - f = k from by omega]
    exact hk _ _ _ _ Ds hI c' fun D hD => ⟨wc.lD D hD, wc.nD D hD⟩
  have hU0 : (Uni w h cs ps).1 ≠ 0 := fun hh => by rw [hh] at he; omega
  have hP := uni_has hU0
  refine ite_t (dect (by omega)) ⟨_, _, _, _, ldA_full w8.f1, ldL_i w8.f3 rfl (ldI_i w8.f26 rfl ⟨hU0, ldI_i w8.f26 rfl ⟨hU0, ?_⟩⟩)⟩
  unfold geom_spots.s
  intro p1 A1 d1 e1 e1' p3 A2 d2 e2 e2' p5 A3 d3 e3 e3' p7 H28 d4 e4 e4' j3 j5 j7 j1
  have k28 : Keep H8 H28 := (((d1.keep (by simp)).trans (d2.keep (by simp))).trans (d3.keep (by simp))).trans (d4.keep (by simp))
  have z1 := d1.size
  have z2 := d2.size
  have z3 := d3.size
  have z4 := d4.size
  have em : Int.tmod ((f + k : Nat) : Int) (Uni w h cs ps).1 = ((f + k : Nat) : Int) % (Uni w h cs ps).1 := Int.tmod_eq_emod_of_nonneg (by omega)
  have ed : Int.tdiv ((f + k : Nat) : Int) (Uni w h cs ps).1 = ((f + k : Nat) : Int) / (Uni w h cs ps).1 := Int.tdiv_eq_ediv_of_nonneg (by omega)
  have m0 := Int.emod_nonneg ((f + k : Nat) : Int) hU0
  have m1 := Int.emod_lt_of_pos ((f + k : Nat) : Int) (b := (Uni w h cs ps).1) (by omega)
  have q0 : 0 ≤ ((f + k : Nat) : Int) / (Uni w h cs ps).1 := Int.ediv_nonneg (by omega) (by omega)
  have q1 : ((f + k : Nat) : Int) / (Uni w h cs ps).1 < (Uni w h cs ps).2 := Int.ediv_lt_of_lt_mul (by omega) (by rw [Int.mul_comm]; omega)
  rw [em] at j5
  rw [ed, w64 (by omega)] at j7
  have w28 := w8.keep k28
  have sb : SB H28 g w h s t cs ps p1 p3 p5 p7 _ _ := ⟨j3, j5, j7, j1, w28.hs, w28.ht, w28.lt⟩
  have hGl := hlt _ _ _ hI
  have y8 := wc.by_.lt
  have lB := wc.lY
  refine Rg_i fun r H32 hr k32 z32 hD hl => ?_
  have wc32 := wc.keep (k28.trans k32)
  have hul : UL k = unitL w h cs ps (((f + k : Nat) : Int) % (Uni w h cs ps).1) (((f + k : Nat) : Int) / (Uni w h cs ps).1) := by rw [← hUL]
  have DL := wc.dfr.lt
  refine spots_seq (sb.keep k32) hok hP (by omega) (by omega) _ _ (fun i G' H' => ∃ G, G' = (H28.size + 1) :: G ∧ WC H H' g w h s t cs ps b5 b40 b1 b3 b26 f e yv bY (H28.size :: Ds) G ∧ H28.size + 1 ∉ G ∧ I ((cat UL k).length + i) G H' ∧ Lp H' (H28.size + 1) r)
    (fun H' => ∃ G, WC H H' g w h s t cs ps b5 b40 b1 b3 b26 f e yv bY (H28.size :: Ds) G ∧ H28.size + 1 ∉ G ∧ Z G H' ∧ Lp H' (H28.size + 1) (dn r .ret)) ((H28.size + 1) :: G) ?_ ?_ ?_ ?_ ?_ ?_ ?_
  · intro b hb hh
    have l1 := sb.lts b hh
    rcases List.mem_cons.1 hb with rfl | hb
    · omega
    have := hGl b hb
    rcases List.mem_cons.1 hh with rfl | hh
    · omega
    rcases List.mem_cons.1 hh with rfl | hh
    · omega
    rcases List.mem_cons.1 hh with rfl | hh
    · omega
    rcases List.mem_cons.1 hh with rfl | hh
    · omega
    exact wc.nP b (by simp [List.mem_append.1 hh]) hb
  · refine ⟨G, rfl, ⟨wc32.wb, wc32.by_, ⟨hD, fun hh => by have := DL _ hh; omega, wc32.dfr⟩, wc.nP, wc.nY, fun D hD => ?_, wc.lY, fun D hD => ?_, wc.lP⟩, fun hh => by have := hGl _ hh; omega, hkk hI (k28.trans k32), hl⟩
    · rcases List.mem_cons.1 hD with rfl | hD
      · exact fun hh => by have := hGl _ hh; omega
      · exact wc.nD D hD
    · rcases List.mem_cons.1 hD with rfl | hD
      · omega
      · exact wc.lD D hD
  · rintro i _ A B ⟨G, rfl, a1, a2, a3, a4⟩ kk
    exact ⟨G, rfl, a1.keep kk, a2, hkk a3 kk, a4.ch (kk.ch (F := [])) (by simp)⟩
  · rintro i _ A ⟨G, rfl, a1, a2, a3, a4⟩ b hb
    rcases List.mem_cons.1 hb with rfl | hb
    · exact a4.lt
    · exact hlt _ _ _ a3 b hb
  · rintro i _ x H35 K hx ⟨G, rfl, a1, a2, a3, a4⟩ hT hF
    refine ⟨a4, ?_⟩
    intro b38 H40 c40 g38 g38'
    have k40 : Keep H35 H40 := c40.keep (by simp)
    have y40 := k40.size
    have l40 := a4.ch c40 (by simp)
    have zL := a4.lt
    have bL := a1.by_.lt
    refine ⟨l40, Up_s l40 fun H41 s41 l41 => ⟨Pv.ch s41.ch (by simp; omega), ?_⟩⟩
    have y41 := s41.size
    have nY : H28.size + 1 ≠ bY := by omega
    have nDs : H28.size + 1 ∉ H28.size :: Ds := fun hh => by
      rcases List.mem_cons.1 hh with q | q
      · omega
      · have := DL _ q; omega
    have wc41 := (a1.keep k40).one s41 (by omega) nY nDs
    have I41 : I ((cat UL k).length + i) G H41 := hk _ _ _ _ [H28.size + 1] (hkk a3 k40) s41.ch (by simp; exact ⟨by omega, a2⟩)
    refine ⟨yv, by rw [wc41.by_.cell]; rfl, rfl, hY ((cat UL k).length + i) G (x.1, x.2.1, x.2.2.1, x.2.2.2.1, x.2.2.2.2) H41 _ ?_ I41 ?_ ?_⟩
    · exact cat_get UL (by omega) (by rw [hul]; exact hx)
    · intro G' H46 hI46 c46 g46
      have y46 := c46.size
      have nL : H28.size + 1 ∉ G' := fun hh => (g46 _ hh).elim a2 fun q => by omega
      have wc46 := wc41.step c46 g46
      have l46 := l41.ch c46 a2
      refine ite_f rfl ⟨l46, hT ((H28.size + 1) :: G') _ ⟨G', rfl, wc46.one putL_same (by omega) nY nDs, nL, hk _ _ _ _ [H28.size + 1] hI46 putL_same.ch (by simp; exact ⟨by omega, nL⟩), putL_lp l46⟩ ?_ fun b hb => ?_⟩
      · exact (((k40.ch (F := (H28.size + 1) :: G)).trans s41.ch (by simp)).trans c46 (fun b hb => .inl (by simp [hb]))).trans putL_same.ch (by simp)
      · rcases List.mem_cons.1 hb with rfl | hb
        · exact .inl (by simp)
        · rcases g46 b hb with q | q
          · exact .inl (by simp [q])
          · exact .inr (by omega)
    · intro G' H46 hz46 c46 g46
      have y46 := c46.size
      have nL : H28.size + 1 ∉ G' := fun hh => (g46 _ hh).elim a2 fun q => by omega
      have wc46 := wc41.step c46 g46
      have l46 := l41.ch c46 a2
      refine ite_t rfl ⟨l46, hF _ ⟨G', wc46.one putL_same (by omega) nY nDs, nL, hkz _ _ _ [H28.size + 1] hz46 putL_same.ch (by simp; exact ⟨by omega, nL⟩), putL_lp l46⟩ ?_⟩
      exact (((k40.ch (F := (H28.size + 1) :: G)).trans s41.ch (by simp)).trans c46 (fun b hb => .inl (by simp [hb]))).trans putL_same.ch (by simp)
  · rintro _ H36 ⟨G, rfl, a1, a2, a3, a4⟩
    refine .inl ⟨a4, Up_s a4 fun H49 s49 l49 => ?_⟩
    have nDs : H28.size + 1 ∉ H28.size :: Ds := fun hh => by
      rcases List.mem_cons.1 hh with q | q
      · omega
      · have := DL _ q; omega
    rw [show ((f + k : Nat) : Int) + 1 = ((f + (k + 1) : Nat) : Int) from by omega, w64 (by omega)]
    refine hrec _ _ ⟨k + 1, G, rfl, by omega, a1.one s49 (by omega) (by omega) nDs, ?_⟩ (by simp; omega)
    rw [cat_len, hul]
    exact hk _ _ _ _ [H28.size + 1] a3 s49.ch (by simp; exact ⟨by omega, a2⟩)
  · rintro H36 ⟨G, a1, a2, a3, a4⟩
    refine .inr ⟨a4, Up_s a4 fun H50 s50 _ => ?_⟩
    have nDs : H28.size + 1 ∉ H28.size :: Ds := fun hh => by
      rcases List.mem_cons.1 hh with q | q
      · omega
      · have := DL _ q; omega
    have wc50 := a1.one s50 (by omega) (by omega) nDs
    refine tkD_ok wc50.dfr fun H51 c51 z51 => hZ G _ ?_
    exact hkz _ _ _ _ (hkz _ _ _ [H28.size + 1] a3 s50.ch (by simp; exact ⟨by omega, a2⟩)) c51 fun D hD => ⟨a1.lD D hD, a1.nD D hD⟩
end
def wF0 (first : Int) : Int := if first < 0 then 0 else first
def wU0 (units : Int) : Int := if units < 0 then 0 else units
def wU (first units : Int) : Int := if first < 0 then wU0 units + (if first < 0 - wU0 units then 0 - wU0 units else first) else wU0 units
def wFst (first T : Int) : Int := if T < wF0 first then T else wF0 first
def wEnd (first units T : Int) : Int := wFst first T + (if T - wFst first T < wU first units then T - wFst first T else wU first units)
theorem wU_le {first units : Int} (h1 : -9223372036854775808 ≤ first ∧ first ≤ 9223372036854775807) (h2 : -9223372036854775808 ≤ units ∧ units ≤ 9223372036854775807) : 0 ≤ wU0 units ∧ wU0 units ≤ 9223372036854775807 ∧ 0 ≤ wU first units ∧ wU first units ≤ 9223372036854775807 ∧ 0 ≤ wF0 first ∧ wF0 first ≤ 9223372036854775807 := by
  unfold wU wU0 wF0
  split <;> split <;> (try split) <;> omega
theorem wE_le {first units T : Int} (hT : 0 ≤ T) (hU : 0 ≤ wU first units) (hF : 0 ≤ wF0 first) : 0 ≤ wFst first T ∧ wFst first T ≤ T ∧ wFst first T ≤ wEnd first units T ∧ wEnd first units T ≤ T := by
  unfold wEnd wFst
  split <;> split <;> omega
section
variable {w h g : Int} {s t : Sl} {cs : List Cp} {ps : List Pa} {H : Hp}
theorem Walk_ok {first units : Int} {Q : (Addr × Addr × Addr × Addr × Addr) → Hp → Prop} (hs : Cs H s cs) (hok : ∀ c ∈ cs, c.ok) (hl : cs.length * 4 ≤ 140737488355328) (ht : Ps H t ps) (hpk : ∀ p ∈ ps, p.ok) (hm : ps.length * 16 ≤ 140737488355328)
    (h1 : -9223372036854775808 ≤ first ∧ first ≤ 9223372036854775807) (h2 : -9223372036854775808 ≤ units ∧ units ≤ 9223372036854775807)
    (hQ : ∀ b5 b40 b1 b3 b26 l m H', WB H' g w h l m cs ps b5 b40 b1 b3 b26 (wFst first ((Uni w h cs ps).1 * (Uni w h cs ps).2)).toNat (wEnd first units ((Uni w h cs ps).1 * (Uni w h cs ps).2)).toNat → Keep H H' →
      (∀ b ∈ b5 :: b40 :: b1 :: b3 :: b26 :: (fp l ++ fp m), H.size ≤ b) → Q (⟨b5, 0, none⟩, ⟨b40, 0, none⟩, ⟨b1, 0, none⟩, ⟨b3, 0, none⟩, ⟨b26, 0, none⟩) H') : geom_Walk.s g w h s t first units H Q := by
  obtain ⟨u0, u1, u2, u3, u4, u5⟩ := wU_le h1 h2
  obtain ⟨a0, a1⟩ := uni_area (w := w) (h := h) (cs := cs) (ps := ps)
  unfold geom_Walk.s
  intro b1 H2 c2 g1 g1' b3 H4 c4 g3 g3' b5 H6 c6 g5 g5'
  have k6 : Keep H H6 := ((c2.keep (by simp)).trans (c4.keep (by simp))).trans (c6.keep (by simp))
  have y2 := c2.size
  have y4 := c4.size
  have y6 := c6.size
  have d1 := (hs.keep k6).cells cC_len cC_ones
  refine ⟨cs.flatMap cC, d1.1, d1.2, apS_list (xs := []) (ys := cs) (Own.nil _ _ _) cC_len cC_ones rfl (by omega) hs.n (by simp; omega) (by omega) fun l8 H9 o9 c9 f9 => ?_⟩
  have k9 : Keep H6 H9 := c9.keep (by simp [fp])
  have y9 := k9.size
  have f8 : ∀ b ∈ fp l8, H6.size ≤ b := fun b hb => by have := f9 b hb; simp [fp] at this; omega
  rw [List.nil_append] at o9
  refine ⟨Pv.keep k9 (by simp; omega), fun H14 c14 => ?_⟩
  have y14 := c14.size
  have k14 : Keep H H14 := ((k6.trans k9).ch (F := [])).trans c14 (by simp; omega) |>.keep (by simp)
  have o14 := o9.ch c14 fun b hb => by have := f8 b hb; simp; omega
  have d2 := (ht.keep k14).cells cP_len cP_ones
  refine ⟨ps.flatMap cP, d2.1, d2.2, apS_list (xs := []) (ys := ps) (Own.nil _ _ _) cP_len cP_ones rfl (by omega) ht.n (by simp; omega) (by omega) fun l16 H17 o17 c17 f17 => ?_⟩
  have k17 : Keep H14 H17 := c17.keep (by simp [fp])
  have y17 := k17.size
  have f16 : ∀ b ∈ fp l16, H14.size ≤ b := fun b hb => by have := f17 b hb; simp [fp] at this; omega
  rw [List.nil_append] at o17
  refine ⟨Pv.keep k17 (by simp; omega), fun H22 c22 => ?_⟩
  have y22 := c22.size
  have k22 : Keep H H22 := ((k14.trans k17).ch (F := [])).trans c22 (by simp; omega) |>.keep (by simp)
  have o22 := (o14.ch (k17.ch (F := [])) (by simp)).ch c22 fun b hb => by have := f8 b hb; simp; omega
  have p22 := o17.ch c22 fun b hb => by have := f16 b hb; simp; omega
  refine gUnits_ok (o22.view cC_len (by omega)) hok (by omega) (p22.view cP_len (by omega)) hpk fun H24 k24 => ⟨Pv.keep k24 (by simp; omega), ?_⟩
  have y24 := k24.size
  intro b26 H28 c28 g26 g26' hb5
  have k28 : Keep H22 H28 := k24.trans (c28.keep (by simp))
  have y28 := c28.size
  obtain ⟨r0, r1, r2, r3⟩ := wE_le (first := first) (units := units) a0 u2 u4
  generalize hT : (Uni w h cs ps).1 * (Uni w h cs ps).2 = T at *
  refine Join.intro (fun (x : Int) H' => x = wU first units ∧ Bk H' b5 3 [.int .i64 (wF0 first)] ∧ Ch [b5] H28 H') ?_ fun J hJ => ?_
  rotate_left
  · refine ldI_i hb5 rfl ?_
    by_cases hf : first < 0
    · refine ite_t (dect hf) (ldI_i hb5 rfl (Lt.of (st_i hb5 (by simp) fun H49 b49 s49 => ⟨Pv.ch s49.ch (by simp; omega), hJ _ _ ⟨?_, ?_, s49.ch⟩⟩)))
      · unfold wU wU0 at *
        rw [if_pos hf] at u2 u3 ⊢
        have e : IntKind.wrap .i64 (0 - (if units < 0 then 0 else units)) = 0 - (if units < 0 then 0 else units) := w64 (by omega)
        rw [e, w64 (by omega)]
      · unfold wF0
        rw [if_pos hf]
        exact b49
    · refine ite_f (decf hf) (hJ _ _ ⟨?_, ?_, Ch.refl _ _⟩)
      · unfold wU wU0
        rw [if_neg hf]
      · unfold wF0
        rw [if_neg hf]
        exact hb5
  rintro _ H31 ⟨rfl, b31, c31⟩
  have y31 := c31.size
  refine ldI_i b31 rfl (st_i b31 (by simp) fun H34 b34 s34 => ?_)
  have y34 := s34.size
  rw [w64 (x := T) (by omega)] at b34 ⊢
  have ef : (if T < wF0 first then T else wF0 first) = wFst first T := rfl
  rw [List.set_cons_zero, ef] at b34
  refine ⟨Pv.ch s34.ch (by simp; omega), ldI_i b34 rfl (ldI_i b34 rfl ?_)⟩
  intro b40 H42 c42 g40 g40' h40 q1 q3 q26
  have ee : IntKind.wrap .i64 (wFst first T + (if IntKind.wrap .i64 (T - wFst first T) < wU first units then IntKind.wrap .i64 (T - wFst first T) else wU first units)) = wEnd first units T := by
    rw [w64 (x := T - wFst first T) (by omega)]
    exact w64 (by show _ ≤ wEnd first units T ∧ wEnd first units T ≤ _; omega)
  rw [ee] at h40
  have c5 : Ch [b5] H28 H42 := (c31.same s34.ch).trans c42 (by simp)
  have kA : Keep H H42 := ((k22.trans k28).ch (F := [])).trans c5 (by simp; omega) |>.keep (by simp)
  have y42 := c42.size
  have oL := (o22.ch (k28.ch (F := [])) (by simp)).ch c5 fun b hb => by have := f8 b hb; simp; omega
  have oP := (p22.ch (k28.ch (F := [])) (by simp)).ch c5 fun b hb => by have := f16 b hb; simp; omega
  have b5' := b34.ch c42 (by simp)
  refine hQ b5 b40 b1 b3 b26 l8 l16 H42 ⟨?_, ?_, q1, q3, q26, oL.view cC_len (by omega), oP.view cP_len (by omega), fun b hb => ?_⟩ kA fun b hb => ?_
  · rw [show (((wFst first T).toNat : Nat) : Int) = wFst first T from Int.toNat_of_nonneg r0]
    exact b5'
  · rw [show (((wEnd first units T).toNat : Nat) : Int) = wEnd first units T from Int.toNat_of_nonneg (by omega)]
    exact h40
  · rcases List.mem_append.1 hb with hb | hb
    · exact oL.fp_lt b hb
    · exact oP.fp_lt b hb
  · rcases List.mem_cons.1 hb with rfl | hb
    · omega
    rcases List.mem_cons.1 hb with rfl | hb
    · omega
    rcases List.mem_cons.1 hb with rfl | hb
    · omega
    rcases List.mem_cons.1 hb with rfl | hb
    · omega
    rcases List.mem_cons.1 hb with rfl | hb
    · omega
    rcases List.mem_append.1 hb with hb | hb
    · have := f8 b hb; omega
    · have := f16 b hb; omega
end
section
variable {w h : Int} {cs : List Cp} {ps : List Pa}
def eachL (cs : List Cp) (ps : List Pa) : Nat := if ps.length = 1 then 1 else (uSum cs ps).toNat
theorem parts_len (hP : Prt w h cs ps = 0) (col row : Int) : ∀ i, i ≤ ps.length → 0 ≤ uSum cs (ps.take i) ∧ (cat (partL w h cs ps col row) i).length = (uSum cs (ps.take i)).toNat
  | 0, _ => by simp [uSum, cat]
  | i + 1, hi => by
    obtain ⟨h0, ih⟩ := parts_len hP col row i (by omega)
    obtain ⟨hC, fr, hL, hB, hU⟩ := prt_fr hP
    obtain ⟨p, hp⟩ : ∃ p, ps[i]? = some p := ⟨_, get_some (by omega)⟩
    obtain ⟨pc0, pc1⟩ := part_in hB hp
    obtain ⟨c, hc⟩ : ∃ c, cs[p.comp.toNat]? = some c := ⟨_, get_some (by omega)⟩
    obtain ⟨⟨ch1, ch4⟩, cv1, cv4⟩ := fr.fac c (List.mem_of_getElem? hc)
    obtain ⟨m1, m16⟩ := mul16 ⟨ch1, ch4⟩ ⟨cv1, cv4⟩
    rw [cat_len, ih, uSum_next hp, hv_at hc, partL_eq hp hc, List.length_map, List.length_range]
    omega
theorem unit_len (hP : Prt w h cs ps = 0) (col row : Int) : (unitL w h cs ps col row).length = eachL cs ps := by
  unfold unitL eachL
  split
  · rfl
  · rw [(parts_len hP col row ps.length (Nat.le_refl _)).2, List.take_length]
theorem each_le (hP : Prt w h cs ps = 0) : 1 ≤ eachL cs ps ∧ eachL cs ps ≤ 10 := by
  obtain ⟨hC, fr, hL, hB, hU⟩ := prt_fr hP
  unfold eachL
  split
  · omega
  · rename_i h1
    obtain ⟨h0, _⟩ := parts_len hP 0 0 ps.length (Nat.le_refl _)
    rw [List.take_length] at h0
    have e1 := (parts_len hP 0 0 1 (by omega)).1
    refine ⟨?_, by omega⟩
    have : 1 ≤ uSum cs ps := by
      have hall : ∀ i, 1 ≤ i → i ≤ ps.length → 1 ≤ uSum cs (ps.take i) := by
        intro i
        induction i with
        | zero => omega
        | succ i ih =>
          intro _ hi
          obtain ⟨p, hp⟩ : ∃ p, ps[i]? = some p := ⟨_, get_some (by omega)⟩
          obtain ⟨pc0, pc1⟩ := part_in hB hp
          obtain ⟨c, hc⟩ : ∃ c, cs[p.comp.toNat]? = some c := ⟨_, get_some (by omega)⟩
          obtain ⟨⟨ch1, ch4⟩, cv1, cv4⟩ := fr.fac c (List.mem_of_getElem? hc)
          obtain ⟨m1, m16⟩ := mul16 ⟨ch1, ch4⟩ ⟨cv1, cv4⟩
          have := (parts_len hP 0 0 i (by omega)).1
          rw [uSum_next hp, hv_at hc]
          omega
      have := hall ps.length (by omega) (Nat.le_refl _)
      rwa [List.take_length] at this
    omega
theorem cat_mul {α : Type} {f : Nat → List α} {n : Nat} (hf : ∀ k, (f k).length = n) : ∀ m, (cat f m).length = m * n
  | 0 => by simp [cat]
  | m + 1 => by rw [cat_len, cat_mul hf m, hf, Nat.add_mul]; omega
theorem walk_len (hP : Prt w h cs ps = 0) (f m : Nat) : (walkL w h cs ps f m).length = m * eachL cs ps := cat_mul (fun k => unit_len hP _ _) m
end
theorem wEnd_at {f u T : Int} (hf : 0 ≤ f) (hu : 0 ≤ u) (hT : f ≤ T) : wFst f T = f ∧ wEnd f u T = f + min u (T - f) := by
  have e0 : wF0 f = f := by unfold wF0; rw [if_neg (by omega)]
  have e1 : wFst f T = f := by unfold wFst; rw [e0, if_neg (by omega)]
  have e2 : wU f u = u := by unfold wU wU0; rw [if_neg (by omega), if_neg (by omega)]
  refine ⟨e1, ?_⟩
  unfold wEnd
  rw [e1, e2]
  split <;> omega
end Go.Proofs.Ytmnoecpnoofdjaa.G
