/- Z14 Z14v Z14w Z14x Z14c Z14t -/
import Derived.Test.YtlfdfikgbdgfdaaGV
import Derived.Test.YtlfdfikgbdgfdaaKmosaicref14
import Derived.Test.YtlfdfikgbdgfdaaGT
import Derived.Test.YtlfdfikgbdgfdaaZSW
import Derived.Test.YtlfdfikgbdgfdaaZW
import Derived.Test.YtlfdfikgbdgfdaaM14
namespace Go.Proofs.Ytlfdfikgbdgfdaa.G
open Go.RowKit
set_option linter.unusedVariables false
set_option linter.unusedSimpArgs false
section
variable {w h : Int} {s : Sl} {cs : List Cp} {H : Hp} {g : Int}
theorem greatest_ok {Q : (Int × Int) → Hp → Prop} (hs : Cs H s cs) (hok : ∀ c ∈ cs, c.ok) (hl : cs.length ≤ 140737488355328) (hQ : ∀ H', Keep H H' → Q (mxH cs, mxV cs) H') : mosaicref14_greatest.s g w h s H Q := by
  unfold mosaicref14_greatest.s
  intro b1 H2 k2 z2 z2'
  replace k2 : Keep H H2 := k2.keep (by simp)
  have hn := hs.n
  refine Fix.intro (fun (x : Int × Int × Int) H' => ∃ i : Nat, x = (mxH (cs.take i), mxV (cs.take i), (i : Int)) ∧ i ≤ cs.length ∧ Keep H H') (fun x _ => cs.length - x.2.2.toNat) ⟨0, rfl, by omega, k2⟩ ?_
  rintro _ H6 ⟨i, rfl, hi, k6⟩ rec hrec
  simp only
  by_cases hc : i < cs.length
  · obtain ⟨b, o, ha, hl6⟩ := (hs.keep k6).get (get_some hc)
    have ho := ok_get hok (get_some hc)
    refine ite_t (dect (by omega)) ?_
    have e1 := mxH_next (get_some hc)
    have e2 := mxV_next (get_some hc)
    refine Join.intro (fun x H' => x = (mxH (cs.take (i + 1)), mxV (cs.take (i + 1))) ∧ H6 = H') ?_ ?_
    · rintro _ _ ⟨rfl, rfl⟩
      rw [nx_i hc (by omega)]
      exact hrec _ _ ⟨i + 1, rfl, by omega, k6⟩ (by simp only [Int.toNat_natCast]; omega)
    · intro J hJ
      refine Join.intro (fun x H' => x = mxH (cs.take (i + 1)) ∧ H6 = H') ?_ ?_
      · rintro _ _ ⟨rfl, rfl⟩
        refine ⟨by omega, by omega, _, ha, ?_⟩
        rw [Int.toNat_natCast]
        refine ldI_of hl6 (j := 2) rfl ?_
        rw [wu ho.2.2.1]
        by_cases h2 : mxV (cs.take i) < cs[i].v
        · exact ite_t (dect h2) ⟨by omega, by omega, ldI_of hl6 (j := 2) rfl (hJ _ _ ⟨by rw [e2, if_pos h2, wu ho.2.2.1], rfl⟩)⟩
        · exact ite_f (decf h2) (hJ _ _ ⟨by rw [e2, if_neg h2], rfl⟩)
      · intro J2 hJ2
        refine ⟨by omega, by omega, _, ha, ?_⟩
        rw [Int.toNat_natCast]
        refine ldI_of hl6 (j := 1) rfl ?_
        rw [wu ho.2.1]
        by_cases h2 : mxH (cs.take i) < cs[i].h
        · exact ite_t (dect h2) ⟨by omega, by omega, ldI_of hl6 (j := 1) rfl (hJ2 _ _ ⟨by rw [e1, if_pos h2, wu ho.2.1], rfl⟩)⟩
        · exact ite_f (decf h2) (hJ2 _ _ ⟨by rw [e1, if_neg h2], rfl⟩)
  · refine ite_f (decf (by omega)) ?_
    have : cs.take i = cs := List.take_of_length_le (by omega)
    rw [this]
    exact hQ _ k6
end
section
variable {w h : Int} {s : Sl} {cs : List Cp} {H : Hp} {g : Int}
theorem rIds_ok {Q : Bool → Hp → Prop} (hs : Cs H s cs) (hok : ∀ c ∈ cs, c.ok) (hl : cs.length ≤ 140737488355328) (hQ : ∀ b H', (b = true ↔ Bad cs) → Keep H H' → Q b H') : mosaicref14_ids.s g w h s H Q := by
  unfold mosaicref14_ids.s
  intro b1 H2 k2 z2 z2'
  replace k2 : Keep H H2 := k2.keep (by simp)
  have hn := hs.n
  refine Fix.intro (fun (x : Int) H' => ∃ i : Nat, x = (i : Int) ∧ i ≤ cs.length ∧ (∀ j c, j < i → cs[j]? = some c → ¬ BadAt cs j c) ∧ Keep H H') (fun (x : Int) _ => cs.length - x.toNat) ⟨0, rfl, by omega, fun j c hj => by omega, k2⟩ ?_
  rintro _ H6 ⟨i, rfl, hi, hno, k6⟩ rec hrec
  by_cases hc : i < cs.length
  · obtain ⟨b, o, ha, hl6⟩ := (hs.keep k6).get (get_some hc)
    refine ite_t (dect (by omega)) ⟨by omega, by omega, _, ha, ?_⟩
    rw [Int.toNat_natCast]
    refine ldI_of hl6 (j := 3) rfl ?_
    by_cases hq : 3 < cs[i].q
    · exact ite_t (dect hq) (hQ _ _ ⟨fun _ => ⟨i, cs[i], get_some hc, .inl hq⟩, fun _ => rfl⟩ k6)
    refine ite_f (decf hq) ?_
    refine Fix.intro (fun (x : Int) H' => ∃ k : Nat, x = (k : Int) ∧ k ≤ i ∧ (∀ j d, j < k → cs[j]? = some d → d.id ≠ cs[i].id) ∧ H6 = H') (fun (x : Int) _ => i - x.toNat) ⟨0, rfl, by omega, fun j c hj => by omega, rfl⟩ ?_
    rintro _ _ ⟨k, rfl, hk, hne, rfl⟩ rec2 hrec2
    by_cases hck : k < i
    · obtain ⟨b', o', ha', hl'⟩ := (hs.keep k6).get (get_some (show k < cs.length by omega))
      rw [ha] at ha'
      obtain ⟨rfl, rfl⟩ : b = b' ∧ o = o' := by simpa using ha'
      refine ite_t (dect (by omega)) ⟨by omega, by omega, ?_⟩
      rw [Int.toNat_natCast]
      refine ldI_of hl' (j := 0) rfl ⟨by omega, by omega, ldI_of hl6 (j := 0) rfl ?_⟩
      by_cases heq : cs[k].id = cs[i].id
      · exact ite_t (beqi heq) (hQ _ _ ⟨fun _ => ⟨i, cs[i], get_some hc, .inr ⟨k, cs[k], hck, get_some (by omega), heq⟩⟩, fun _ => rfl⟩ k6)
      · refine ite_f (beqf heq) ?_
        rw [nx_i hck (by omega)]
        refine hrec2 _ _ ⟨k + 1, rfl, by omega, fun j d hj hd => ?_, rfl⟩ (by simp only [Int.toNat_natCast]; omega)
        rcases Nat.lt_succ_iff_lt_or_eq.1 hj with h1 | h1
        · exact hne j d h1 hd
        · subst h1
          rw [get_some (by omega)] at hd
          cases hd
          exact heq
    · refine ite_f (decf (by omega)) ?_
      rw [nx_i hc (by omega)]
      refine hrec _ _ ⟨i + 1, rfl, by omega, fun j c hj hc' => ?_, k6⟩ (by simp only [Int.toNat_natCast]; omega)
      rcases Nat.lt_succ_iff_lt_or_eq.1 hj with h1 | h1
      · exact hno j c h1 hc'
      · subst h1
        rw [get_some hc] at hc'
        cases hc'
        rintro (h1 | ⟨k', d, h1, h2, h3⟩)
        · exact hq h1
        · exact hne k' d (by omega) h2 h3
  · exact ite_f (decf (by omega)) (hQ _ _ ⟨fun x => (by cases x), fun ⟨j, c, h1, h2⟩ => absurd h2 (hno j c (by have := (List.getElem?_eq_some_iff.1 h1).1; omega) h1)⟩ k6)
theorem rCheck_ok {Q : Int → Hp → Prop} (hs : Cs H s cs) (hok : ∀ c ∈ cs, c.ok) (hl : cs.length ≤ 140737488355328) (hQ : ∀ H', Keep H H' → Q (Chk w h cs) H') : mosaicref14_Check.s g w h s H Q := by
  unfold mosaicref14_Check.s
  intro b1 H2 k2 z2 z2'
  replace k2 : Keep H H2 := k2.keep (by simp)
  replace hs := hs.keep k2
  replace hQ : ∀ H', Keep H2 H' → Q (Chk w h cs) H' := fun H' k => hQ H' (k2.trans k)
  have hn := hs.n
  refine Join.intro (fun x H' => (x = true ↔ Emp w h) ∧ H2 = H') ?_ fun J hJ => join_or4 (hJ _ _ ⟨emp_dec, rfl⟩)
  rintro x _ ⟨hx, rfl⟩
  by_cases hE : Emp w h
  · refine ite_t (hx.2 hE) ?_
    rw [← chk140 (cs := cs) hE]; exact hQ _ (Keep.refl _)
  refine ite_f (by cases x with | false => rfl | true => exact absurd (hx.1 rfl) hE) ?_
  refine rIds_ok hs hok hl fun bad H7 hbad k7 => ⟨Pv.keep k7 (by simp; omega), ?_⟩
  refine Join.intro (fun x H' => (x = true ↔ (cs.length < 1 ∨ 4 < cs.length ∨ Bad cs)) ∧ H7 = H') ?_ fun J hJ => join_or3' (hJ _ _ ⟨by
    rw [← hbad, hn]; simp only [Bool.or_eq_true, decide_eq_true_eq, beq_iff_eq, or_assoc]
    constructor
    · rintro (h | h | h)
      · exact .inl (by omega)
      · exact .inr (.inl (by omega))
      · exact .inr (.inr h)
    · rintro (h | h | h)
      · exact .inl (by omega)
      · exact .inr (.inl (by omega))
      · exact .inr (.inr h), rfl⟩)
  rintro x _ ⟨hx, rfl⟩
  by_cases hLB : cs.length < 1 ∨ 4 < cs.length ∨ Bad cs
  · refine ite_t (hx.2 hLB) ?_
    rw [← chk143 (cs := cs) hE hLB]; exact hQ _ k7
  refine ite_f (by cases x with | false => rfl | true => exact absurd (hx.1 rfl) hLB) ?_
  refine greatest_ok (hs.keep k7) hok hl fun H13 k13' => ⟨Pv.keep k13' (by have := k7.size; simp; omega), ?_⟩
  have k13 := k7.trans k13'
  refine Fix.intro (fun (x : Bool × Int) H' => ∃ i : Nat, x.2 = (i : Int) ∧ i ≤ cs.length ∧ (∀ j c, j < i → cs[j]? = some c → ¬ (c.h < 1 ∨ 4 < c.h ∨ c.v < 1 ∨ 4 < c.v)) ∧
    (x.1 = true ↔ ∃ j c, j < i ∧ cs[j]? = some c ∧ ((mxH cs).tmod c.h ≠ 0 ∨ (mxV cs).tmod c.v ≠ 0)) ∧ H13 = H') (fun (x : Bool × Int) _ => cs.length - x.2.toNat) ⟨0, rfl, by omega, fun j c hj => by omega, ⟨fun x => (by cases x), fun ⟨j, c, h1, _⟩ => (by omega)⟩, rfl⟩ ?_
  rintro ⟨rt, _⟩ _ ⟨i, rfl, hi, hno, hrt, rfl⟩ rec hrec
  simp only at hrt ⊢
  by_cases hc : i < cs.length
  · obtain ⟨b, o, ha, hl18⟩ := (hs.keep k13).get (get_some hc)
    have ho := ok_get hok (get_some hc)
    refine ite_t (dect (by omega)) ?_
    refine Join.intro (fun x H' => (x = true ↔ ∃ j c, j < i + 1 ∧ cs[j]? = some c ∧ ((mxH cs).tmod c.h ≠ 0 ∨ (mxV cs).tmod c.v ≠ 0)) ∧ (¬ (cs[i].h < 1 ∨ 4 < cs[i].h ∨ cs[i].v < 1 ∨ 4 < cs[i].v)) ∧ H13 = H') ?_ fun J hJ => ?_
    · rintro x _ ⟨hx, hF, rfl⟩
      rw [nx_i hc (by omega)]
      refine hrec _ _ ⟨i + 1, rfl, by omega, fun j c hj hc' => ?_, hx, rfl⟩ (by simp only [Int.toNat_natCast]; omega)
      rcases Nat.lt_succ_iff_lt_or_eq.1 hj with h1 | h1
      · exact hno j c h1 hc'
      · subst h1
        rw [get_some hc] at hc'
        cases hc'
        exact hF
    · refine ⟨by omega, by omega, _, ha, ?_⟩
      rw [Int.toNat_natCast]
      refine ldI_of hl18 (j := 1) rfl ⟨by omega, by omega, ldI_of hl18 (j := 2) rfl ?_⟩
      rw [wu ho.2.1, wu ho.2.2.1]
      refine Join.intro (fun x H' => (x = true ↔ (cs[i].h < 1 ∨ 4 < cs[i].h ∨ cs[i].v < 1 ∨ 4 < cs[i].v)) ∧ H13 = H') ?_ fun J2 hJ2 => join_or4 (hJ2 _ _ ⟨by simp [or_assoc], rfl⟩)
      rintro x _ ⟨hx, rfl⟩
      by_cases hF : cs[i].h < 1 ∨ 4 < cs[i].h ∨ cs[i].v < 1 ∨ 4 < cs[i].v
      · refine ite_t (hx.2 hF) ?_
        rw [← chk141 (w := w) (h := h) (cs := cs) hE hLB ⟨cs[i], List.getElem_mem hc, hF⟩]
        exact hQ _ k13
      · refine ite_f (by cases x with | false => rfl | true => exact absurd (hx.1 rfl) hF) ?_
        have ext : (∃ j c, j < i + 1 ∧ cs[j]? = some c ∧ ((mxH cs).tmod c.h ≠ 0 ∨ (mxV cs).tmod c.v ≠ 0)) ↔ (rt = true ∨ (mxH cs).tmod cs[i].h ≠ 0 ∨ (mxV cs).tmod cs[i].v ≠ 0) := by
          rw [hrt]
          constructor
          · rintro ⟨j, c, h1, h2, h3⟩
            rcases Nat.lt_succ_iff_lt_or_eq.1 h1 with h4 | h4
            · exact .inl ⟨j, c, h4, h2, h3⟩
            · subst h4
              rw [get_some hc] at h2
              cases h2
              exact .inr h3
          · rintro (⟨j, c, h1, h2, h3⟩ | h3)
            · exact ⟨j, c, by omega, h2, h3⟩
            · exact ⟨i, cs[i], by omega, get_some hc, h3⟩
        cases rt with
        | true => exact ite_t rfl (hJ _ _ ⟨by rw [ext]; simp, hF, rfl⟩)
        | false =>
          refine ite_f rfl ⟨by omega, ?_⟩
          by_cases h1 : (mxH cs).tmod cs[i].h ≠ 0
          · exact ite_t (bnet h1) (hJ _ _ ⟨by rw [ext]; simp [h1], hF, rfl⟩)
          · exact ite_f (bnei (by omega)) ⟨by omega, hJ _ _ ⟨by rw [ext]; simp at h1; simp [h1], hF, rfl⟩⟩
  · refine ite_f (decf (by omega)) ?_
    have hF : ¬ Fac cs := fun ⟨c, h1, h2⟩ => by
      obtain ⟨j, hj⟩ := List.mem_iff_getElem?.1 h1
      exact hno j c (by have := (List.getElem?_eq_some_iff.1 hj).1; omega) hj h2
    have hR : rt = true ↔ Rat cs := by
      rw [hrt]
      constructor
      · rintro ⟨j, c, h1, h2, h3⟩
        exact ⟨c, List.mem_of_getElem? h2, h3⟩
      · rintro ⟨c, h1, h2⟩
        obtain ⟨j, hj⟩ := List.mem_iff_getElem?.1 h1
        exact ⟨j, c, by have := (List.getElem?_eq_some_iff.1 hj).1; omega, hj, h2⟩
    cases rt with
    | true =>
      refine ite_t rfl ?_
      rw [← chk142 (w := w) (h := h) (cs := cs) hE hLB hF (hR.1 rfl)]; exact hQ _ k13
    | false =>
      refine ite_f rfl ?_
      rw [← chk0 (w := w) (h := h) (cs := cs) hE hLB hF fun h => by simpa using hR.2 h]; exact hQ _ k13
end
theorem Ceil_ok {a b : Int} {H : Hp} {Q : Int → Hp → Prop} (ha : 0 ≤ a ∧ a ≤ 4611686018427387904) (hb : 1 ≤ b) (hQ : Q (cl a b) H) : mosaicref14_Ceil.s a b H Q := by
  unfold mosaicref14_Ceil.s
  refine ⟨by omega, ?_⟩
  rw [Int.tdiv_eq_ediv_of_nonneg ha.1]
  have h0 : 0 ≤ a / b := Int.ediv_nonneg ha.1 (by omega)
  have h1 := Int.ediv_mul_le a (show b ≠ 0 by omega)
  have h2 : a / b ≤ a := Int.ediv_le_self _ ha.1
  have h3 := Int.lt_ediv_add_one_mul_self a (show 0 < b by omega)
  have h4 : 0 ≤ a / b * b := Int.mul_nonneg h0 (by omega)
  rw [w64 (x := a / b) (by omega), w64 (x := a / b * b) (by omega)]
  rw [Int.add_mul] at h3
  by_cases hc : a / b * b < a
  · refine ite_t (dect hc) (Lt.of ?_)
    have : cl a b = a / b + 1 := by
      unfold cl
      have e : a + b - 1 = (a - 1 - a / b * b) + (a / b + 1) * b := by rw [Int.add_mul]; omega
      rw [e, Int.add_mul_ediv_right _ _ (by omega), Int.ediv_eq_zero_of_lt (by omega) (by omega)]
      omega
    rw [w64 (by omega), ← this]
    exact hQ
  · refine ite_f (decf hc) ?_
    have : cl a b = a / b := by
      unfold cl
      have e : a + b - 1 = (b - 1) + (a / b) * b := by omega
      rw [e, Int.add_mul_ediv_right _ _ (by omega), Int.ediv_eq_zero_of_lt (by omega) (by omega)]
      omega
    rw [← this]
    exact hQ
section
variable {w h : Int} {s : Sl} {cs : List Cp} {H : Hp} {g : Int}
theorem rSamples_ok {i : Int} {Q : (Int × Int) → Hp → Prop} (hs : Cs H s cs) (hok : ∀ c ∈ cs, c.ok) (hl : cs.length ≤ 140737488355328) (hQ : ∀ H', Keep H H' → Q (Sam w h cs i) H') : mosaicref14_Samples.s g w h s i H Q := by
  unfold mosaicref14_Samples.s
  intro b1 H2 k2 z2 z2'
  replace k2 : Keep H H2 := k2.keep (by simp)
  replace hs := hs.keep k2
  replace hQ : ∀ H', Keep H2 H' → Q (Sam w h cs i) H' := fun H' k => hQ H' (k2.trans k)
  have hn := hs.n
  refine Join.intro (fun x H' => (x = true ↔ ¬ (Chk w h cs = 0 ∧ 0 ≤ i ∧ i < cs.length)) ∧ Keep H2 H') ?_ fun J hJ => ?_
  · rintro x H5 ⟨hx, k5⟩
    by_cases hc : Chk w h cs = 0 ∧ 0 ≤ i ∧ i < cs.length
    · refine ite_f (by cases x with | false => rfl | true => exact absurd hc (hx.1 rfl)) ?_
      have fr := chk_fr hc.1
      refine greatest_ok (hs.keep k5) hok hl fun H7 k7 => ⟨Pv.keep k7 (by have := k5.size; simp; omega), ?_⟩
      have hi : i.toNat < cs.length := by omega
      obtain ⟨b, o, ha, hl7⟩ := (hs.keep (k5.trans k7)).get (get_some hi)
      have ho := ok_get hok (get_some hi)
      have f := fr.fac _ (List.getElem_mem hi)
      have := fr.w1; have := fr.h1; have := fr.mh; have := fr.mv
      have m1 := mul_le4 (a := w) (b := cs[i.toNat].h) (by omega) (by omega)
      have m2 := mul_le4 (a := h) (b := cs[i.toNat].v) (by omega) (by omega)
      have := k5.size; have := k7.size
      refine ⟨by omega, by omega, _, ha, ldI_of hl7 (j := 1) rfl ⟨by omega, by omega, ldI_of hl7 (j := 2) rfl ?_⟩⟩
      rw [wu ho.2.1, wu ho.2.2.1, w64 (x := w * _) (by omega), w64 (x := h * _) (by omega)]
      refine Ceil_ok (by omega) (by omega) ⟨Pv.keep (Keep.refl _) (by simp; omega), cell_of hl7 rfl, Ceil_ok (by omega) (by omega) ⟨Pv.keep (Keep.refl _) (by simp; omega), ?_⟩⟩
      have e := sam_at (w := w) (h := h) hc.1 hc.2.1 (get_some hi)
      have q : Q (Sam w h cs i) H7 := hQ _ (k5.trans k7)
      rw [e] at q
      exact q
    · refine ite_t (hx.2 hc) ?_
      have q : Q (Sam w h cs i) H5 := hQ _ k5
      rw [sam_no hc] at q
      exact q
  · refine rCheck_ok hs hok hl fun H33 k33 => ⟨Pv.keep k33 (by simp; omega), join_or3 (hJ _ _ ⟨?_, k33⟩)⟩
    rw [hn]
    simp only [Bool.or_eq_true, decide_eq_true_eq, bne_iff_ne]
    constructor
    · rintro ((h1 | h1) | h1) <;> omega
    · intro h1
      by_cases h0 : Chk w h cs = 0 <;> omega
theorem rBlocks_ok {i : Int} {Q : (Int × Int) → Hp → Prop} (hs : Cs H s cs) (hok : ∀ c ∈ cs, c.ok) (hl : cs.length ≤ 140737488355328) (hQ : ∀ H', Keep H H' → Q (Blo w h cs i) H') : mosaicref14_Blocks.s g w h s i H Q := by
  unfold mosaicref14_Blocks.s
  intro b1 H2 k2 z2 z2'
  replace k2 : Keep H H2 := k2.keep (by simp)
  have sl := sam_le (w := w) (h := h) (cs := cs) (i := i)
  exact rSamples_ok (hs.keep k2) hok hl fun H4 k4 => Ceil_ok (by omega) (by omega) (Ceil_ok (by omega) (by omega) (hQ _ (k2.trans k4)))
end
section
variable {w h : Int} {s t : Sl} {cs : List Cp} {ps : List Pa} {H : Hp} {g : Int}
theorem rParts_ok {Q : Int → Hp → Prop} (hs : Cs H s cs) (hok : ∀ c ∈ cs, c.ok) (hl : cs.length ≤ 140737488355328) (ht : Ps H t ps) (hpk : ∀ p ∈ ps, p.ok) (hQ : ∀ H', Keep H H' → Q (Prt w h cs ps) H') : mosaicref14_Parts.s g w h s t H Q := by
  unfold mosaicref14_Parts.s
  intro b1 H2 k2 z2 z2'
  replace k2 : Keep H H2 := k2.keep (by simp)
  replace hs := hs.keep k2
  replace ht := ht.keep k2
  replace hQ : ∀ H', Keep H2 H' → Q (Prt w h cs ps) H' := fun H' k => hQ H' (k2.trans k)
  have hn := hs.n
  have hm := ht.n
  refine rCheck_ok hs hok hl fun H4 k4 => ⟨Pv.keep k4 (by simp; omega), ?_⟩
  by_cases hC : ¬ Chk w h cs = 0
  · refine ite_t (bnet hC) ?_
    rw [← prt1 (ps := ps) hC]; exact hQ _ k4
  replace hC := Classical.not_not.1 hC
  refine ite_f (bnei hC) ?_
  have fr := chk_fr hC
  refine Join.intro (fun x H' => (x = true ↔ (ps.length < 1 ∨ 4 < ps.length)) ∧ H4 = H') ?_ fun J hJ => join_or2 (hJ _ _ ⟨by rw [hm]; simp only [Bool.or_eq_true, decide_eq_true_eq, beq_iff_eq]; omega, rfl⟩)
  rintro x _ ⟨hx, rfl⟩
  by_cases hL : ps.length < 1 ∨ 4 < ps.length
  · refine ite_t (hx.2 hL) ?_
    rw [← prt2 (ps := ps) hC hL]; exact hQ _ k4
  refine ite_f (bool_f hx hL) ?_
  refine Fix.intro (fun (x : Int × Int) H' => ∃ i : Nat, x.2 = (i : Int) ∧ i ≤ ps.length ∧ (∀ j p, j < i → ps[j]? = some p → ¬ PtBad cs ps j p) ∧ x.1 = uSum cs (ps.take i) ∧ (0 ≤ x.1 ∧ x.1 ≤ 16 * i) ∧ Keep H2 H')
    (fun (x : Int × Int) _ => ps.length - x.2.toNat) ⟨0, rfl, by omega, fun j c hj => by omega, rfl, by simp, k4⟩ ?_
  rintro ⟨sum, _⟩ H12 ⟨i, rfl, hi, hno, hsum, hsb, k12⟩ rec hrec
  simp only at hsum hsb ⊢
  by_cases hc : i < ps.length
  · obtain ⟨b, o, ha, hl12⟩ := (ht.keep k12).get (get_some hc)
    have ho := hpk _ (List.getElem_mem hc)
    refine ite_t (dect (by omega)) ⟨by omega, by omega, _, ha, _, _, _, by rw [Int.toNat_natCast]; exact hl12, fun b23 H25 c25 _ _ => ?_⟩
    have k25 : Keep H2 H25 := k12.trans (c25.keep (by simp))
    refine Join.intro (fun x H' => (x = true ↔ PtBad cs ps i ps[i]) ∧ H25 = H') ?_ fun J hJ => ?_
    · rintro x _ ⟨hx, rfl⟩
      by_cases hB : PtBad cs ps i ps[i]
      · refine ite_t (hx.2 hB) ?_
        rw [← prt3 (ps := ps) hC hL ⟨i, _, get_some hc, hB⟩]; exact hQ _ k25
      refine ite_f (bool_f hx hB) ?_
      have hB' := hB
      unfold PtBad at hB'
      have hci : ps[i].comp.toNat < cs.length := by omega
      obtain ⟨b', o', ha', hl'⟩ := (hs.keep k25).get (get_some hci)
      have ho' := ok_get hok (get_some hci)
      have f := fr.fac _ (List.getElem_mem hci)
      have hvv := hv_at (p := ps[i]) (get_some hci)
      have m := mul16 f.1 f.2
      refine ⟨by omega, by omega, _, ha', ldI_of hl' (j := 1) rfl ⟨by omega, by omega, ldI_of hl' (j := 2) rfl ?_⟩⟩
      rw [wu ho'.2.1, wu ho'.2.2.1, w64 (x := cs[ps[i].comp.toNat].h * _) (by omega), w64 (x := sum + _) (by omega), nx_i hc (by omega)]
      refine hrec _ _ ⟨i + 1, rfl, by omega, fun j p hj hp => ?_, ?_, ?_, k25⟩ (by simp only [Int.toNat_natCast]; omega)
      · rcases Nat.lt_succ_iff_lt_or_eq.1 hj with h1 | h1
        · exact hno j p h1 hp
        · subst h1
          rw [get_some hc] at hp
          cases hp
          exact hB
      · rw [uSum_next (get_some hc), hvv, hsum]
      · simp only; omega
    · cases i with
      | zero =>
        have e : (decide (ps[0].comp < 0) || decide ((cs.length : Int) ≤ ps[0].comp) || decide ((3 : Int) < ps[0].dc) || decide ((3 : Int) < ps[0].ac)) = true ↔ PtBad cs ps 0 ps[0] := by
          unfold PtBad
          simp only [Bool.or_eq_true, decide_eq_true_eq, or_assoc]
          constructor
          · rintro (h1 | h1 | h1 | h1)
            · exact .inl h1
            · exact .inr (.inl h1)
            · exact .inr (.inr (.inr (.inl h1)))
            · exact .inr (.inr (.inr (.inr h1)))
          · rintro (h1 | h1 | ⟨j, q, h1, _⟩ | h1 | h1)
            · exact .inl h1
            · exact .inr (.inl h1)
            · omega
            · exact .inr (.inr (.inl h1))
            · exact .inr (.inr (.inr h1))
        have := join_or4 (H := H25) (J := J) (hJ _ _ ⟨e, rfl⟩)
        rw [hn]
        simpa using this
      | succ i =>
        obtain ⟨b', o', ha', hl'⟩ := (ht.keep k25).get (get_some (show i < ps.length by omega))
        rw [ha] at ha'
        obtain ⟨rfl, rfl⟩ : b = b' ∧ o = o' := by simpa using ha'
        have hpos : decide ((0 : Int) < ((i + 1 : Nat) : Int)) = true := dect (by omega)
        have e1 : IntKind.wrap .i64 (((i + 1 : Nat) : Int) - 1) = (i : Int) := by rw [w64 (by omega)]; omega
        rw [e1, hn]
        have e : (decide (ps[i + 1].comp < 0) || decide ((cs.length : Int) ≤ ps[i + 1].comp) || decide (ps[i + 1].comp ≤ ps[i].comp) || decide ((3 : Int) < ps[i + 1].dc) || decide ((3 : Int) < ps[i + 1].ac)) = true ↔ PtBad cs ps (i + 1) ps[i + 1] := by
          unfold PtBad
          simp only [Bool.or_eq_true, decide_eq_true_eq, or_assoc]
          constructor
          · rintro (h1 | h1 | h1 | h1 | h1)
            · exact .inl h1
            · exact .inr (.inl h1)
            · exact .inr (.inr (.inl ⟨i, _, rfl, get_some (by omega), h1⟩))
            · exact .inr (.inr (.inr (.inl h1)))
            · exact .inr (.inr (.inr (.inr h1)))
          · rintro (h1 | h1 | ⟨j, q, h1, h2, h3⟩ | h1 | h1)
            · exact .inl h1
            · exact .inr (.inl h1)
            · obtain rfl : i = j := by omega
              rw [get_some (by omega)] at h2
              have h2' : ps[i] = q := Option.some.inj h2
              exact .inr (.inr (.inl (by rw [h2']; exact h3)))
            · exact .inr (.inr (.inr (.inl h1)))
            · exact .inr (.inr (.inr (.inr h1)))
        have key := join_or5 (H := H25) (J := J) (hJ _ _ ⟨e, rfl⟩)
        by_cases h1 : ps[i + 1].comp < 0
        · exact ite_t (dect h1) (by rw [if_pos (dect h1)] at key; exact key)
        rw [if_neg (by simp [h1])] at key
        refine ite_f (decf h1) ?_
        by_cases h2 : (cs.length : Int) ≤ ps[i + 1].comp
        · exact ite_t (dect h2) (by rw [if_pos (dect h2)] at key; exact key)
        rw [if_neg (by simp; omega)] at key
        refine ite_f (decf h2) (ite_t hpos ⟨by omega, by omega, ?_⟩)
        rw [Int.toNat_natCast]
        exact ldI_of hl' (j := 0) rfl key
  · refine ite_f (decf (by omega)) ?_
    have hB : ¬ PBad cs ps := fun ⟨j, p, h1, h2⟩ => hno j p (by have := (List.getElem?_eq_some_iff.1 h1).1; omega) h1 h2
    have hall : ps.take i = ps := List.take_of_length_le (by omega)
    rw [hall] at hsum
    refine Join.intro (fun x H' => (x = true ↔ (1 < ps.length ∧ 10 < uSum cs ps)) ∧ H12 = H') ?_ fun J hJ => join_and (hJ _ _ ⟨by rw [hm, hsum]; simp only [Bool.and_eq_true, decide_eq_true_eq]; omega, rfl⟩)
    rintro x _ ⟨hx, rfl⟩
    by_cases hU : 1 < ps.length ∧ 10 < uSum cs ps
    · refine ite_t (hx.2 hU) ?_
      rw [← prt4 (ps := ps) hC hL hB hU]; exact hQ _ k12
    · refine ite_f (bool_f hx hU) ?_
      rw [← prt5 (ps := ps) hC hL hB hU]; exact hQ _ k12
theorem rUnits_ok {Q : (Int × Int) → Hp → Prop} (hs : Cs H s cs) (hok : ∀ c ∈ cs, c.ok) (hl : cs.length ≤ 140737488355328) (ht : Ps H t ps) (hpk : ∀ p ∈ ps, p.ok) (hQ : ∀ H', Keep H H' → Q (Uni w h cs ps) H') : mosaicref14_Units.s g w h s t H Q := by
  unfold mosaicref14_Units.s
  intro b1 H2 k2 z2 z2'
  replace k2 : Keep H H2 := k2.keep (by simp)
  replace hs := hs.keep k2
  replace ht := ht.keep k2
  replace hQ : ∀ H', Keep H2 H' → Q (Uni w h cs ps) H' := fun H' k => hQ H' (k2.trans k)
  have hm := ht.n
  refine rParts_ok hs hok hl ht hpk fun H4 k4 => ⟨Pv.keep k4 (by simp; omega), ?_⟩
  by_cases hP : Prt w h cs ps ≠ 0
  · refine ite_t (bnet hP) ?_
    have := hQ _ k4
    unfold Uni at this
    rwa [if_pos hP] at this
  refine ite_f (bnei (Classical.not_not.1 hP)) ?_
  obtain ⟨hC, fr, hL, hB, hU⟩ := prt_fr (Classical.not_not.1 hP)
  have := k4.size
  by_cases h1 : ps.length = 1
  · obtain ⟨b, o, ha, hl4⟩ := (ht.keep k4).get (get_some (show 0 < ps.length by omega))
    refine ite_t (beqi (by omega)) ⟨by omega, by omega, _, ha, ldI_of hl4 (j := 0) rfl (rBlocks_ok (hs.keep k4) hok hl fun H15 k15 => ⟨Pv.keep k15 (by simp; omega), ?_⟩)⟩
    have q := hQ _ (k4.trans k15)
    unfold Uni at q
    rw [if_neg hP, if_pos h1] at q
    have e : (ps.map Pa.comp).headD 0 = ps[0].comp := by
      cases ps with
      | nil => simp at h1
      | cons p r => rfl
    rw [e] at q
    exact q
  · refine ite_f (beqf (by omega)) (greatest_ok (hs.keep k4) hok hl fun H18 k18 => ⟨Pv.keep k18 (by simp; omega), ?_⟩)
    have := fr.w1; have := fr.h1; have := fr.mh; have := fr.mv; have := k18.size
    rw [w64 (x := 8 * (mxH cs, mxV cs).1) (by simp only; omega), w64 (x := 8 * (mxH cs, mxV cs).2) (by simp only; omega)]
    refine Ceil_ok (by omega) (by simp only; omega) ⟨Pv.keep (Keep.refl _) (by simp; omega), Ceil_ok (by omega) (by simp only; omega) ⟨Pv.keep (Keep.refl _) (by simp; omega), ?_⟩⟩
    have q := hQ _ (k4.trans k18)
    unfold Uni at q
    rw [if_neg hP, if_neg h1] at q
    exact q
end
section
variable {w h g : Int} {s t : Sl} {cs : List Cp} {ps : List Pa} {H : Hp}
end
section
variable {H0 H H' : Hp} {g w h : Int} {s t : Sl} {cs : List Cp} {ps : List Pa} {b5 b40 b1 b3 b26 f e : Nat} {yv : Value} {bY : Nat} {Ds G F : List Nat}
end
section
variable {w h g : Int} {s t : Sl} {cs : List Cp} {ps : List Pa} {H : Hp}
end
section
variable {w h : Int} {cs : List Cp} {ps : List Pa}
end
end Go.Proofs.Ytlfdfikgbdgfdaa.G
