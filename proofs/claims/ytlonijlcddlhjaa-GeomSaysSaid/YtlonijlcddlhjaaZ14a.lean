/- Layer 14: GeomNames, GeomSays. -/
import Derived.Test.YtlonijlcddlhjaaZ14
import Derived.Test.YtlonijlcddlhjaaKmosaiclaw14
import Derived.Test.YtlonijlcddlhjaaKGeomNames
import Derived.Test.YtlonijlcddlhjaaKGeomSays
import Derived.Test.YtlonijlcddlhjaaGT
namespace Go.Proofs.Ytlonijlcddlhjaa.G
open Go.RowKit
set_option linter.unusedVariables false
set_option linter.unusedSimpArgs false

theorem cs_one {H : Hp} {b : Nat} {c : Cp} (hb : Bk H b 23 (cC c)) : Cs H ⟨some ⟨b, 0, none⟩, 1, 1⟩ [c] :=
  ⟨rfl, Nat.le_refl _, fun i x hx => by
    cases i with
    | zero => simp at hx; subst hx; exact ⟨b, 0, rfl, by simpa using ldA_full hb⟩
    | succ i => simp at hx⟩
theorem GeomNames_row (W : World) : mosaiclaw14_GeomNames.s W.heap (fun r H' => r = true ∧ Keep W.heap H') := by
  unfold mosaiclaw14_GeomNames.s
  refine nw_i fun H2 b2 k2 s2 => fun b5 H7 c7 z7 z7' => ?_
  have k7 : Keep H2 H7 := c7.keep (by simp)
  have hs : Cs H7 ⟨some ⟨W.heap.size, 0, none⟩, 1, 1⟩ [⟨1, 1, 1, 0⟩] := cs_one (b2.keep k7)
  have hok : ∀ c ∈ [(⟨1, 1, 1, 0⟩ : Cp)], c.ok := by simp [Cp.ok]
  have hC : Chk 17 9 [⟨1, 1, 1, 0⟩] = 0 := by
    refine chk0 ?_ ?_ ?_ ?_
    · simp [Emp]
    · rintro (h | h | ⟨i, c, h1, h2⟩)
      · simp at h
      · simp at h
      · cases i with
        | zero =>
          simp at h1; subst h1
          rcases h2 with h2 | ⟨k, d, h2, _⟩
          · simp at h2
          · omega
        | succ i => simp at h1
    · rintro ⟨c, h1, h2⟩
      simp at h1; subst h1
      simp at h2
    · rintro ⟨c, h1, h2⟩
      simp at h1; subst h1
      revert h2
      decide
  have hB : Blo 17 9 [⟨1, 1, 1, 0⟩] 0 = (3, 2) := by
    unfold Blo
    rw [sam_at hC (by omega) (show _ = some (⟨1, 1, 1, 0⟩ : Cp) from rfl)]
    decide
  refine gBlocks_ok hs hok (by simp) fun H9 k9 => ⟨Pv.keep k9 (by simp; omega), gCheck_ok (hs.keep k9) hok (by simp) fun H12 k12 => ?_⟩
  rw [hC, hB]
  exact ite_t rfl (ite_t rfl ⟨rfl, ((k2.trans k7).trans k9).trans k12⟩)

section
variable {w h g : Int} {s t : Sl} {cs : List Cp} {ps : List Pa} {H : Hp}
theorem lent_ok {Q : (Int × Int × Int × Sl × Sl × Sl) → Hp → Prop} (hs : Cs H s cs) (ht : Ps H t ps) (hl : cs.length * 4 ≤ 140737488351232) (hm : ps.length * 16 ≤ 140737488351232)
    (hQ : ∀ l m H', Keep H H' → SlV H' l 4 cC (cs ++ [⟨77, 9, 0, 0⟩]) → SlV H' m 3 cP (ps ++ [⟨-7, 0, 0⟩]) → Q (g, w, h, slS l 4 0 (s.n : Int), l, m) H') : mosaiclaw14_lent.s g w h s t H Q := by
  unfold mosaiclaw14_lent.s
  intro b1 H2 c2 z2 z2' b3 H4 c4 z4 z4'
  have k2 : Keep H H2 := c2.keep (by simp)
  have k4 : Keep H2 H4 := c4.keep (by simp)
  have hs4 := (hs.keep k2).keep k4
  obtain ⟨g1, g2⟩ := hs4.cells cC_len cC_ones
  refine ⟨_, g1, g2, ?_⟩
  refine apS_list (xs := []) (Own.nil _ _ _) cC_len cC_ones rfl (by decide) hs.n (by simp; omega) (by decide) fun l6 H7 o7 c7 f7 => ?_
  have k7 : Keep H4 H7 := c7.keep (by simp [fp])
  refine ⟨Pv.keep k7 (by simp; omega), nw_i fun H13 b13 k13 s13 => ⟨Pv.keep k13 (by have := k7.size; simp; omega), ?_⟩⟩
  have o13 := o7.ch (k13.ch (F := [])) (by simp)
  show apS H13 l6 23 4 4 z23.cells 1 ([(⟨77, 9, 0, 0⟩ : Cp)].flatMap cC) _
  refine apS_list o13 cC_len cC_ones rfl (by decide) rfl (by simp; omega) (by decide) fun l18 H19 o19 c19 f19 => ?_
  have f6 : ∀ k ∈ fp l6, H4.size ≤ k := fun k hk => by
    rcases f7 k hk with h1 | h1
    · simp [fp] at h1
    · exact h1
  have f18 : ∀ k ∈ fp l18, H4.size ≤ k := fun k hk => by
    rcases f19 k hk with h1 | h1
    · exact f6 k h1
    · have := k7.size; have := k13.size; omega
  have k19 : Keep H4 H19 := (((k7.trans k13).ch (F := [])).trans c19 fun k hk => .inr (f6 k hk)).keep (by simp)
  have zz := k7.size; have zz2 := k13.size; have zz3 := c19.size
  refine ⟨Pv.ch c19 (by simp; exact ⟨⟨by omega, fun h => by have := f6 _ h; omega⟩, ⟨by omega, fun h => by have := f6 _ h; omega⟩⟩), ?_⟩
  have ht19 := ((ht.keep k2).keep k4).keep k19
  obtain ⟨g3, g4⟩ := ht19.cells cP_len cP_ones
  refine ⟨_, g3, g4, ?_⟩
  refine apS_list (xs := []) (Own.nil _ _ _) cP_len cP_ones rfl (by decide) ht.n (by simp; omega) (by decide) fun l22 H23 o23 c23 f23 => ?_
  have k23 : Keep H19 H23 := c23.keep (by simp [fp])
  refine ⟨Pv.keep k23 (by simp; omega), nw_i fun H29 b29 k29 s29 => ⟨Pv.keep k29 (by have := k23.size; simp; omega), ?_⟩⟩
  have o29 := o23.ch (k29.ch (F := [])) (by simp)
  show apS H29 l22 52 3 16 z52.cells 1 ([(⟨-7, 0, 0⟩ : Pa)].flatMap cP) _
  refine apS_list o29 cP_len cP_ones rfl (by decide) rfl (by simp; omega) (by decide) fun l34 H35 o35 c35 f35 => ?_
  have f22 : ∀ k ∈ fp l22, H19.size ≤ k := fun k hk => by
    rcases f23 k hk with h1 | h1
    · simp [fp] at h1
    · exact h1
  have f34 : ∀ k ∈ fp l34, H19.size ≤ k := fun k hk => by
    rcases f35 k hk with h1 | h1
    · exact f22 k h1
    · have := k23.size; have := k29.size; omega
  have k35 : Keep H19 H35 := (((k23.trans k29).ch (F := [])).trans c35 fun k hk => .inr (f22 k hk)).keep (by simp)
  have zz4 := k23.size; have zz5 := k29.size
  refine ⟨Pv.ch c35 (by simp; exact ⟨⟨by omega, fun h => by have := f22 _ h; omega⟩, ⟨by omega, fun h => by have := f22 _ h; omega⟩⟩), ?_⟩
  have o18 := o19.ch (k35.ch (F := [])) (by simp)
  have v18 := o18.view cC_len (by decide)
  have v34 := o35.view cP_len (by decide)
  have hsn := hs.n
  refine ⟨by omega, by have q1 := v18.n; have q2 := v18.c; simp at q1; omega, fun H40 c40 => ?_⟩
  refine hQ l18 l34 H40 ?_ (v18.ch c40 fun k hk => ?_) (v34.ch c40 fun k hk => ?_)
  · have k0 : Keep H H35 := ((k2.trans k4).trans k19).trans k35
    exact ((k0.ch (F := [])).trans c40 (by simp; omega)).keep (by simp)
  · have := f18 k hk; simp; omega
  · have := f34 k hk; simp; omega

theorem stays_ok {l m : Sl} {Q : Bool → Hp → Prop} (hs : Cs H s cs) (ht : Ps H t ps) (hl : SlV H l 4 cC (cs ++ [⟨77, 9, 0, 0⟩])) (hm : SlV H m 3 cP (ps ++ [⟨-7, 0, 0⟩])) (hcl : cs.length ≤ 140737488355328) (hpl : ps.length ≤ 140737488355328)
    (hQ : ∀ H', Keep H H' → Q true H') : mosaiclaw14_stays.s l m g w h s t H Q := by
  unfold mosaiclaw14_stays.s
  intro b1 H2 c2 _ _
  have k2 : Keep H H2 := c2.keep (by simp)
  replace hs := hs.keep k2
  replace ht := ht.keep k2
  replace hl := hl.keep k2
  replace hm := hm.keep k2
  have n1 := hs.n; have n2 := ht.n; have n3 := hl.n; have n4 := hm.n
  simp at n3 n4
  refine Fix.intro (fun (x : Int) H' => ∃ i : Nat, x = (i : Int) ∧ i ≤ cs.length ∧ H2 = H') (fun (x : Int) _ => cs.length - x.toNat) ⟨0, rfl, by omega, rfl⟩ ?_
  rintro _ _ ⟨i, rfl, hi, rfl⟩ rec hrec
  by_cases hc : i < cs.length
  · obtain ⟨b, o, ha, h1⟩ := hl.get (i := i) (x := cs[i]) (by rw [List.getElem?_append_left hc]; exact get_some hc)
    obtain ⟨b', o', ha', h2⟩ := hs.get (get_some hc)
    refine ite_t (dect (by omega)) ⟨by omega, by omega, _, ha, _, _, _, _, by rw [Int.toNat_natCast]; exact h1, by omega, by omega, _, ha', _, _, _, _, by rw [Int.toNat_natCast]; exact h2, ite_f (by simp) ?_⟩
    rw [nx_i hc (by omega)]
    exact hrec _ _ ⟨i + 1, rfl, by omega, rfl⟩ (by simp only [Int.toNat_natCast]; omega)
  refine ite_f (decf (by omega)) ?_
  refine Fix.intro (fun (x : Int) H' => ∃ i : Nat, x = (i : Int) ∧ i ≤ ps.length ∧ H2 = H') (fun (x : Int) _ => ps.length - x.toNat) ⟨0, rfl, by omega, rfl⟩ ?_
  rintro _ _ ⟨j, rfl, hj, rfl⟩ rec2 hrec2
  by_cases hc2 : j < ps.length
  · obtain ⟨b, o, ha, h1⟩ := hm.get (i := j) (x := ps[j]) (by rw [List.getElem?_append_left hc2]; exact get_some hc2)
    obtain ⟨b', o', ha', h2⟩ := ht.get (get_some hc2)
    refine ite_t (dect (by omega)) ⟨by omega, by omega, _, ha, _, _, _, by rw [Int.toNat_natCast]; exact h1, by omega, by omega, _, ha', _, _, _, by rw [Int.toNat_natCast]; exact h2, ite_f (by simp) ?_⟩
    rw [nx_i hc2 (by omega)]
    exact hrec2 _ _ ⟨j + 1, rfl, by omega, rfl⟩ (by simp only [Int.toNat_natCast]; omega)
  refine ite_f (decf (by omega)) ?_
  obtain ⟨b, o, ha, h1⟩ := hl.get (i := cs.length) (x := ⟨77, 9, 0, 0⟩) (by rw [List.getElem?_append_right (Nat.le_refl _)]; simp)
  obtain ⟨b', o', ha', h2⟩ := hm.get (i := ps.length) (x := ⟨-7, 0, 0⟩) (by rw [List.getElem?_append_right (Nat.le_refl _)]; simp)
  refine ⟨by omega, by omega, _, ha, _, _, _, _, by rw [Int.toNat_natCast, n1]; exact h1, ite_t rfl ⟨by omega, by omega, _, ha', _, _, _, by rw [Int.toNat_natCast, n2]; exact h2, ?_⟩⟩
  exact hQ _ k2
theorem GeomSays_list (hs : Cs H s cs) (hok : ∀ c ∈ cs, c.ok) (ht : Ps H t ps) (hpk : ∀ p ∈ ps, p.ok) (hl : cs.length * 4 ≤ 140737488351232) (hm : ps.length * 16 ≤ 140737488351232) {i r : Int} (hr : r ≤ 9223372036854775807) :
    mosaiclaw14_GeomSays.s g w h s t i r H (fun r H' => r = true ∧ Keep H H') := by
  unfold mosaiclaw14_GeomSays.s
  intro b1 H2 c2 z2 z2'
  have k2 : Keep H H2 := c2.keep (by simp)
  have n1 := hs.n; have n2 := ht.n
  refine lent_ok (hs.keep k2) (ht.keep k2) hl hm fun l m H4 k4 vl vm => ⟨Pv.keep k4 (by simp; omega), fun b6 H8 c8 z8 z8' => ?_⟩
  have k8 : Keep H4 H8 := c8.keep (by simp)
  have e1 : l.n = cs.length + 1 := by have := vl.n; simpa using this
  have e2 : m.n = ps.length + 1 := by have := vm.n; simpa using this
  have hcs : Cs H4 (slS l 4 0 (s.n : Int)) cs := by
    have := vl.take (i := cs.length) (by simp)
    rw [List.take_left' rfl] at this
    rw [n1]; exact this
  have hps : Ps H4 (slS m 3 0 (t.n : Int)) ps := by
    have := vm.take (i := ps.length) (by simp)
    rw [List.take_left' rfl] at this
    rw [n2]; exact this
  have k08 : Keep H H8 := (k2.trans k4).trans k8
  have ll : cs.length ≤ 140737488355328 := by omega
  have lm : ps.length ≤ 140737488355328 := by omega
  have zz := k4.size; have zz2 := k8.size
  -- both sides, over any later heap
  have A : ∀ {H'}, Keep H8 H' → Cs H' s cs := fun k => hs.keep (k08.trans k)
  have B : ∀ {H'}, Keep H8 H' → Ps H' t ps := fun k => ht.keep (k08.trans k)
  have C : ∀ {H'}, Keep H8 H' → Cs H' (slS l 4 0 (s.n : Int)) cs := fun k => hcs.keep (k8.trans k)
  have D : ∀ {H'}, Keep H8 H' → Ps H' (slS m 3 0 (t.n : Int)) ps := fun k => hps.keep (k8.trans k)
  have pv : ∀ {A' B' : Hp}, Keep H8 A' → Keep A' B' → Pv [b1, b6] A' B' := fun a k => Pv.keep k (by have := a.size; simp; omega)
  have pv1 : ∀ {A' B' : Hp}, Keep H8 A' → Keep A' B' → Pv [b1] A' B' := fun a k => Pv.keep k (by have := a.size; simp; omega)
  refine ⟨by omega, by have := vm.c; simp only; omega, ?_⟩
  refine Join.intro (fun x H' => x = true ∧ Keep H8 H') ?_ ?_
  · rintro _ H13 ⟨rfl, k13⟩
    refine gMost_ok (C k13) hok ll fun H15 k => ⟨pv k13 k, ?_⟩
    replace k13 := k13.trans k
    refine rMost_ok (A k13) hok ll fun H18 k => ⟨pv k13 k, ?_⟩
    replace k13 := k13.trans k
    refine gSamples_ok (C k13) hok ll fun H21 k => ⟨pv k13 k, ?_⟩
    replace k13 := k13.trans k
    refine rSamples_ok (A k13) hok ll fun H24 k => ⟨pv k13 k, ?_⟩
    replace k13 := k13.trans k
    refine gBlocks_ok (C k13) hok ll fun H27 k => ⟨pv k13 k, ?_⟩
    replace k13 := k13.trans k
    refine rBlocks_ok (A k13) hok ll fun H30 k => ⟨pv k13 k, ?_⟩
    replace k13 := k13.trans k
    refine gUnits_ok (C k13) hok ll (D k13) hpk fun H33 k => ⟨pv k13 k, ?_⟩
    replace k13 := k13.trans k
    refine rUnits_ok (A k13) hok ll (B k13) hpk fun H36 k => ⟨pv k13 k, ?_⟩
    replace k13 := k13.trans k
    refine gIntervals_ok (C k13) hok ll (D k13) hpk hr fun H39 k => ⟨pv1 k13 k, ?_⟩
    replace k13 := k13.trans k
    refine Join.intro (fun x H' => x = false ∧ H39 = H') ?_ ?_
    · rintro _ _ ⟨rfl, rfl⟩
      refine ite_f rfl (ite_t rfl (rIntervals_ok (A k13) hok ll (B k13) hpk hr fun H45 k => ⟨pv1 k13 k, ite_t (beqi rfl) ?_⟩))
      replace k13 := k13.trans k
      exact stays_ok (A k13) (B k13) (vl.keep (k8.trans k13)) (vm.keep (k8.trans k13)) ll lm fun H48 k => ⟨rfl, (k08.trans k13).trans k⟩
    · intro J hJ
      exact ite_f (bnei rfl) (ite_f (bnei rfl) (ite_f (bnei rfl) (ite_f (bnei rfl) (ite_f (bnei rfl) (ite_f (bnei rfl) (ite_f (bnei rfl) (hJ _ _ ⟨bnei rfl, rfl⟩)))))))
  · intro J hJ
    refine gCheck_ok (C (Keep.refl _)) hok ll fun H53 k53 => ⟨pv (Keep.refl _) k53, rCheck_ok (A k53) hok ll fun H56 k56 => ⟨pv k53 k56, ite_t (beqi rfl) ?_⟩⟩
    have k56' := k53.trans k56
    refine gParts_ok (C k56') hok ll (D k56') hpk fun H61 k61 => ⟨pv k56' k61, rParts_ok (A (k56'.trans k61)) hok ll (B (k56'.trans k61)) hpk fun H64 k64 => ⟨pv (k56'.trans k61) k64, hJ _ _ ⟨beqi rfl, (k56'.trans k61).trans k64⟩⟩⟩
end
theorem cp_of {m : Option Nat} {H : Hp} {xs : List Value} (h : X23 m H xs) : ∃ c : Cp, xs = cC c ∧ c.ok := by
  obtain ⟨x0, x1, x2, x3, rfl, h0, h1, h2, h3⟩ := h
  exact ⟨⟨x0, x1, x2, x3⟩, rfl, h0, h1, h2, h3⟩
theorem pa_of {m : Option Nat} {H : Hp} {xs : List Value} (h : X52 m H xs) : ∃ p : Pa, xs = cP p ∧ p.ok := by
  obtain ⟨x0, x1, x2, rfl, h0, h1, h2⟩ := h
  exact ⟨⟨x0, x1, x2⟩, rfl, h0, h1, h2⟩
theorem GeomSays_row (g w h : Int) (s t : Sl) (i r : Int) (W : World) (hg : 0 ≤ g ∧ g ≤ 255) (hw : -9223372036854775808 ≤ w ∧ w ≤ 9223372036854775807) (hh : -9223372036854775808 ≤ h ∧ h ≤ 9223372036854775807)
    (hs : SlH W.heap none 4 4 (X23 none W.heap) s) (ht : SlH W.heap none 16 3 (X52 none W.heap) t) (hi : -9223372036854775808 ≤ i ∧ i ≤ 9223372036854775807) (hr : -9223372036854775808 ≤ r ∧ r ≤ 9223372036854775807) :
    mosaiclaw14_GeomSays.s g w h s t i r W.heap (fun r H' => r = true ∧ Keep W.heap H') := by
  obtain ⟨cs, v1, o1, b1⟩ := hs.view fun _ => cp_of
  obtain ⟨ps, v2, o2, b2⟩ := ht.view fun _ => pa_of
  have n1 := v1.n; have c1 := v1.c; have n2 := v2.n; have c2 := v2.c
  refine GeomSays_list v1 o1 v2 o2 ?_ ?_ hr.2
  · rcases b1 with b1 | b1
    · omega
    · have : s.c * 4 ≤ 140737488351232 := b1
      omega
  · rcases b2 with b2 | b2
    · omega
    · have : t.c * 16 ≤ 140737488351232 := b2
      omega
end Go.Proofs.Ytlonijlcddlhjaa.G
