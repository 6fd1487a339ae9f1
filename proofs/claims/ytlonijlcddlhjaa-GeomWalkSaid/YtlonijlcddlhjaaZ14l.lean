/- Layer 14: what is lent, the document's walk. -/
import Derived.Test.YtlonijlcddlhjaaZ14c
import Derived.Test.YtlonijlcddlhjaaZ14v
import Derived.Test.YtlonijlcddlhjaaZW
namespace Go.Proofs.Ytlonijlcddlhjaa.G
open Go.RowKit
set_option linter.unusedVariables false
set_option linter.unusedSimpArgs false

section
variable {w h g : Int} {s t : Sl} {cs : List Cp} {ps : List Pa} {H : Hp}
theorem lentO_ok {Q : (Int × Int × Int × Sl × Sl × Sl) → Hp → Prop} (hs : Cs H s cs) (ht : Ps H t ps) (hl : cs.length * 4 ≤ 140737488351232) (hm : ps.length * 16 ≤ 140737488351232)
    (hQ : ∀ l m H', Keep H H' → Own H' 23 4 l ((cs ++ [⟨77, 9, 0, 0⟩] : List Cp).flatMap cC) → Own H' 52 3 m ((ps ++ [⟨-7, 0, 0⟩] : List Pa).flatMap cP) → (∀ b ∈ fp l, H.size ≤ b) → (∀ b ∈ fp m, H.size ≤ b ∧ b ∉ fp l) → Q (g, w, h, slS l 4 0 (s.n : Int), l, m) H') : mosaiclaw14_lent.s g w h s t H Q := by
  unfold mosaiclaw14_lent.s
  intro b1 H2 c2 z2 z2' b3 H4 c4 z4 z4'
  have k2 : Keep H H2 := c2.keep (by simp)
  have k4 : Keep H2 H4 := c4.keep (by simp)
  have hs4 := (hs.keep k2).keep k4
  obtain ⟨g1, g2⟩ := hs4.cells cC_len cC_ones
  refine ⟨_, g1, g2, ?_⟩
  refine apS_list (xs := []) (Own.nil _ _ _) cC_len cC_ones rfl (by decide) hs.n (by simp; omega) (by decide) fun l6 H7 o7 c7 f7 => ?_
  have k7 : Keep H4 H7 := c7.keep (by simp [fp])
  refine ⟨Pv.keep k7 (by simp; omega), nw_i fun H13 b13 k13 s13 => ⟨Pv.keep k13 (by have := k7.size; simp; omega), ?_⟩⟩
  have o13 := o7.ch (k13.ch (F := [])) (by simp)
  show apS H13 l6 23 4 4 z23.cells 1 ([(⟨77, 9, 0, 0⟩ : Cp)].flatMap cC) _
  refine apS_list o13 cC_len cC_ones rfl (by decide) rfl (by simp; omega) (by decide) fun l18 H19 o19 c19 f19 => ?_
  have f6 : ∀ k ∈ fp l6, H4.size ≤ k := fun k hk => by
    rcases f7 k hk with h1 | h1
    · simp [fp] at h1
    · exact h1
  have f18 : ∀ k ∈ fp l18, H4.size ≤ k := fun k hk => by
    rcases f19 k hk with h1 | h1
    · exact f6 k h1
    · have := k7.size; have := k13.size; omega
  have k19 : Keep H4 H19 := (((k7.trans k13).ch (F := [])).trans c19 fun k hk => .inr (f6 k hk)).keep (by simp)
  have zz := k7.size; have zz2 := k13.size; have zz3 := c19.size
  refine ⟨Pv.ch c19 (by simp; exact ⟨⟨by omega, fun h => by have := f6 _ h; omega⟩, ⟨by omega, fun h => by have := f6 _ h; omega⟩⟩), ?_⟩
  have ht19 := ((ht.keep k2).keep k4).keep k19
  obtain ⟨g3, g4⟩ := ht19.cells cP_len cP_ones
  refine ⟨_, g3, g4, ?_⟩
  refine apS_list (xs := []) (Own.nil _ _ _) cP_len cP_ones rfl (by decide) ht.n (by simp; omega) (by decide) fun l22 H23 o23 c23 f23 => ?_
  have k23 : Keep H19 H23 := c23.keep (by simp [fp])
  refine ⟨Pv.keep k23 (by simp; omega), nw_i fun H29 b29 k29 s29 => ⟨Pv.keep k29 (by have := k23.size; simp; omega), ?_⟩⟩
  have o29 := o23.ch (k29.ch (F := [])) (by simp)
  show apS H29 l22 52 3 16 z52.cells 1 ([(⟨-7, 0, 0⟩ : Pa)].flatMap cP) _
  refine apS_list o29 cP_len cP_ones rfl (by decide) rfl (by simp; omega) (by decide) fun l34 H35 o35 c35 f35 => ?_
  have f22 : ∀ k ∈ fp l22, H19.size ≤ k := fun k hk => by
    rcases f23 k hk with h1 | h1
    · simp [fp] at h1
    · exact h1
  have f34 : ∀ k ∈ fp l34, H19.size ≤ k := fun k hk => by
    rcases f35 k hk with h1 | h1
    · exact f22 k h1
    · have := k23.size; have := k29.size; omega
  have k35 : Keep H19 H35 := (((k23.trans k29).ch (F := [])).trans c35 fun k hk => .inr (f22 k hk)).keep (by simp)
  have zz4 := k23.size; have zz5 := k29.size
  refine ⟨Pv.ch c35 (by simp; exact ⟨⟨by omega, fun h => by have := f22 _ h; omega⟩, ⟨by omega, fun h => by have := f22 _ h; omega⟩⟩), ?_⟩
  have o18 := o19.ch (k35.ch (F := [])) (by simp)
  have v18 := o18.view cC_len (by decide)
  have v34 := o35.view cP_len (by decide)
  have hsn := hs.n
  refine ⟨by omega, by have q1 := v18.n; have q2 := v18.c; simp at q1; omega, fun H40 c40 => ?_⟩
  refine hQ l18 l34 H40 ?_ (o18.ch c40 fun k hk => ?_) (o35.ch c40 fun k hk => ?_) (fun b hb => ?_) fun b hb => ⟨?_, fun hh => ?_⟩
  · have k0 : Keep H H35 := ((k2.trans k4).trans k19).trans k35
    exact ((k0.ch (F := [])).trans c40 (by simp; omega)).keep (by simp)
  · have := f18 k hk; simp; omega
  · have := f34 k hk; simp; omega
  · have := f18 b hb; have := k2.size; have := k4.size; omega
  · have := f34 b hb; have := k2.size; have := k4.size; omega
  · have := o19.fp_lt b hh; have := f34 b hb; omega
theorem staysO_ok {l m : Sl} {Q : Bool → Hp → Prop} (hs : Cs H s cs) (ht : Ps H t ps) (hl : SlV H l 4 cC (cs ++ [⟨77, 9, 0, 0⟩])) (hm : SlV H m 3 cP (ps ++ [⟨-7, 0, 0⟩])) (hcl : cs.length ≤ 140737488355328) (hpl : ps.length ≤ 140737488355328)
    (hQ : ∀ H', Keep H H' → Q true H') : mosaiclaw14_stays.s l m g w h s t H Q := by
  unfold mosaiclaw14_stays.s
  intro b1 H2 c2 _ _
  have k2 : Keep H H2 := c2.keep (by simp)
  replace hs := hs.keep k2
  replace ht := ht.keep k2
  replace hl := hl.keep k2
  replace hm := hm.keep k2
  have n1 := hs.n; have n2 := ht.n; have n3 := hl.n; have n4 := hm.n
  simp at n3 n4
  refine Fix.intro (fun (x : Int) H' => ∃ i : Nat, x = (i : Int) ∧ i ≤ cs.length ∧ H2 = H') (fun (x : Int) _ => cs.length - x.toNat) ⟨0, rfl, by omega, rfl⟩ ?_
  rintro _ _ ⟨i, rfl, hi, rfl⟩ rec hrec
  by_cases hc : i < cs.length
  · obtain ⟨b, o, ha, h1⟩ := hl.get (i := i) (x := cs[i]) (by rw [List.getElem?_append_left hc]; exact get_some hc)
    obtain ⟨b', o', ha', h2⟩ := hs.get (get_some hc)
    refine ite_t (dect (by omega)) ⟨by omega, by omega, _, ha, _, _, _, _, by rw [Int.toNat_natCast]; exact h1, by omega, by omega, _, ha', _, _, _, _, by rw [Int.toNat_natCast]; exact h2, ite_f (by simp) ?_⟩
    rw [nx_i hc (by omega)]
    exact hrec _ _ ⟨i + 1, rfl, by omega, rfl⟩ (by simp only [Int.toNat_natCast]; omega)
  refine ite_f (decf (by omega)) ?_
  refine Fix.intro (fun (x : Int) H' => ∃ i : Nat, x = (i : Int) ∧ i ≤ ps.length ∧ H2 = H') (fun (x : Int) _ => ps.length - x.toNat) ⟨0, rfl, by omega, rfl⟩ ?_
  rintro _ _ ⟨j, rfl, hj, rfl⟩ rec2 hrec2
  by_cases hc2 : j < ps.length
  · obtain ⟨b, o, ha, h1⟩ := hm.get (i := j) (x := ps[j]) (by rw [List.getElem?_append_left hc2]; exact get_some hc2)
    obtain ⟨b', o', ha', h2⟩ := ht.get (get_some hc2)
    refine ite_t (dect (by omega)) ⟨by omega, by omega, _, ha, _, _, _, by rw [Int.toNat_natCast]; exact h1, by omega, by omega, _, ha', _, _, _, by rw [Int.toNat_natCast]; exact h2, ite_f (by simp) ?_⟩
    rw [nx_i hc2 (by omega)]
    exact hrec2 _ _ ⟨j + 1, rfl, by omega, rfl⟩ (by simp only [Int.toNat_natCast]; omega)
  refine ite_f (decf (by omega)) ?_
  obtain ⟨b, o, ha, h1⟩ := hl.get (i := cs.length) (x := ⟨77, 9, 0, 0⟩) (by rw [List.getElem?_append_right (Nat.le_refl _)]; simp)
  obtain ⟨b', o', ha', h2⟩ := hm.get (i := ps.length) (x := ⟨-7, 0, 0⟩) (by rw [List.getElem?_append_right (Nat.le_refl _)]; simp)
  refine ⟨by omega, by omega, _, ha, _, _, _, _, by rw [Int.toNat_natCast, n1]; exact h1, ite_t rfl ⟨by omega, by omega, _, ha', _, _, _, by rw [Int.toNat_natCast, n2]; exact h2, ?_⟩⟩
  exact hQ _ k2
theorem rUnit_ok {col row : Int} {Q : Sl → Hp → Prop} (hs : Cs H s cs) (hok : ∀ c ∈ cs, c.ok) (ht : Ps H t ps) (hP : Prt w h cs ps = 0) (hcol : 0 ≤ col ∧ col ≤ 262140) (hrow : 0 ≤ row ∧ row ≤ 262140)
    (hQ : ∀ l H', Own H' 50 5 l ((unitL w h cs ps col row).flatMap cSp) → Keep H H' → (∀ b ∈ fp l, H.size ≤ b) → Q l H') : mosaicref14_unit.s g w h s t col row H Q := by
  obtain ⟨hC, fr, hL, hB, hU⟩ := prt_fr hP
  have hm := ht.n
  have hn := hs.n
  have hlc : cs.length ≤ 140737488355328 := by have := fr.n; omega
  unfold mosaicref14_unit.s
  intro b1 H2 c2 g1 g1'
  have k2 : Keep H H2 := c2.keep (by simp)
  have y2 := k2.size
  by_cases h1 : ps.length = 1
  · obtain ⟨b, o, ha, hl4⟩ := (ht.keep k2).get (get_some (show 0 < ps.length by omega))
    have e : (ps.map Pa.comp).headD 0 = ps[0].comp := by
      cases ps with
      | nil => simp at h1
      | cons p r => rfl
    have hu : unitL w h cs ps col row = [((0, ps[0].comp, col, row, true) : Sp)] := by unfold unitL; rw [if_pos h1, e]
    refine ite_t (beqi (by omega)) ⟨by omega, by omega, _, ha, ldI_of hl4 (j := 0) rfl (nw_i fun H10 b10 k10 z10 => hQ _ _ ?_ (k2.trans k10) (by simp [fp]; omega))⟩
    rw [hu]
    exact .inr ⟨H2.size, [], rfl, by simp only [List.flatMap_cons, List.flatMap_nil, List.append_nil]; exact b10, rfl, rfl, Nat.le_refl _⟩
  have hu : unitL w h cs ps col row = cat (partL w h cs ps col row) ps.length := by unfold unitL; rw [if_neg h1]
  have hul : ∀ i, i ≤ ps.length → (cat (partL w h cs ps col row) i).length ≤ 10 := fun i hi => by
    have h1' := cat_le (partL w h cs ps col row) hi
    rw [← hu, unit_len hP] at h1'
    have := (each_le hP).2
    omega
  refine ite_f (beqf (by omega)) ?_
  refine Fix.intro (fun (x : Sl × Int) H' => ∃ i : Nat, x.2 = (i : Int) ∧ i ≤ ps.length ∧ Own H' 50 5 x.1 ((cat (partL w h cs ps col row) i).flatMap cSp) ∧ Keep H H' ∧ H2.size ≤ H'.size ∧ ∀ b ∈ fp x.1, H2.size ≤ b) (fun x _ => ps.length - x.2.toNat) ⟨0, rfl, by omega, Own.nil _ _ _, k2, Nat.le_refl _, by simp [fp]⟩ ?_
  rintro ⟨l, _⟩ H16 ⟨i, rfl, hi, o16, k16, z16, f16⟩ rec hrec
  simp only at o16 f16 ⊢
  by_cases hil : i < ps.length
  rotate_left
  · refine ite_f (decf (by omega)) (hQ _ _ ?_ k16 fun b hb => by have := f16 b hb; omega)
    rw [hu]
    obtain rfl : i = ps.length := by omega
    exact o16
  obtain ⟨p, hp⟩ : ∃ p, ps[i]? = some p := ⟨_, get_some hil⟩
  obtain ⟨pc0, pc1⟩ := part_in hB hp
  obtain ⟨c, hc⟩ : ∃ c, cs[p.comp.toNat]? = some c := ⟨_, get_some (by omega)⟩
  obtain ⟨⟨ch1, ch4⟩, cv1, cv4⟩ := fr.fac c (List.mem_of_getElem? hc)
  obtain ⟨m1, m16⟩ := mul16 ⟨ch1, ch4⟩ ⟨cv1, cv4⟩
  have hpl := partL_eq (w := w) (h := h) (col := col) (row := row) hp hc
  obtain ⟨hN, ehN⟩ : ∃ hN : Nat, c.h = hN := ⟨c.h.toNat, by omega⟩
  obtain ⟨vN, evN⟩ : ∃ vN : Nat, c.v = vN := ⟨c.v.toNat, by omega⟩
  have ehv : (c.h * c.v).toNat = vN * hN := by rw [ehN, evN, Nat.mul_comm]; omega
  obtain ⟨b, o, ha, hA⟩ := (ht.keep k16).get hp
  refine ite_t (dect (by omega)) ⟨by omega, by omega, _, ha, ?_⟩
  rw [Int.toNat_natCast]
  refine ldI_of hA (j := 0) rfl (rBlocks_ok (hs.keep k16) hok hlc fun H26 k26 => ⟨Pv.keep k26 (by simp; omega), ?_⟩)
  have y26 := k26.size
  -- the blocks of the part that have come
  have snoc : ∀ {n : Nat}, n < vN * hN → (partL w h cs ps col row i).take (n + 1) = (partL w h cs ps col row i).take n ++ [spotAt w h cs i p c col row n] := fun {n} hn => by
    refine take_snoc' ?_
    rw [hpl, List.getElem?_map, ehv, List.getElem?_range hn]
    rfl
  have hpln : (partL w h cs ps col row i).length = vN * hN := by rw [hpl, List.length_map, List.length_range, ehv]
  have h10 : (cat (partL w h cs ps col row) i).length + vN * hN ≤ 10 := by
    have := hul (i + 1) (by omega)
    rwa [cat_len, hpln] at this
  refine Fix.intro (fun (x : Sl × Int) H' => ∃ v : Nat, x.2 = (v : Int) ∧ v ≤ vN ∧ Own H' 50 5 x.1 ((cat (partL w h cs ps col row) i ++ (partL w h cs ps col row i).take (v * hN)).flatMap cSp) ∧ Keep H H' ∧ H2.size ≤ H'.size ∧ ∀ b ∈ fp x.1, H2.size ≤ b) (fun x _ => vN - x.2.toNat)
    ⟨0, rfl, by omega, by simpa using o16.kp k26, k16.trans k26, by omega, f16⟩ ?_
  rintro ⟨l1, _⟩ H31 ⟨v, rfl, hv, o31, k31, z31, f31⟩ rec2 hrec2
  simp only at o31 f31 ⊢
  obtain ⟨bc, oc, hac, hAc⟩ := (hs.keep k31).get hc
  refine ⟨pc0, by omega, _, hac, ldI_of hAc (j := 2) rfl ?_⟩
  rw [evN, w64 (x := (vN : Int)) (by omega)]
  by_cases hvv : v < vN
  rotate_left
  · refine ite_f (decf (by omega)) ?_
    rw [show (i : Int) + 1 = ((i + 1 : Nat) : Int) from by omega, w64 (by omega)]
    refine hrec _ _ ⟨i + 1, rfl, by omega, ?_, k31, z31, f31⟩ (by simp; omega)
    obtain rfl : v = vN := by omega
    rw [List.take_of_length_le (by omega)] at o31
    exact o31
  have hvm : v * hN + hN ≤ vN * hN := by
    have := Nat.mul_le_mul_right hN (show v + 1 ≤ vN by omega)
    rwa [Nat.add_mul, Nat.one_mul] at this
  refine ite_t (dect (by omega)) ?_
  refine Fix.intro (fun (x : Sl × Int) H' => ∃ u : Nat, x.2 = (u : Int) ∧ u ≤ hN ∧ Own H' 50 5 x.1 ((cat (partL w h cs ps col row) i ++ (partL w h cs ps col row i).take (v * hN + u)).flatMap cSp) ∧ Keep H H' ∧ H2.size ≤ H'.size ∧ ∀ b ∈ fp x.1, H2.size ≤ b) (fun x _ => hN - x.2.toNat)
    ⟨0, rfl, by omega, o31, k31, z31, f31⟩ ?_
  rintro ⟨l2, _⟩ H43 ⟨u, rfl, hu', o43, k43, z43, f43⟩ rec3 hrec3
  simp only at o43 f43 ⊢
  obtain ⟨bd, od, had, hAd⟩ := (hs.keep k43).get hc
  rw [hac] at had
  obtain ⟨rfl, rfl⟩ : bc = bd ∧ oc = od := by injection had with q; injection q with q1 q2; exact ⟨q1, q2⟩
  refine ⟨pc0, by omega, ldI_of hAd (j := 1) rfl ?_⟩
  rw [ehN, w64 (x := (hN : Int)) (by omega)]
  by_cases huu : u < hN
  rotate_left
  · refine ite_f (decf (by omega)) ?_
    rw [show (v : Int) + 1 = ((v + 1 : Nat) : Int) from by omega, w64 (by omega)]
    refine hrec2 _ _ ⟨v + 1, rfl, by omega, ?_, k43, z43, f43⟩ (by simp; omega)
    obtain rfl : u = hN := by omega
    rw [Nat.add_mul, Nat.one_mul]
    exact o43
  have hx : col * (hN : Int) ≤ 262140 * 4 ∧ 0 ≤ col * (hN : Int) := ⟨Int.mul_le_mul hcol.2 (by omega) (by omega) (by omega), Int.mul_nonneg hcol.1 (by omega)⟩
  have hy : row * (vN : Int) ≤ 262140 * 4 ∧ 0 ≤ row * (vN : Int) := ⟨Int.mul_le_mul hrow.2 (by omega) (by omega) (by omega), Int.mul_nonneg hrow.1 (by omega)⟩
  have sp : spotAt w h cs i p c col row (v * hN + u) = ((i : Int), p.comp, col * (hN : Int) + u, row * (vN : Int) + v, decide (col * (hN : Int) + u < (Blo w h cs p.comp).1 ∧ row * (vN : Int) + v < (Blo w h cs p.comp).2)) := by
    have em : ((v * hN + u : Nat) : Int) % (hN : Int) = (u : Int) := by
      rw [← Int.natCast_emod, Nat.mul_comm, Nat.mul_add_mod, Nat.mod_eq_of_lt huu]
    have ed : ((v * hN + u : Nat) : Int) / (hN : Int) = (v : Int) := by
      rw [← Int.natCast_ediv, Nat.mul_comm, Nat.mul_add_div (by omega), Nat.div_eq_of_lt huu, Nat.add_zero]
    unfold spotAt
    rw [ehN, evN, em, ed]
  refine ite_t (dect (by omega)) (Join.intro (fun (t : Sl) H' => Own H' 50 5 t ((cat (partL w h cs ps col row) i ++ (partL w h cs ps col row i).take (v * hN + (u + 1))).flatMap cSp) ∧ Keep H H' ∧ H2.size ≤ H'.size ∧ ∀ b ∈ fp t, H2.size ≤ b) ?_ fun J hJ => ?_)
  · rintro t' H52 ⟨o52, k52, z52, f52⟩
    rw [show (u : Int) + 1 = ((u + 1 : Nat) : Int) from by omega, w64 (by omega)]
    exact hrec3 _ _ ⟨u + 1, rfl, by omega, o52, k52, z52, f52⟩ (by simp; omega)
  refine ⟨pc0, by omega, ldI_of hAd (j := 1) rfl ?_⟩
  rw [ehN, w64 (x := (hN : Int)) (by omega), w64 (x := col * (hN : Int)) (by omega), w64 (x := col * (hN : Int) + (u : Int)) (by omega)]
  refine Lt.of ⟨pc0, by omega, ldI_of hAd (j := 2) rfl ?_⟩
  rw [evN, w64 (x := (vN : Int)) (by omega), w64 (x := row * (vN : Int)) (by omega), w64 (x := row * (vN : Int) + (v : Int)) (by omega)]
  refine Lt.of ?_
  have esn := snoc (n := v * hN + u) (by omega)
  have oln : ((cat (partL w h cs ps col row) i ++ (partL w h cs ps col row i).take (v * hN + u))).length ≤ 10 := by
    rw [List.length_append, List.length_take, hpln]
    omega
  have fin : ∀ {r : Bool}, r = decide (col * (hN : Int) + u < (Blo w h cs p.comp).1 ∧ row * (vN : Int) + v < (Blo w h cs p.comp).2) → nw H43 50 (c50 (i : Int) p.comp (col * (hN : Int) + u) (row * (vN : Int) + v) r) (fun p65 H66 => Pv [b1] H43 H66 ∧ (apS H66 l2 50 5 40 z50.cells 1 (c50 (i : Int) p.comp (col * (hN : Int) + u) (row * (vN : Int) + v) r) (fun l71 H72 => Pv [b1] H66 H72 ∧ (J l71 H72)))) := fun {r} hr => by
    subst hr
    refine nw_i fun H66 b66 k66 z66 => ⟨Pv.keep k66 (by simp; omega), ?_⟩
    have y66 := k66.size
    refine apS_list (f := cSp) (ys := [((i : Int), p.comp, col * (hN : Int) + u, row * (vN : Int) + v, decide (col * (hN : Int) + u < (Blo w h cs p.comp).1 ∧ row * (vN : Int) + v < (Blo w h cs p.comp).2))]) (o43.kp k66) cSp_len cSp_ones rfl (by omega) rfl (by simp at oln ⊢; omega) (by omega) fun l71 H72 o72 c72 f72 => ⟨Pv.ch c72 (by simp; exact ⟨by omega, fun hh => by have := f43 _ hh; omega⟩), hJ _ _ ⟨?_, ?_, by have := c72.size; omega, fun b hb => ?_⟩⟩
    · rw [← sp, List.append_assoc, ← esn] at o72
      exact o72
    · exact ((k43.trans k66).ch (F := [])).trans c72 (fun b hb => .inr (by have := f43 b hb; omega)) |>.keep (by simp)
    · rcases f72 b hb with q | q
      · exact f43 b q
      · omega
  by_cases g1 : col * (hN : Int) + u < (Blo w h cs p.comp).1
  · refine ite_t (dect g1) (fin ?_)
    simp only [g1, true_and]
  · refine ite_f (decf g1) (fin ?_)
    simp only [g1, false_and, decide_false]
end
end Go.Proofs.Ytlonijlcddlhjaa.G
