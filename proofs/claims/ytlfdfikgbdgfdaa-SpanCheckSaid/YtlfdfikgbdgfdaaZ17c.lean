/- Layer 17: why a job may not be, of the document; SpanCheck. -/
import Derived.Test.YtlfdfikgbdgfdaaZ17b
import Derived.Test.YtlfdfikgbdgfdaaZ17v
import Derived.Test.YtlfdfikgbdgfdaaM14r
import Derived.Test.YtlfdfikgbdgfdaaKmosaicref17
import Derived.Test.YtlfdfikgbdgfdaaKSpanCheck
namespace Go.Proofs.Ytlfdfikgbdgfdaa.G
open Go.RowKit
set_option linter.unusedVariables false
set_option linter.unusedSimpArgs false
set_option maxRecDepth 20000

section
variable {H : Hp} {c : Cn} {s : Sl} {vs : List Nat}
theorem rtable_ok {Q : Int → Hp → Prop} (hc : cOk c) (hs : SlV H s 1 cB vs) (hl : vs.length ≤ 140737488355328) (h : ∀ H', Keep H H' → Q (Chk4 c vs) H') : mosaicref17_table.s c s H Q := by
  unfold mosaicref17_table.s
  intro b1 H2 c2 g1 g2
  have k2 : Keep H H2 := c2.keep (by simp)
  have hn := hs.n
  refine Fix.intro (fun (x : Int × Int × Int × Int) H' => ∃ i : Nat, x = ((wN c i : Int), (wS c i : Int), ((32768 / 2 ^ i : Nat) : Int), (i : Int)) ∧ i ≤ 16 ∧ H2 = H') (fun x _ => 16 - x.2.2.2.toNat) ⟨0, rfl, by omega, rfl⟩ ?_
  rintro _ _ ⟨i, rfl, hi, rfl⟩ rec hrec
  dsimp only
  by_cases h16 : i < 16
  · obtain ⟨e1, e2⟩ := cnt_ok hc i
    have hN := wN_le hc i
    have hS := wS_le hc i
    have hT := wT_le hc i
    have hp : (32768 : Nat) / 2 ^ i = 2 ^ (15 - i) := by
      rw [show (32768 : Nat) = 2 ^ 15 from rfl, Nat.pow_div (by omega) (by omega)]
    have hd : (32768 : Nat) / 2 ^ i / 2 = 32768 / 2 ^ (i + 1) := by rw [Nat.div_div_eq_div_mul, Nat.pow_succ]
    refine ite_t (dect (by omega)) ⟨by omega, by omega, Lt.of ⟨by omega, by omega, Lt.of ?_⟩⟩
    have p1 : 2 ^ (15 - i) ≤ 2 ^ 15 := pow_lt (by omega)
    have p2 : (2 : Nat) ^ 15 = 32768 := rfl
    rw [e1, w64n (x := cnt c i) (by omega)]
    rw [show Int.tdiv ((32768 / 2 ^ i : Nat) : Int) 2 = ((32768 / 2 ^ (i + 1) : Nat) : Int) from by rw [← hd]; exact Int.tdiv_eq_ediv_of_nonneg (Int.natCast_nonneg _)]
    rw [hp, show (cnt c i : Int) * ((2 ^ (15 - i) : Nat) : Int) = ((cnt c i * 2 ^ (15 - i) : Nat) : Int) from by push_cast; rfl, w64n (x := cnt c i * 2 ^ (15 - i)) (by omega)]
    rw [show (wS c i : Int) + ((cnt c i * 2 ^ (15 - i) : Nat) : Int) = ((wS c (i + 1) : Nat) : Int) from by rw [wS_s]; omega, show (wN c i : Int) + (cnt c i : Int) = ((wN c (i + 1) : Nat) : Int) from by rw [wN_s]; omega, show (i : Int) + 1 = ((i + 1 : Nat) : Int) from by omega]
    rw [w64n (x := wS c (i + 1)) (by rw [wS_s]; omega), w64n (x := wN c (i + 1)) (by rw [wN_s]; omega), w64n (x := i + 1) (by omega), w64n (x := 32768 / 2 ^ (i + 1)) (Nat.le_trans (Nat.div_le_self _ _) (by decide))]
    exact hrec _ _ ⟨i + 1, rfl, by omega, rfl⟩ (by simp; omega)
  obtain rfl : i = 16 := by omega
  refine ite_f (decf (by omega)) ?_
  refine Join.intro (fun b H' => b = decide (wN c 16 = 0 ∨ 256 < wN c 16 ∨ wN c 16 ≠ vs.length) ∧ H2 = H') ?_ ?_
  rotate_left
  · intro J hJ
    by_cases h1 : wN c 16 = 0
    · exact ite_t (beqi (by omega)) (hJ _ _ ⟨(dect (.inl h1)).symm, rfl⟩)
    refine ite_f (beqf (by omega)) ?_
    by_cases h2 : 256 < wN c 16
    · exact ite_t (dect (by omega)) (hJ _ _ ⟨(dect (.inr (.inl h2))).symm, rfl⟩)
    refine ite_f (decf (by omega)) (hJ _ _ ⟨?_, rfl⟩)
    by_cases h3 : wN c 16 = vs.length
    · rw [decf (by omega)]; exact bnei (by omega)
    · rw [dect (by omega)]; exact bnet (by omega)
  rintro _ _ ⟨rfl, rfl⟩
  unfold Chk4 at h
  by_cases h1 : wN c 16 = 0 ∨ 256 < wN c 16 ∨ wN c 16 ≠ vs.length
  · rw [if_pos h1] at h
    exact ite_t (dect h1) (h _ k2)
  rw [if_neg h1] at h
  refine ite_f (decf h1) ?_
  by_cases h2 : 65535 < wS c 16
  · rw [if_pos h2] at h
    exact ite_t (dect (by omega)) (h _ k2)
  rw [if_neg h2] at h
  refine ite_f (decf (by omega)) ?_
  have hw : wN c 16 = vs.length := by omega
  rw [hw]
  refine Fix.intro (fun (x : Int) H' => ∃ (i : Nat), x = (i : Int) ∧ i ≤ vs.length ∧ (vs.take i).Nodup ∧ H2 = H') (fun x _ => vs.length - x.toNat) ⟨0, rfl, by omega, by simp, rfl⟩ ?_
  rintro _ _ ⟨i, rfl, hi, hnd, rfl⟩ rec hrec
  by_cases hil : i < vs.length
  · obtain ⟨b, o, ha, hA⟩ := (hs.keep k2).get (List.getElem?_eq_getElem hil)
    refine ite_t (dect (by omega)) ?_
    refine Fix.intro (fun (x : Int) H' => ∃ (k : Nat), x = (k : Int) ∧ k ≤ i ∧ vs[i] ∉ vs.take k ∧ H2 = H') (fun x _ => i - x.toNat) ⟨0, rfl, by omega, by simp, rfl⟩ ?_
    rintro _ _ ⟨k, rfl, hk, hno, rfl⟩ rec2 hrec2
    by_cases hki : k < i
    · have hkl : k < vs.length := by omega
      obtain ⟨b', o', ha', hA'⟩ := (hs.keep k2).get (List.getElem?_eq_getElem hkl)
      rw [ha] at ha'
      obtain ⟨rfl, rfl⟩ : b = b' ∧ o = o' := by injection ha' with h; injection h with h1 h2; exact ⟨h1, h2⟩
      refine ite_t (dect (by omega)) ⟨by omega, by omega, _, ha, ldI_of0 hA rfl ⟨by omega, by omega, ldI_of0 hA' rfl ?_⟩⟩
      by_cases he : vs[i] = vs[k]
      · refine ite_t (beqi (by omega)) ?_
        have : ¬ vs.Nodup := fun hnd' => by
          have h3 := nodup_take (i + 1) hnd'
          rw [take_snoc hil] at h3
          refine (nodup_snoc.1 h3).2 ?_
          rw [he]
          exact List.mem_take_iff_getElem.2 ⟨k, by omega, rfl⟩
        rw [if_neg this] at h
        exact h _ k2
      · refine ite_f (beqf (by omega)) ?_
        rw [show (k : Int) + 1 = ((k + 1 : Nat) : Int) from by omega, w64n (by omega)]
        refine hrec2 _ _ ⟨k + 1, rfl, by omega, ?_, rfl⟩ (by simp; omega)
        rw [take_snoc hkl, List.mem_append]
        rintro (h3 | h3)
        · exact hno h3
        · simp at h3; exact he h3
    · obtain rfl : k = i := by omega
      refine ite_f (decf (by omega)) ?_
      rw [show (k : Int) + 1 = ((k + 1 : Nat) : Int) from by omega, w64n (by omega)]
      exact hrec _ _ ⟨k + 1, rfl, by omega, by rw [take_snoc hil]; exact nodup_snoc.2 ⟨hnd, hno⟩, rfl⟩ (by simp; omega)
  · rw [List.take_of_length_le (by omega)] at hnd
    rw [if_pos hnd] at h
    exact ite_f (decf (by omega)) (h _ k2)
end
section
variable {H : Hp} {j : Jb} {cs : List Cp} {ps : List Pa} {TV : Nat → List Nat}
set_option maxHeartbeats 1000000 in
theorem rCheck17_ok {Q : Int → Hp → Prop} (J : JV H j cs ps TV) (h : ∀ H', Keep H H' → Q (jChk j cs ps TV) H') :
    mosaicref17_Check.s j.g j.w j.h j.s j.t j.d0.1 j.d0.2 j.d1.1 j.d1.2 j.d2.1 j.d2.2 j.d3.1 j.d3.2 j.a0.1 j.a0.2 j.a1.1 j.a1.2 j.a2.1 j.a2.2 j.a3.1 j.a3.2 j.f j.u H Q := by
  have hf := J.hf
  have hu := J.hu
  have hl := J.hl
  have hm := J.hm
  have hn := J.ht.n
  obtain ⟨a0, a1⟩ := uni_area (w := j.w) (h := j.h) (cs := cs) (ps := ps)
  have hJ : jChk j cs ps TV = if Prt j.w j.h cs ps ≠ 0 then Prt j.w j.h cs ps else if rdE j TV ps ≠ 0 then rdE j TV ps else
    if j.f < 0 ∨ j.u < 0 ∨ (Uni j.w j.h cs ps).1 * (Uni j.w j.h cs ps).2 < j.f ∨ (Uni j.w j.h cs ps).1 * (Uni j.w j.h cs ps).2 - j.f < j.u then 3 else 0 := rfl
  unfold mosaicref17_Check.s
  intro b1 H2 c2 g1 g1'
  have k2 : Keep H H2 := c2.keep (by simp)
  have y2 := c2.size
  have J2 := J.keep k2
  refine rParts_ok J2.hs J2.hok (by omega) J2.ht J2.hpk fun H4 k4 => ⟨Pv.keep k4 (by simp; omega), ?_⟩
  have y4 := k4.size
  by_cases hP : Prt j.w j.h cs ps = 0
  rotate_left
  · rw [if_pos hP] at hJ
    refine ite_t (bnet hP) ?_
    rw [← hJ]
    exact h _ (k2.trans k4)
  rw [if_neg (by omega)] at hJ
  refine ite_f (bnei hP) fun q1 => ?_
  have kA := k2.trans k4
  refine Fix.intro (fun (x : Int) H' => ∃ i : Nat, x = (i : Int) ∧ i ≤ ps.length ∧ rdE j TV (ps.drop i) = rdE j TV ps ∧ Keep H4 H') (fun x _ => ps.length - x.toNat) ⟨0, rfl, by omega, rfl, Keep.refl _⟩ ?_
  rintro _ H9 ⟨i, rfl, hi, hE, k9⟩ rec hrec
  have j1 := q1.keep k9
  have J9 := J.keep (kA.trans k9)
  have n9 := J9.ht.n
  by_cases hil : i < ps.length
  · obtain ⟨p, hp⟩ : ∃ p, ps[i]? = some p := ⟨_, get_some hil⟩
    obtain ⟨pd, pa, ⟨x, hx⟩, ⟨y, hy⟩⟩ := part_tabs hP J hp
    obtain ⟨b, o, ha, hA⟩ := J9.ht.get hp
    have hdr : ps.drop i = p :: ps.drop (i + 1) := by
      obtain ⟨g1, g2⟩ := List.getElem?_eq_some_iff.1 hp
      rw [List.drop_eq_getElem_cons g1, g2]
    rw [hdr, rdE, tbl_at hx, tbl_at hy] at hE
    dsimp only at hE
    refine job_parts j1 (ite_t (dect (by omega)) (job_parts j1 ⟨by omega, by omega, _, ha, ?_⟩))
    rw [Int.toNat_natCast]
    refine ldI_of hA (j := 1) rfl ⟨by omega, by omega, x.1, x.2, ?_, ?_⟩
    · rw [add_mk]; exact job_sp j1 hx
    obtain ⟨xv, xb, xc, xl⟩ := J9.sp _ x hx
    refine rtable_ok xc xv (by omega) fun H28 k28 => ?_
    by_cases hz : Chk4 x.1 (TV p.dc.toNat) = 0
    rotate_left
    · rw [if_pos hz] at hE
      refine ite_t (bnet hz) ?_
      have : rdE j TV ps ≠ 0 := by rw [← hE]; exact hz
      rw [if_pos this] at hJ
      rw [hE, ← hJ]
      exact h _ ((kA.trans k9).trans k28)
    rw [if_neg (by omega)] at hE
    have j2 := j1.keep k28
    have J28 := J9.keep k28
    obtain ⟨b', o', ha', hA'⟩ := J28.ht.get hp
    rw [ha] at ha'
    obtain ⟨rfl, rfl⟩ : b = b' ∧ o = o' := by injection ha' with h; injection h with h1 h2; exact ⟨h1, h2⟩
    obtain ⟨yv, yb, yc, yl⟩ := J28.sp _ y hy
    refine ite_f (bnei hz) (job_parts j2 ⟨by omega, by omega, _, ha, ?_⟩)
    refine ldI_of hA' (j := 2) rfl ⟨by omega, by omega, y.1, y.2, ?_, ?_⟩
    · rw [add_mk, show 73 + Int.toNat p.ac * 17 = 5 + (4 + Int.toNat p.ac) * 17 from by omega]; exact job_sp j2 hy
    refine rtable_ok yc yv (by omega) fun H43 k43 => ?_
    by_cases hz : Chk4 y.1 (TV (4 + p.ac.toNat)) = 0
    rotate_left
    · rw [if_pos hz] at hE
      refine ite_t (bnet hz) ?_
      have : rdE j TV ps ≠ 0 := by rw [← hE]; exact hz
      rw [if_pos this] at hJ
      rw [hE, ← hJ]
      exact h _ (((kA.trans k9).trans k28).trans k43)
    rw [if_neg (by omega)] at hE
    refine ite_f (bnei hz) ?_
    rw [show (i : Int) + 1 = ((i + 1 : Nat) : Int) from by omega, w64n (by omega)]
    exact hrec _ _ ⟨i + 1, rfl, by omega, hE, (k9.trans k28).trans k43⟩ (by simp; omega)
  refine job_parts j1 (ite_f (decf (by omega)) ⟨_, _, _, _, job_frame j1, job_parts j1 ?_⟩)
  have hE0 : rdE j TV ps = 0 := by rw [← hE, List.drop_eq_nil_of_le (by omega)]; rfl
  rw [if_neg (by omega)] at hJ
  refine rUnits_ok J9.hs J9.hok (by omega) J9.ht J9.hpk fun H52 k52 => ?_
  rw [uniw]
  have j2 := j1.keep k52
  have kB := (kA.trans k9).trans k52
  generalize (Uni j.w j.h cs ps).1 * (Uni j.w j.h cs ps).2 = T at *
  refine Join.intro (fun (b : Bool) H' => H52 = H' ∧ b = decide (j.f < 0 ∨ j.u < 0 ∨ T < j.f ∨ T - j.f < j.u)) ?_ fun J hJ' => ?_
  · rintro _ _ ⟨rfl, rfl⟩
    by_cases hb : j.f < 0 ∨ j.u < 0 ∨ T < j.f ∨ T - j.f < j.u
    · rw [if_pos hb] at hJ
      refine ite_t (dect hb) ?_
      rw [← hJ]; exact h _ kB
    · rw [if_neg hb] at hJ
      refine ite_f (decf hb) ?_
      rw [← hJ]; exact h _ kB
  · have lf : ∀ {K : Int → Prop}, K j.f → ldI .i64 H52 (⟨b1, 141, none⟩ : Addr) K := fun {K} hK => job_at j2 (.inl ⟨rfl, rfl⟩) hK
    have lu : ∀ {K : Int → Prop}, K j.u → ldI .i64 H52 (⟨b1, 142, none⟩ : Addr) K := fun {K} hK => job_at j2 (.inr ⟨rfl, rfl⟩) hK
    refine lf ?_
    by_cases z1 : j.f < 0
    · exact ite_t (dect z1) (hJ' _ _ ⟨rfl, (dect (.inl z1)).symm⟩)
    refine ite_f (decf z1) (lu ?_)
    by_cases z2 : j.u < 0
    · exact ite_t (dect z2) (hJ' _ _ ⟨rfl, (dect (.inr (.inl z2))).symm⟩)
    refine ite_f (decf z2) (lf ?_)
    by_cases z3 : T < j.f
    · exact ite_t (dect z3) (hJ' _ _ ⟨rfl, (dect (.inr (.inr (.inl z3)))).symm⟩)
    refine ite_f (decf z3) (lu (lf (hJ' _ _ ⟨rfl, ?_⟩)))
    rw [w64 (by omega)]
    by_cases z4 : T - j.f < j.u
    · rw [dect z4, dect (.inr (.inr (.inr z4)))]
    · rw [decf z4, decf (by omega)]
theorem Check17_ok {Q : Int → Hp → Prop} (J : JV H j cs ps TV) (h : ∀ H', Keep H H' → Q (jChk j cs ps TV) H') :
    span_Check.s j.g j.w j.h j.s j.t j.d0.1 j.d0.2 j.d1.1 j.d1.2 j.d2.1 j.d2.2 j.d3.1 j.d3.2 j.a0.1 j.a0.2 j.a1.1 j.a1.2 j.a2.1 j.a2.2 j.a3.1 j.a3.2 j.f j.u H Q := by
  unfold span_Check.s
  intro b1 H2 c2 g1 g1'
  have k2 : Keep H H2 := c2.keep (by simp)
  refine jmay_ok (J.keep k2) (fun _ H4 k4 => ?_) fun hz dl al ts us H4 _ _ _ _ _ _ _ k4 => ?_
  · intro b5 H7 c7 g5 g5'
    exact h H7 ((k2.trans k4).trans (c7.keep (by simp)))
  · intro b5 H7 c7 g5 g5'
    have := h H7 ((k2.trans k4).trans (c7.keep (by simp)))
    rwa [hz] at this
end
theorem SpanCheck_row (g w h : Int) (s t : Sl) (d0 : Cn) (e0 : Sl) (d1 : Cn) (e1 : Sl) (d2 : Cn) (e2 : Sl) (d3 : Cn) (e3 : Sl) (a0 : Cn) (f0 : Sl) (a1 : Cn) (f1 : Sl) (a2 : Cn) (f2 : Sl) (a3 : Cn) (f3 : Sl) (f u : Int) (W : World)
    (hg : 0 ≤ g ∧ g ≤ 255) (hw : -9223372036854775808 ≤ w ∧ w ≤ 9223372036854775807) (hh : -9223372036854775808 ≤ h ∧ h ≤ 9223372036854775807)
    (hs : SlH W.heap none 4 4 (X98 none W.heap) s) (ht : SlH W.heap none 16 3 (X67 none W.heap) t)
    (c0 : ∀ v ∈ d0.1, 0 ≤ v ∧ v ≤ 255) (z0 : SlH W.heap none 1 1 (X5 none W.heap) e0) (c1 : ∀ v ∈ d1.1, 0 ≤ v ∧ v ≤ 255) (z1 : SlH W.heap none 1 1 (X5 none W.heap) e1)
    (c2 : ∀ v ∈ d2.1, 0 ≤ v ∧ v ≤ 255) (z2 : SlH W.heap none 1 1 (X5 none W.heap) e2) (c3 : ∀ v ∈ d3.1, 0 ≤ v ∧ v ≤ 255) (z3 : SlH W.heap none 1 1 (X5 none W.heap) e3)
    (b0 : ∀ v ∈ a0.1, 0 ≤ v ∧ v ≤ 255) (y0 : SlH W.heap none 1 1 (X5 none W.heap) f0) (b1 : ∀ v ∈ a1.1, 0 ≤ v ∧ v ≤ 255) (y1 : SlH W.heap none 1 1 (X5 none W.heap) f1)
    (b2 : ∀ v ∈ a2.1, 0 ≤ v ∧ v ≤ 255) (y2 : SlH W.heap none 1 1 (X5 none W.heap) f2) (b3 : ∀ v ∈ a3.1, 0 ≤ v ∧ v ≤ 255) (y3 : SlH W.heap none 1 1 (X5 none W.heap) f3)
    (hf : -9223372036854775808 ≤ f ∧ f ≤ 9223372036854775807) (hu : -9223372036854775808 ≤ u ∧ u ≤ 9223372036854775807) :
    mosaiclaw17_SpanCheck.s g w h s t d0 e0 d1 e1 d2 e2 d3 e3 a0 f0 a1 f1 a2 f2 a3 f3 f u W.heap (fun r H' => r = true ∧ Keep W.heap H') := by
  obtain ⟨cs, ps, TV, J⟩ := job_view (j := ⟨g, w, h, s, t, (d0, e0), (d1, e1), (d2, e2), (d3, e3), (a0, f0), (a1, f1), (a2, f2), (a3, f3), f, u⟩) hs ht ⟨c0, z0⟩ ⟨c1, z1⟩ ⟨c2, z2⟩ ⟨c3, z3⟩ ⟨b0, y0⟩ ⟨b1, y1⟩ ⟨b2, y2⟩ ⟨b3, y3⟩ hf hu
  unfold mosaiclaw17_SpanCheck.s
  intro p1 H2 k2 q1 q1'
  have kk : Keep W.heap H2 := k2.keep (by simp)
  refine Check17_ok (J.keep kk) fun H7 k7 => ⟨Pv.keep k7 (by simp; omega), ?_⟩
  refine rCheck17_ok (J.keep (kk.trans k7)) fun H10 k10 => ⟨Pv.keep k10 (by have := k7.size; simp; omega), beqi rfl, (kk.trans k7).trans k10⟩
end Go.Proofs.Ytlfdfikgbdgfdaa.G
