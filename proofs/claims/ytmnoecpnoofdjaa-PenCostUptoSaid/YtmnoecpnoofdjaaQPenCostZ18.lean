/- Of this text what the row needs. -/
import Derived.Test.YtmnoecpnoofdjaaQPenCostM17
import Derived.Test.YtmnoecpnoofdjaaQPenCostKpen
namespace Go.Proofs.Ytmnoecpnoofdjaa.G
open Go.RowKit
set_option linter.unusedVariables false
set_option linter.unusedSimpArgs false
set_option maxRecDepth 20000
abbrev cDk (j : Jb) (dl al : Sl) : List Value := c70 j.g j.w j.h j.s j.t j.d0.1 j.d0.2 j.d1.1 j.d1.2 j.d2.1 j.d2.2 j.d3.1 j.d3.2 j.a0.1 j.a0.2 j.a1.1 j.a1.2 j.a2.1 j.a2.2 j.a3.1 j.a3.2 j.f j.u dl al
theorem cDk_eq (j : Jb) (dl al : Sl) : cDk j dl al = j.cells ++ [.slice dl.a dl.n dl.c, .slice al.a al.n al.c] := by
  unfold cDk Jb.cells
  simp only [List.append_assoc, List.nil_append, List.cons_append]
theorem cDk_len (j : Jb) (dl al : Sl) : (cDk j dl al).length = 145 := by rw [cDk_eq, List.length_append, job_len]; rfl
section
variable {j : Jb} {dl al dl' al' : Sl}
theorem dk_143 : (cDk j dl al)[143]? = some (.slice dl.a dl.n dl.c) := by
  rw [cDk_eq, List.getElem?_append_right (by rw [job_len]; omega), job_len]; rfl
theorem dk_144 : (cDk j dl al)[144]? = some (.slice al.a al.n al.c) := by
  rw [cDk_eq, List.getElem?_append_right (by rw [job_len]; omega), job_len]; rfl
theorem dk_set143 : (cDk j dl al).set 143 (.slice dl'.a dl'.n dl'.c) = cDk j dl' al := by
  rw [cDk_eq, cDk_eq, List.set_append_right _ _ (by rw [job_len]; omega), job_len]; rfl
theorem dk_set144 : (cDk j dl al).set 144 (.slice al'.a al'.n al'.c) = cDk j dl al' := by
  rw [cDk_eq, cDk_eq, List.set_append_right _ _ (by rw [job_len]; omega), job_len]; rfl
theorem dk_job {H : Hp} {b : Nat} {T : TypeId} (h : Bk H b T (cDk j dl al)) : ldA H (⟨b, 0, none⟩ : Addr) j.cells := ldA_i h fun i v hv => by
  rw [Nat.zero_add, cDk_eq, List.getElem?_append_left (List.getElem?_eq_some_iff.1 hv).1]
  exact hv
end
noncomputable def oChk (tb : Bool) (j : Jb) (cs : List Cp) (ps : List Pa) (TV : Nat → List Nat) : Int :=
  open Classical in
  if Prt j.w j.h cs ps ≠ 0 then Prt j.w j.h cs ps else if tb = true ∧ rdE j TV ps ≠ 0 then rdE j TV ps else
  if j.f < 0 ∨ j.u < 0 ∨ (Uni j.w j.h cs ps).1 * (Uni j.w j.h cs ps).2 < j.u ∨ (Uni j.w j.h cs ps).1 * (Uni j.w j.h cs ps).2 - j.u < j.f then 3 else 0
section
variable {H : Hp} {j : Jb} {cs : List Cp} {ps : List Pa} {TV : Nat → List Nat}
theorem ochk_no {tb : Bool} (h : oChk tb j cs ps TV = 0) : Prt j.w j.h cs ps = 0 ∧ (tb = true → rdE j TV ps = 0) ∧ 0 ≤ j.f ∧ 0 ≤ j.u ∧ j.f + j.u ≤ (Uni j.w j.h cs ps).1 * (Uni j.w j.h cs ps).2 := by
  unfold oChk at h
  by_cases h1 : Prt j.w j.h cs ps ≠ 0
  · rw [if_pos h1] at h; exact absurd h h1
  rw [if_neg h1] at h
  by_cases h2 : tb = true ∧ rdE j TV ps ≠ 0
  · rw [if_pos h2] at h; exact absurd h h2.2
  rw [if_neg h2] at h
  split at h
  · cases h
  · exact ⟨by omega, fun ht => Classical.byContradiction fun q => h2 ⟨ht, q⟩, by omega, by omega, by omega⟩
theorem ochk_more (h : oChk false j cs ps TV ≠ 0) : oChk true j cs ps TV ≠ 0 := by
  intro q
  obtain ⟨h1, _, h2, h3, h4⟩ := ochk_no q
  refine h ?_
  unfold oChk
  rw [if_neg (by omega), if_neg (by simp), if_neg (by omega)]
set_option maxHeartbeats 2000000 in
theorem open_ok {tb : Bool} {Q : Option Addr × Int → Hp → Prop} (J : JV H j cs ps TV)
    (h0 : oChk tb j cs ps TV ≠ 0 → ∀ H', Keep H H' → Q (none, oChk tb j cs ps TV) H')
    (h : oChk tb j cs ps TV = 0 → ∀ b dl al ts us H', Bk H' b 70 (cDk j dl al) → (tb = true → Own H' 67 1 dl (ts.flatMap cPt) ∧ Own H' 67 1 al (us.flatMap cPt) ∧ ts.length = ps.length ∧ us.length = ps.length ∧ TbL H H' j TV ps (fun p => p.dc.toNat) ts [] ∧ TbL H H' j TV ps (fun p => 4 + p.ac.toNat) us []) → (∀ x ∈ b :: (fp dl ++ fp al), H.size ≤ x) → Keep H H' → Q (some ⟨b, 0, none⟩, 0) H') :
    pen_open.s j.g j.w j.h j.s j.t j.d0.1 j.d0.2 j.d1.1 j.d1.2 j.d2.1 j.d2.2 j.d3.1 j.d3.2 j.a0.1 j.a0.2 j.a1.1 j.a1.2 j.a2.1 j.a2.2 j.a3.1 j.a3.2 j.f j.u tb H Q := by
  have hf := J.hf
  have hu := J.hu
  have hl := J.hl
  have hm := J.hm
  have hn := J.ht.n
  obtain ⟨a0, a1⟩ := uni_area (w := j.w) (h := j.h) (cs := cs) (ps := ps)
  have hJ : oChk tb j cs ps TV = if Prt j.w j.h cs ps ≠ 0 then Prt j.w j.h cs ps else if tb = true ∧ rdE j TV ps ≠ 0 then rdE j TV ps else
    if j.f < 0 ∨ j.u < 0 ∨ (Uni j.w j.h cs ps).1 * (Uni j.w j.h cs ps).2 < j.u ∨ (Uni j.w j.h cs ps).1 * (Uni j.w j.h cs ps).2 - j.u < j.f then 3 else 0 := by
    unfold oChk
    congr
  unfold pen_open.s
  intro b1 H2 c2 g1 g1'
  have k2 : Keep H H2 := c2.keep (by simp)
  have y2 := c2.size
  have J2 := J.keep k2
  refine gParts_ok J2.hs J2.hok (by omega) J2.ht J2.hpk fun H4 k4 => ⟨Pv.keep k4 (by simp; omega), ?_⟩
  have y4 := k4.size
  by_cases hP : Prt j.w j.h cs ps = 0
  rotate_left
  · rw [if_pos hP] at hJ
    refine ite_t (bnet hP) ?_
    rw [← hJ]
    exact h0 (by rw [hJ]; exact hP) H4 (k2.trans k4)
  rw [if_neg (by omega)] at hJ
  refine ite_f (bnei hP) ?_
  intro b6 H6 c6 g6 g6' q6 q1
  have k6 : Keep H H6 := (k2.trans k4).trans (c6.keep (by simp))
  have y6 := c6.size
  replace q6 : Bk H6 b6 70 (cDk j ⟨none, 0, 0⟩ ⟨none, 0, 0⟩) := q6
  replace q1 : Bk H6 b1 32 j.cells := q1
  have l1 := q1.lt
  obtain ⟨hC, fr, hL, hBd, hU⟩ := prt_fr hP
  refine Join.intro (fun (_ : Unit) H' => ∃ (dl al : Sl) (ts us : List Nat), Bk H' b1 32 j.cells ∧ Bk H' b6 70 (cDk j dl al) ∧ Keep H H' ∧ H6.size ≤ H'.size ∧ (∀ b ∈ fp dl ++ fp al, H6.size ≤ b) ∧ (tb = true → rdE j TV ps = 0 ∧ Own H' 67 1 dl (ts.flatMap cPt) ∧ Own H' 67 1 al (us.flatMap cPt) ∧ ts.length = ps.length ∧ us.length = ps.length ∧ TbL H H' j TV ps (fun p => p.dc.toNat) ts [] ∧ TbL H H' j TV ps (fun p => 4 + p.ac.toNat) us [])) ?_ fun J8 hJ8 => ?_
  · rintro ⟨⟩ H10 ⟨dl, al, ts, us, j1, j6, k10, y10, fr1, ht⟩
    have J10 := J.keep k10
    refine ⟨_, _, _, _, job_frame j1, job_parts j1 (gUnits_ok J10.hs J10.hok (by omega) J10.ht J10.hpk fun H19 k19 => ?_)⟩
    rw [uniw]
    rw [if_neg fun q : tb = true ∧ rdE j TV ps ≠ 0 => q.2 (ht q.1).1] at hJ
    generalize (Uni j.w j.h cs ps).1 * (Uni j.w j.h cs ps).2 = T at *
    have j1' := j1.keep k19
    refine Join.intro (fun (b : Bool) H' => H19 = H' ∧ b = decide (j.f < 0 ∨ j.u < 0 ∨ T < j.u ∨ T - j.u < j.f)) ?_ fun J20 hJ20 => ?_
    · rintro _ _ ⟨rfl, rfl⟩
      by_cases hb : j.f < 0 ∨ j.u < 0 ∨ T < j.u ∨ T - j.u < j.f
      · rw [if_pos hb] at hJ
        refine ite_t (dect hb) ?_
        have := h0 (by rw [hJ]; decide) H19 (k10.trans k19)
        rw [hJ] at this
        exact this
      · rw [if_neg hb] at hJ
        refine ite_f (decf hb) (h hJ b6 dl al ts us H19 (j6.keep k19) (fun hh => ?_) (fun x hx => ?_) (k10.trans k19))
        · obtain ⟨_, r1, r2, r3, r4, r5, r6⟩ := ht hh
          exact ⟨r1.kp k19, r2.kp k19, r3, r4, r5.keep k19, r6.keep k19⟩
        · rcases List.mem_cons.1 hx with rfl | hx
          · omega
          · have := fr1 x hx; omega
    · refine job_at j1' (.inl ⟨rfl, rfl⟩) ?_
      by_cases c1 : j.f < 0
      · exact ite_t (dect c1) (hJ20 _ _ ⟨rfl, (dect (.inl c1)).symm⟩)
      refine ite_f (decf c1) (job_at j1' (.inr ⟨rfl, rfl⟩) ?_)
      by_cases c2 : j.u < 0
      · exact ite_t (dect c2) (hJ20 _ _ ⟨rfl, (dect (.inr (.inl c2))).symm⟩)
      refine ite_f (decf c2) (job_at j1' (.inr ⟨rfl, rfl⟩) ?_)
      by_cases c3 : T < j.u
      · exact ite_t (dect c3) (hJ20 _ _ ⟨rfl, (dect (.inr (.inr (.inl c3)))).symm⟩)
      refine ite_f (decf c3) (job_at j1' (.inl ⟨rfl, rfl⟩) (job_at j1' (.inr ⟨rfl, rfl⟩) (hJ20 _ _ ⟨rfl, ?_⟩)))
      rw [w64 (by omega)]
      exact decide_eq_decide.2 ⟨fun q => .inr (.inr (.inr q)), fun q => by omega⟩
  refine job_parts q1 ?_
  refine Fix.intro (fun (x : Int) H' => ∃ (i : Nat) (dl al : Sl) (ts us : List Nat), x = (i : Int) ∧ i ≤ ps.length ∧ rdE j TV (ps.drop i) = rdE j TV ps ∧ Own H' 67 1 dl (ts.flatMap cPt) ∧ Own H' 67 1 al (us.flatMap cPt) ∧ ts.length = i ∧ us.length = i ∧ TbL H H' j TV ps (fun p => p.dc.toNat) ts (b6 :: (fp dl ++ fp al)) ∧ TbL H H' j TV ps (fun p => 4 + p.ac.toNat) us (b6 :: (fp dl ++ fp al)) ∧
      (∀ b ∈ fp dl ++ fp al, H6.size ≤ b) ∧ (∀ b ∈ fp dl, b ∉ fp al) ∧ Bk H' b1 32 j.cells ∧ Bk H' b6 70 (cDk j dl al) ∧ Keep H H' ∧ H6.size ≤ H'.size) (fun x _ => ps.length - x.toNat)
    ⟨0, ⟨none, 0, 0⟩, ⟨none, 0, 0⟩, [], [], rfl, by omega, rfl, Own.nil _ _ _, Own.nil _ _ _, rfl, rfl, fun i p t _ ht => by simp at ht, fun i p t _ ht => by simp at ht, by simp [fp], by simp [fp], q1, q6, k6, Nat.le_refl _⟩ ?_
  rintro _ H10 ⟨i, dl, al, ts, us, rfl, hi, hE, od, oa, htl, hul, td, ta, fr1, fr2, j1, j5, k10, y10⟩ rec hrec
  have J10 := J.keep k10
  have f3 : b6 ∉ fp dl ∧ b6 ∉ fp al ∧ b1 ∉ fp dl ∧ b1 ∉ fp al := by
    refine ⟨fun hh => ?_, fun hh => ?_, fun hh => ?_, fun hh => ?_⟩
    all_goals
      first
        | (have := fr1 _ (List.mem_append_left _ hh); omega)
        | (have := fr1 _ (List.mem_append_right _ hh); omega)
  by_cases hil : i < ps.length
  rotate_left
  · have hE0 : rdE j TV ps = 0 := by rw [← hE, List.drop_eq_nil_of_le (by omega)]; rfl
    exact ite_f (decf (by omega)) (hJ8 _ _ ⟨dl, al, ts, us, j1, j5, k10, y10, fr1, fun _ => ⟨hE0, od, oa, by omega, by omega, td.sub (by simp), ta.sub (by simp)⟩⟩)
  obtain ⟨p, hp⟩ : ∃ p, ps[i]? = some p := ⟨_, get_some hil⟩
  obtain ⟨pd, pa, ⟨x, hx⟩, ⟨y, hy⟩⟩ := part_tabs hP J hp
  obtain ⟨xv, xb, xc, xl⟩ := J10.sp _ x hx
  obtain ⟨yv, yb, yc, yl⟩ := J10.sp _ y hy
  have hdr : ps.drop i = p :: ps.drop (i + 1) := by
    obtain ⟨g1, g2⟩ := List.getElem?_eq_some_iff.1 hp
    rw [List.drop_eq_getElem_cons g1, g2]
  rw [hdr, rdE, tbl_at hx, tbl_at hy] at hE
  dsimp only at hE
  obtain ⟨b, o, ha, hA⟩ := J10.ht.get hp
  refine ite_t (dect (by omega)) (Join.intro (fun (_ : Unit) H' => ∃ (dl' al' : Sl) (ts' us' : List Nat), rdE j TV (ps.drop (i + 1)) = rdE j TV ps ∧ Own H' 67 1 dl' (ts'.flatMap cPt) ∧ Own H' 67 1 al' (us'.flatMap cPt) ∧ ts'.length = i + 1 ∧ us'.length = i + 1 ∧ TbL H H' j TV ps (fun p => p.dc.toNat) ts' (b6 :: (fp dl' ++ fp al')) ∧ TbL H H' j TV ps (fun p => 4 + p.ac.toNat) us' (b6 :: (fp dl' ++ fp al')) ∧
      (∀ b ∈ fp dl' ++ fp al', H6.size ≤ b) ∧ (∀ b ∈ fp dl', b ∉ fp al') ∧ Bk H' b1 32 j.cells ∧ Bk H' b6 70 (cDk j dl' al') ∧ Keep H H' ∧ H6.size ≤ H'.size) ?_ fun J13 hJ13 => ?_)
  · rintro ⟨⟩ H15 ⟨dl', al', ts', us', r1, r2, r3, r4, r5, r6, r7, r8, r9, r10, r11, r12, r13⟩
    rw [show (i : Int) + 1 = ((i + 1 : Nat) : Int) from by omega, w64n (by omega)]
    exact hrec _ _ ⟨i + 1, dl', al', ts', us', rfl, by omega, r1, r2, r3, r4, r5, r6, r7, r8, r9, r10, r11, r12, r13⟩ (by simp; omega)
  refine ⟨by omega, by omega, _, ha, ?_⟩
  rw [Int.toNat_natCast]
  refine ⟨_, _, _, hA, ?_⟩
  intro b24 H26 c26 g24 g24'
  have k26 : Keep H10 H26 := c26.keep (by simp)
  have y26 := k26.size
  have sp1 : ∀ {A : Hp}, Keep H10 A → ldA A ((⟨b1, 5, none⟩ : Addr).add (Int.toNat p.dc * 17)) (c29 x.1 x.2) := fun {A} kA => by rw [add_mk]; exact job_sp (j1.keep kA) hx
  have sp2 : ∀ {A : Hp}, Keep H10 A → ldA A ((⟨b1, 73, none⟩ : Addr).add (Int.toNat p.ac * 17)) (c29 y.1 y.2) := fun {A} kA => by
    rw [add_mk, show 73 + Int.toNat p.ac * 17 = 5 + (4 + Int.toNat p.ac) * 17 from by omega]
    exact job_sp (j1.keep kA) hy
  -- no tables
  cases tb with
  | false => exact ite_t rfl (hJ8 _ _ ⟨dl, al, ts, us, j1.keep k26, j5.keep k26, k10.trans k26, by omega, fr1, fun q => by cases q⟩)
  | true =>
  refine ite_f rfl ?_
  have none_ : ∀ {A : Hp} {er : Int}, Keep H10 A → rdE j TV ps = er → er ≠ 0 → Q (none, er) A := fun {A er} kA he hn0 => by
    rw [if_pos ⟨rfl, by rw [he]; exact hn0⟩, he] at hJ
    rw [← hJ]
    exact h0 (by rw [hJ]; exact hn0) A (k10.trans kA)
  refine ⟨pd.1, by omega, _, _, sp1 k26, New_ok4 xc (xv.keep k26) xb (by omega) (fun hz H33 k33 => ⟨Pv.keep k33 (by simp; omega), ite_t (bnet hz) (none_ (k26.trans k33) ?_ hz)⟩) fun hz t tv H33 T33 k33 ft => ⟨Pv.keep k33 (by simp; omega), ite_f rfl ?_⟩⟩
  · rw [if_pos hz] at hE; exact hE.symm
  rw [if_neg (by omega)] at hE
  have k33' := k26.trans k33
  have y33 := k33.size
  refine ⟨pa.1, by omega, _, _, sp2 k33', New_ok4 yc (yv.keep k33') yb (by omega) (fun hz2 H45 k45 => ite_t (bnet hz2) (none_ (k33'.trans k45) ?_ hz2)) fun hz2 t' tv' H45 T45 k45 ft' => ite_f rfl ?_⟩
  · rw [if_pos hz2] at hE; exact hE.symm
  rw [if_neg (by omega)] at hE
  have k45' := k33'.trans k45
  have y45 := k45.size
  have T33' := T33.keep k45
  have lT := T33.lts
  have lT' := T45.lts
  have od45 := od.kp k45'
  have oa45 := oa.kp k45'
  have ld := od.fp_lt
  have la := oa.fp_lt
  -- the second list is gone on with
  have second : ∀ {l62 : Sl} {B B' : Hp}, Own B 67 1 l62 ((ts ++ [t]).flatMap cPt) → Ch (fp dl) H45 B → (∀ b ∈ fp l62, b ∈ fp dl ∨ H45.size ≤ b) → Keep B B' → apS B' al 67 1 8 z67.cells 1 [.pointer (some ⟨t', 0, none⟩)] (fun l71 H72 => st H72 (⟨b6, 143, none⟩ : Addr) (.slice l62.a l62.n l62.c) (fun H73 => st H73 (⟨b6, 144, none⟩ : Addr) (.slice l71.a l71.n l71.c) (fun H74 => J13 () H74))) := fun {l62 B B'} oB cB fB kB => by
    have yB := cB.size
    have yB' := kB.size
    have ld62 := oB.fp_lt
    have oa' := (oa45.ch cB fun b hb hh => fr2 b hh hb).kp kB
    refine apS_list (f := cPt) (ys := [t']) oa' cPt_len cPt_ones rfl (by omega) rfl (by rw [hul]; simp; omega) (by omega) fun l71 H72 o72 c72 f72 => ?_
    have y72 := c72.size
    have cAll : Ch (fp dl ++ fp al) H45 H72 := ((cB.mono (G := fp dl ++ fp al) fun b hb => .inl (by simp [hb])).trans (kB.ch (F := [])) (by simp)).trans c72 fun b hb => .inl (by simp [hb])
    have nA : ∀ {z : Nat}, z ∉ fp dl → z ∉ fp al → z ∉ fp dl ++ fp al := fun {z} h1 h2 hh => (List.mem_append.1 hh).elim h1 h2
    refine st_i ((j5.keep k45').ch cAll (nA f3.1 f3.2.1)) (by rw [cDk_len]; omega) fun H73 b73 s73 => ?_
    rw [dk_set143 (dl' := l62)] at b73
    refine st_i b73 (by rw [cDk_len]; omega) fun H74 b74 s74 => ?_
    rw [dk_set144 (al' := l71)] at b74
    have y73 := s73.size
    have y74 := s74.size
    have cE : Ch (b6 :: (fp dl ++ fp al)) H45 H74 := ((cAll.mono (G := b6 :: (fp dl ++ fp al)) fun b hb => .inl (by simp [List.mem_append.1 hb])).trans s73.ch (by simp)).trans s74.ch (by simp)
    have fD : ∀ b ∈ fp l62, H6.size ≤ b ∧ b < B.size := fun b hb => ⟨(fB b hb).elim (fun q => fr1 b (by simp [q])) fun q => by omega, ld62 b hb⟩
    have fA : ∀ b ∈ fp l71, b ∈ fp al ∨ B'.size ≤ b := f72
    have dd : ∀ b ∈ fp l62, b ∉ fp l71 := fun b hb hh => by
      rcases fA b hh with q | q
      · rcases fB b hb with q' | q'
        · exact fr2 b q' q
        · have := la b q; have := k45'.size; omega
      · have := (fD b hb).2; omega
    have hX : ∀ {q : Nat}, q ∈ b6 :: (fp l62 ++ fp l71) → q ∈ b6 :: (fp dl ++ fp al) ∨ H45.size ≤ q := fun {q} hq => by
      rcases List.mem_cons.1 hq with rfl | hq
      · exact .inl (by simp)
      rcases List.mem_append.1 hq with hq | hq
      · exact (fB q hq).imp (fun h => by simp [h]) id
      · rcases fA q hq with r | r
        · exact .inl (by simp [r])
        · exact .inr (by omega)
    have tnew : ∀ {q qv : Nat} {sv : Sl}, (∀ b ∈ q :: fp sv, H10.size ≤ b ∧ b < H45.size) → ∀ b ∈ q :: fp sv, H.size ≤ b ∧ b < H45.size ∧ b ∉ b6 :: (fp dl ++ fp al) := fun {q qv sv} hq b hb => by
      have h1 := hq b hb
      have := k10.size
      refine ⟨by omega, h1.2, fun hh => ?_⟩
      rcases List.mem_cons.1 hh with rfl | hh
      · omega
      rcases List.mem_append.1 hh with hh | hh
      · have := ld b hh; omega
      · have := la b hh; omega
    have k2645 := k45'.size
    have td2 := ((td.keep k45').snoc (t := t) (p := p) (sv := tv) (by rw [htl]; exact hp) (by rw [tbl_at hx]; exact ⟨may4 hz, xb⟩) (by rw [tbl_at hx]; exact T33') (tnew (qv := 0) fun b hb => by have := ft b hb; have := lT b hb; omega))
    have ta2 := ((ta.keep k45').snoc (t := t') (p := p) (sv := tv') (by rw [hul]; exact hp) (by rw [tbl_at hy]; exact ⟨may4 hz2, yb⟩) (by rw [tbl_at hy]; exact T45) (tnew (qv := 0) fun b hb => by have := ft' b hb; have := lT' b hb; omega))
    have mv : ∀ {f : Pa → Nat} {zs : List Nat}, TbL H H45 j TV ps f zs (b6 :: (fp dl ++ fp al)) → TbL H H74 j TV ps f zs (b6 :: (fp l62 ++ fp l71)) := fun {f zs} tt =>
      ((tt.sub (X' := (b6 :: (fp dl ++ fp al)) ++ (b6 :: (fp l62 ++ fp l71))) fun b hb => (List.mem_append.1 hb).elim .inl hX).ch cE fun b hb => .inl (List.mem_append_left _ hb)).sub fun b hb => .inl (List.mem_append_right _ hb)
    have nS : ∀ {z : Nat} {sl : Sl}, z < H6.size → (∀ b ∈ fp sl, H6.size ≤ b) → ∀ b ∈ fp sl, b ∉ [z] := fun {z sl} hz hs b hb hh => by have := hs b hb; simp at hh; omega
    have fA6 : ∀ b ∈ fp l71, H6.size ≤ b := fun b hb => (fA b hb).elim (fun q => fr1 b (by simp [q])) fun q => by omega
    refine hJ13 _ _ ⟨l62, l71, ts ++ [t], us ++ [t'], hE, ?_, ?_, by simp [htl], by simp [hul], mv td2, mv ta2, fun b hb => ?_, dd, ?_, b74, ?_, by omega⟩
    · exact (((oB.kp kB).ch c72 (fun b hb hh => by
        rcases fB b hb with q | q
        · exact fr2 b q hh
        · have := la b hh; omega)).ch s73.ch (nS (by omega) fun b hb => (fD b hb).1)).ch s74.ch (nS (by omega) fun b hb => (fD b hb).1)
    · exact (o72.ch s73.ch (nS (by omega) fA6)).ch s74.ch (nS (by omega) fA6)
    · rcases List.mem_append.1 hb with q | q
      · exact (fD b q).1
      · exact fA6 b q
    · refine (j1.keep k45').ch cE fun hh => ?_
      rcases List.mem_cons.1 hh with q | hh
      · omega
      exact nA f3.2.2.1 f3.2.2.2 hh
    · refine ((k10.trans k45').ch (F := [])).trans cE (fun b hb => .inr ?_) |>.keep (by simp)
      rcases List.mem_cons.1 hb with rfl | hb
      · omega
      have := fr1 b hb; omega
  have first : ∀ {A : Hp} {K : Sl → Hp → Prop}, Keep H45 A → (∀ l62 B, Own B 67 1 l62 ((ts ++ [t]).flatMap cPt) → Ch (fp dl) H45 B → Ch (fp dl) A B → (∀ b ∈ fp l62, b ∈ fp dl ∨ H45.size ≤ b) → K l62 B) → apS A dl 67 1 8 z67.cells 1 [.pointer (some ⟨t, 0, none⟩)] K := fun {A K} kA hK => by
    have yA := kA.size
    refine apS_list (f := cPt) (ys := [t]) (od45.kp kA) cPt_len cPt_ones rfl (by omega) rfl (by rw [htl]; simp; omega) (by omega) fun l62 B oB cB fB => hK l62 B oB ((kA.ch (F := fp dl)).trans cB fun b hb => .inl hb) cB fun b hb => (fB b hb).imp id fun q => by omega
  have c5 : ∀ {A : Hp}, Keep H45 A → cellAt A (⟨b6, 144, none⟩ : Addr) = some (.slice al.a al.n al.c) ∧ cellAt A (⟨b6, 143, none⟩ : Addr) = some (.slice dl.a dl.n dl.c) := fun {A} kA => by
    have := (j5.keep k45').keep kA
    exact ⟨by rw [this.cell]; exact dk_144, by rw [this.cell]; exact dk_143⟩
  have c51 : ∀ {A : Hp}, Ch (fp dl) H45 A → cellAt A (⟨b6, 144, none⟩ : Addr) = some (.slice al.a al.n al.c) := fun {A} cA => by
    rw [((j5.keep k45').ch cA f3.1).cell]; exact dk_144
  refine ldL_i (j5.keep k45') dk_143 (ldL_i (j5.keep k45') dk_144 ⟨nw_i fun H56 b56 k56 z56 => ⟨(c5 k56).1, (c5 k56).2, first k56 fun l62 B oB cB cB' fB => ⟨c51 cB, nw_i fun H66 b66 k66 z66 => ⟨c51 (cB.trans (k66.ch (F := [])) (by simp)), second oB cB fB k66⟩⟩, nw_i fun H76 b76 k76 z76 => ⟨(c5 (k56.trans k76)).1, (c5 (k56.trans k76)).2, _, rfl, rd_ptr (b56.keep k76), first (k56.trans k76) fun l82 B oB cB cB' fB => ⟨c51 cB, _, rfl, rd_ptr (b76.ch cB' fun hh => ?_), second oB cB fB (Keep.refl _)⟩⟩⟩, nw_i fun H97 b97 k97 z97 => ⟨(c5 k97).1, (c5 k97).2, nw_i fun H103 b103 k103 z103 => ⟨(c5 (k97.trans k103)).1, (c5 (k97.trans k103)).2, first (k97.trans k103) fun l109 B oB cB cB' fB => ⟨c51 cB, _, rfl, rd_ptr ((b97.keep k103).ch cB' fun hh => ?_), second oB cB fB (Keep.refl _)⟩⟩⟩⟩)
  · have := ld _ hh; have := k45'.size; omega
  · have := ld _ hh; have := k45'.size; omega
end
end Go.Proofs.Ytmnoecpnoofdjaa.G
