/- Of this text what the row needs. -/
import Derived.Test.YtlfdfikgbdgfdaaQSpanBackZ17
import Derived.Test.YtlfdfikgbdgfdaaQSpanBackZW
namespace Go.Proofs.Ytlfdfikgbdgfdaa.G
open Go.RowKit
set_option linter.unusedVariables false
set_option linter.unusedSimpArgs false
set_option maxRecDepth 20000
structure Jb where
  g : Int
  w : Int
  h : Int
  s : Sl
  t : Sl
  d0 : Cn × Sl
  d1 : Cn × Sl
  d2 : Cn × Sl
  d3 : Cn × Sl
  a0 : Cn × Sl
  a1 : Cn × Sl
  a2 : Cn × Sl
  a3 : Cn × Sl
  f : Int
  u : Int
def Jb.sp (j : Jb) : List (Cn × Sl) := [j.d0, j.d1, j.d2, j.d3, j.a0, j.a1, j.a2, j.a3]
def cSc (x : Cn × Sl) : List Value := c29 x.1 x.2
theorem cSc_len (x : Cn × Sl) : (cSc x).length = 17 := by show (ints .u8 x.1.1 ++ [Value.slice x.2.a x.2.n x.2.c]).length = 17; rw [List.length_append, ints_length, x.1.2]; rfl
abbrev Jb.cells (j : Jb) : List Value := c32 j.g j.w j.h j.s j.t j.d0.1 j.d0.2 j.d1.1 j.d1.2 j.d2.1 j.d2.2 j.d3.1 j.d3.2 j.a0.1 j.a0.2 j.a1.1 j.a1.2 j.a2.1 j.a2.2 j.a3.1 j.a3.2 j.f j.u
theorem Jb.cells_eq (j : Jb) : j.cells = [.int .u8 j.g, .int .i64 j.w, .int .i64 j.h, .slice j.s.a j.s.n j.s.c, .slice j.t.a j.t.n j.t.c] ++ (j.sp.flatMap cSc ++ [.int .i64 j.f, .int .i64 j.u]) := by
  unfold Jb.cells Jb.sp cSc
  simp only [List.flatMap_cons, List.flatMap_nil, List.append_assoc, List.nil_append, List.cons_append]
theorem job_sp {H : Hp} {b : Nat} {T : TypeId} {j : Jb} (hb : Bk H b T j.cells) {k : Nat} {x : Cn × Sl} (hx : j.sp[k]? = some x) : ldA H (⟨b, 5 + k * 17, none⟩ : Addr) (c29 x.1 x.2) := by
  refine ldA_i hb fun i v hv => ?_
  have h1 := fm_at (f := cSc) cSc_len j.sp k x hx i v hv
  have h2 := (List.getElem?_eq_some_iff.1 h1).1
  rw [Jb.cells_eq, List.getElem?_append_right (by simp only [List.length_cons, List.length_nil]; omega)]
  rw [show 5 + k * 17 + i - ([Value.int .u8 j.g, .int .i64 j.w, .int .i64 j.h, .slice j.s.a j.s.n j.s.c, .slice j.t.a j.t.n j.t.c] : List Value).length = k * 17 + i from by simp only [List.length_cons, List.length_nil]; omega]
  rw [List.getElem?_append_left h2]
  exact h1
theorem job_at {H : Hp} {b o : Nat} {T : TypeId} {j : Jb} {K : Int → Prop} (hb : Bk H b T j.cells) {v : Int} (ho : (o = 141 ∧ v = j.f) ∨ (o = 142 ∧ v = j.u)) (hK : K v) : ldI .i64 H (⟨b, o, none⟩ : Addr) K := by
  refine ldI_i hb ?_ hK
  have hl : (j.sp.flatMap cSc).length = 136 := by rw [fm_len cSc_len]; rfl
  rw [Jb.cells_eq]
  rcases ho with ⟨rfl, rfl⟩ | ⟨rfl, rfl⟩
  · rw [List.getElem?_append_right (by simp), List.getElem?_append_right (by simp [hl]), hl]; rfl
  · rw [List.getElem?_append_right (by simp), List.getElem?_append_right (by simp [hl]), hl]; rfl
theorem job_parts {H : Hp} {b : Nat} {T : TypeId} {j : Jb} {K : Sl → Prop} (hb : Bk H b T j.cells) (hK : K j.t) : ldL H (⟨b, 4, none⟩ : Addr) K := ldL_i hb rfl hK
theorem job_frame {H : Hp} {b : Nat} {T : TypeId} {j : Jb} (hb : Bk H b T j.cells) : ldA H (⟨b, 0, none⟩ : Addr) (c24 j.g j.w j.h j.s) := by
  refine ldA_i hb fun i v hv => ?_
  have hi : i < 4 := (List.getElem?_eq_some_iff.1 hv).1
  rw [Nat.zero_add]
  match i, hi, hv with
  | 0, _, hv => exact hv
  | 1, _, hv => exact hv
  | 2, _, hv => exact hv
  | 3, _, hv => exact hv
structure JV (H : Hp) (j : Jb) (cs : List Cp) (ps : List Pa) (TV : Nat → List Nat) : Prop where
  hs : Cs H j.s cs
  ht : Ps H j.t ps
  hok : ∀ c ∈ cs, c.ok
  hpk : ∀ p ∈ ps, p.ok
  hl : cs.length * 4 ≤ 140737488355328
  hm : ps.length * 16 ≤ 140737488355328
  sp : ∀ (k : Nat) (x : Cn × Sl), j.sp[k]? = some x → SlV H x.2 1 cB (TV k) ∧ (∀ v ∈ TV k, v < 256) ∧ cOk x.1 ∧ (TV k).length ≤ 140737488351232
  hf : -9223372036854775808 ≤ j.f ∧ j.f ≤ 9223372036854775807
  hu : -9223372036854775808 ≤ j.u ∧ j.u ≤ 9223372036854775807
theorem JV.keep {H H' : Hp} {j : Jb} {cs : List Cp} {ps : List Pa} {TV : Nat → List Nat} (a : JV H j cs ps TV) (k : Keep H H') : JV H' j cs ps TV :=
  ⟨a.hs.keep k, a.ht.keep k, a.hok, a.hpk, a.hl, a.hm, fun i x hx => ⟨(a.sp i x hx).1.keep k, (a.sp i x hx).2⟩, a.hf, a.hu⟩
def tbl (j : Jb) (TV : Nat → List Nat) (k : Nat) : TB := (((j.sp[k]?).map (·.1)).getD (zInts 16), TV k)
theorem tbl_at {j : Jb} {TV : Nat → List Nat} {k : Nat} {x : Cn × Sl} (h : j.sp[k]? = some x) : tbl j TV k = (x.1, TV k) := by unfold tbl; rw [h]; rfl
noncomputable def rdE (j : Jb) (TV : Nat → List Nat) : List Pa → Int
  | [] => 0
  | p :: r => if Chk4 (tbl j TV p.dc.toNat).1 (tbl j TV p.dc.toNat).2 ≠ 0 then Chk4 (tbl j TV p.dc.toNat).1 (tbl j TV p.dc.toNat).2 else
    if Chk4 (tbl j TV (4 + p.ac.toNat)).1 (tbl j TV (4 + p.ac.toNat)).2 ≠ 0 then Chk4 (tbl j TV (4 + p.ac.toNat)).1 (tbl j TV (4 + p.ac.toNat)).2 else rdE j TV r
open Classical in
noncomputable def jChk (j : Jb) (cs : List Cp) (ps : List Pa) (TV : Nat → List Nat) : Int :=
  if Prt j.w j.h cs ps ≠ 0 then Prt j.w j.h cs ps else if rdE j TV ps ≠ 0 then rdE j TV ps else
  if j.f < 0 ∨ j.u < 0 ∨ (Uni j.w j.h cs ps).1 * (Uni j.w j.h cs ps).2 < j.f ∨ (Uni j.w j.h cs ps).1 * (Uni j.w j.h cs ps).2 - j.f < j.u then 3 else 0
abbrev cPt (t : Nat) : List Value := [.pointer (some ⟨t, 0, none⟩)]
theorem cPt_len (t : Nat) : (cPt t).length = 1 := rfl
theorem cPt_ones (t : Nat) : ∀ u ∈ cPt t, u.oneCell' = true := ones_cons rfl ones_nil
def TbL (H0 H : Hp) (j : Jb) (TV : Nat → List Nat) (ps : List Pa) (f : Pa → Nat) (ts X : List Nat) : Prop :=
  ∀ (i : Nat) (p : Pa) (t : Nat), ps[i]? = some p → ts[i]? = some t → TbOk (tbl j TV (f p)) ∧ ∃ sv, Tab H t sv (tbl j TV (f p)).1 (tbl j TV (f p)).2 ∧ ∀ b ∈ t :: fp sv, H0.size ≤ b ∧ b < H.size ∧ b ∉ X
theorem TbL.ch {H0 H H' : Hp} {j : Jb} {TV : Nat → List Nat} {ps : List Pa} {f : Pa → Nat} {ts X F : List Nat} (a : TbL H0 H j TV ps f ts X) (c : Ch F H H') (hF : ∀ b ∈ F, b ∈ X ∨ H.size ≤ b ∨ b < H0.size) : TbL H0 H' j TV ps f ts X := fun i p t hp ht => by
  obtain ⟨h0, sv, h1, h2⟩ := a i p t hp ht
  exact ⟨h0, sv, h1.ch c fun b hb hh => by
    obtain ⟨q1, q2, q3⟩ := h2 b hb
    rcases hF b hh with q | q | q
    · exact q3 q
    · omega
    · omega, fun b hb => ⟨(h2 b hb).1, by have := (h2 b hb).2.1; have := c.size; omega, (h2 b hb).2.2⟩⟩
theorem TbL.keep {H0 H H' : Hp} {j : Jb} {TV : Nat → List Nat} {ps : List Pa} {f : Pa → Nat} {ts X : List Nat} (a : TbL H0 H j TV ps f ts X) (k : Keep H H') : TbL H0 H' j TV ps f ts X := a.ch (k.ch (F := [])) (by simp)
theorem TbL.sub {H0 H : Hp} {j : Jb} {TV : Nat → List Nat} {ps : List Pa} {f : Pa → Nat} {ts X X' : List Nat} (a : TbL H0 H j TV ps f ts X) (h : ∀ b ∈ X', b ∈ X ∨ H.size ≤ b) : TbL H0 H j TV ps f ts X' := fun i p t hp ht => by
  obtain ⟨h0, sv, h1, h2⟩ := a i p t hp ht
  exact ⟨h0, sv, h1, fun b hb => ⟨(h2 b hb).1, (h2 b hb).2.1, fun hh => (h b hh).elim (h2 b hb).2.2 fun q => by have := (h2 b hb).2.1; omega⟩⟩
theorem TbL.snoc {H0 H : Hp} {j : Jb} {TV : Nat → List Nat} {ps : List Pa} {f : Pa → Nat} {ts X : List Nat} {t : Nat} {p : Pa} {sv : Sl} (a : TbL H0 H j TV ps f ts X) (hp : ps[ts.length]? = some p) (ho : TbOk (tbl j TV (f p))) (h1 : Tab H t sv (tbl j TV (f p)).1 (tbl j TV (f p)).2) (h2 : ∀ b ∈ t :: fp sv, H0.size ≤ b ∧ b < H.size ∧ b ∉ X) : TbL H0 H j TV ps f (ts ++ [t]) X := fun i q u hq hu => by
  by_cases hi : i < ts.length
  · rw [List.getElem?_append_left hi] at hu
    exact a i q u hq hu
  · rw [List.getElem?_append_right (by omega)] at hu
    have hl := (List.getElem?_eq_some_iff.1 hu).1
    simp at hl
    obtain rfl : i = ts.length := by omega
    rw [Nat.sub_self] at hu
    simp at hu
    subst hu
    rw [hp] at hq
    obtain rfl : p = q := Option.some.inj hq
    exact ⟨ho, sv, h1, h2⟩
theorem rd_ptr {H : Hp} {b : Nat} {T : TypeId} {v : Option Addr} (h : Bk H b T [.pointer v]) : rdS H (some ⟨b, 0, none⟩) [.pointer v] :=
  ⟨ones_cons rfl ones_nil, fun i w hw => ⟨_, rfl, by
    have hi := (List.getElem?_eq_some_iff.1 hw).1
    simp at hi
    subst hi
    rw [add_mk, h.cell]
    exact hw⟩⟩
section
variable {H : Hp} {j : Jb} {cs : List Cp} {ps : List Pa} {TV : Nat → List Nat}
theorem part_tabs (hP : Prt j.w j.h cs ps = 0) (J : JV H j cs ps TV) {i : Nat} {p : Pa} (hp : ps[i]? = some p) : (0 ≤ p.dc ∧ p.dc ≤ 3) ∧ (0 ≤ p.ac ∧ p.ac ≤ 3) ∧ (∃ x, j.sp[p.dc.toNat]? = some x) ∧ ∃ x, j.sp[4 + p.ac.toNat]? = some x := by
  obtain ⟨hC, fr, hL, hB, hU⟩ := prt_fr hP
  have : ¬ PtBad cs ps i p := fun hh => hB ⟨i, _, hp, hh⟩
  unfold PtBad at this
  have ok := J.hpk p (List.mem_of_getElem? hp)
  obtain ⟨_, o1, o2⟩ := ok
  have hl : j.sp.length = 8 := rfl
  exact ⟨by omega, by omega, ⟨_, List.getElem?_eq_getElem (by omega)⟩, ⟨_, List.getElem?_eq_getElem (by omega)⟩⟩
set_option maxHeartbeats 1000000 in
theorem ready_ok {Q : Sl × Sl × Int → Hp → Prop} (J : JV H j cs ps TV) (hP : Prt j.w j.h cs ps = 0)
    (h0 : rdE j TV ps ≠ 0 → ∀ H', Keep H H' → Q (⟨none, 0, 0⟩, ⟨none, 0, 0⟩, rdE j TV ps) H')
    (h : rdE j TV ps = 0 → ∀ dl al ts us H', Own H' 76 1 dl (ts.flatMap cPt) → Own H' 76 1 al (us.flatMap cPt) → ts.length = ps.length → us.length = ps.length → TbL H H' j TV ps (fun p => p.dc.toNat) ts [] → TbL H H' j TV ps (fun p => 4 + p.ac.toNat) us [] → (∀ b ∈ fp dl ++ fp al, H.size ≤ b) → Keep H H' → Q (dl, al, 0) H') :
    span_ready.s j.g j.w j.h j.s j.t j.d0.1 j.d0.2 j.d1.1 j.d1.2 j.d2.1 j.d2.2 j.d3.1 j.d3.2 j.a0.1 j.a0.2 j.a1.1 j.a1.2 j.a2.1 j.a2.2 j.a3.1 j.a3.2 j.f j.u H Q := by
  obtain ⟨hC, fr, hL, hBd, hU⟩ := prt_fr hP
  have hn := J.ht.n
  unfold span_ready.s
  intro b1 H2 c2 g1 g1' b3 H4 c4 g3 g3' b5 H6 c6 g5 g5' q3 q5 q1
  have k6 : Keep H H6 := ((c2.keep (by simp)).trans (c4.keep (by simp))).trans (c6.keep (by simp))
  have y2 := c2.size
  have y4 := c4.size
  have y6 := c6.size
  refine Fix.intro (fun (x : Int) H' => ∃ (i : Nat) (dl al : Sl) (ts us : List Nat), x = (i : Int) ∧ i ≤ ps.length ∧ rdE j TV (ps.drop i) = rdE j TV ps ∧ Own H' 76 1 dl (ts.flatMap cPt) ∧ Own H' 76 1 al (us.flatMap cPt) ∧ ts.length = i ∧ us.length = i ∧ TbL H H' j TV ps (fun p => p.dc.toNat) ts (b3 :: b5 :: (fp dl ++ fp al)) ∧ TbL H H' j TV ps (fun p => 4 + p.ac.toNat) us (b3 :: b5 :: (fp dl ++ fp al)) ∧
      (∀ b ∈ fp dl ++ fp al, H6.size ≤ b) ∧ (∀ b ∈ fp dl, b ∉ fp al) ∧ Bk H' b1 32 j.cells ∧ Bk H' b3 61 (c61 ⟨none, 0, 0⟩ ⟨none, 0, 0⟩) ∧ Bk H' b5 61 (c61 dl al) ∧ Keep H H' ∧ H6.size ≤ H'.size) (fun x _ => ps.length - x.toNat)
    ⟨0, ⟨none, 0, 0⟩, ⟨none, 0, 0⟩, [], [], rfl, by omega, rfl, Own.nil _ _ _, Own.nil _ _ _, rfl, rfl, fun i p t _ ht => by simp at ht, fun i p t _ ht => by simp at ht, by simp [fp], by simp [fp], q1, q3, q5, k6, Nat.le_refl _⟩ ?_
  rintro _ H10 ⟨i, dl, al, ts, us, rfl, hi, hE, od, oa, htl, hul, td, ta, fr1, fr2, j1, j3, j5, k10, y10⟩ rec hrec
  have J10 := J.keep k10
  have f3 : b3 ∉ fp dl ∧ b3 ∉ fp al ∧ b5 ∉ fp dl ∧ b5 ∉ fp al ∧ b1 ∉ fp dl ∧ b1 ∉ fp al := by
    refine ⟨fun hh => ?_, fun hh => ?_, fun hh => ?_, fun hh => ?_, fun hh => ?_, fun hh => ?_⟩
    all_goals
      first
        | (have := fr1 _ (List.mem_append_left _ hh); omega)
        | (have := fr1 _ (List.mem_append_right _ hh); omega)
  by_cases hil : i < ps.length
  rotate_left
  · have hE0 : rdE j TV ps = 0 := by rw [← hE, List.drop_eq_nil_of_le (by omega)]; rfl
    exact ite_f (decf (by omega)) ⟨_, _, ldA_full j5, stA_full j3 rfl fun H123 b123 s123 => ⟨_, _, ldA_full b123, h hE0 dl al ts us H123 (od.ch s123.ch (fun b hb hh => by simp at hh; subst hh; exact f3.1 hb)) (oa.ch s123.ch (fun b hb hh => by simp at hh; subst hh; exact f3.2.1 hb)) (by omega) (by omega) ((td.ch s123.ch (by simp)).sub (by simp)) ((ta.ch s123.ch (by simp)).sub (by simp)) (fun b hb => by have := fr1 b hb; omega) (k10.same s123 (by omega))⟩⟩
  obtain ⟨p, hp⟩ : ∃ p, ps[i]? = some p := ⟨_, get_some hil⟩
  obtain ⟨pd, pa, ⟨x, hx⟩, ⟨y, hy⟩⟩ := part_tabs hP J hp
  obtain ⟨xv, xb, xc, xl⟩ := J10.sp _ x hx
  obtain ⟨yv, yb, yc, yl⟩ := J10.sp _ y hy
  have hdr : ps.drop i = p :: ps.drop (i + 1) := by
    obtain ⟨g1, g2⟩ := List.getElem?_eq_some_iff.1 hp
    rw [List.drop_eq_getElem_cons g1, g2]
  rw [hdr, rdE, tbl_at hx, tbl_at hy] at hE
  dsimp only at hE
  obtain ⟨b, o, ha, hA⟩ := J10.ht.get hp
  refine ite_t (dect (by omega)) (Join.intro (fun (_ : Unit) H' => ∃ (dl' al' : Sl) (ts' us' : List Nat), rdE j TV (ps.drop (i + 1)) = rdE j TV ps ∧ Own H' 76 1 dl' (ts'.flatMap cPt) ∧ Own H' 76 1 al' (us'.flatMap cPt) ∧ ts'.length = i + 1 ∧ us'.length = i + 1 ∧ TbL H H' j TV ps (fun p => p.dc.toNat) ts' (b3 :: b5 :: (fp dl' ++ fp al')) ∧ TbL H H' j TV ps (fun p => 4 + p.ac.toNat) us' (b3 :: b5 :: (fp dl' ++ fp al')) ∧
      (∀ b ∈ fp dl' ++ fp al', H6.size ≤ b) ∧ (∀ b ∈ fp dl', b ∉ fp al') ∧ Bk H' b1 32 j.cells ∧ Bk H' b3 61 (c61 ⟨none, 0, 0⟩ ⟨none, 0, 0⟩) ∧ Bk H' b5 61 (c61 dl' al') ∧ Keep H H' ∧ H6.size ≤ H'.size) ?_ fun J13 hJ13 => ?_)
  · rintro ⟨⟩ H15 ⟨dl', al', ts', us', r1, r2, r3, r4, r5, r6, r7, r8, r9, r10, r11, r12, r13, r14⟩
    rw [show (i : Int) + 1 = ((i + 1 : Nat) : Int) from by omega, w64n (by omega)]
    exact hrec _ _ ⟨i + 1, dl', al', ts', us', rfl, by omega, r1, r2, r3, r4, r5, r6, r7, r8, r9, r10, r11, r12, r13, r14⟩ (by simp; omega)
  refine ⟨by omega, by omega, _, ha, ?_⟩
  rw [Int.toNat_natCast]
  refine ⟨_, _, _, hA, ?_⟩
  intro b24 H26 c26 g24 g24'
  have k26 : Keep H10 H26 := c26.keep (by simp)
  have y26 := k26.size
  have sp1 : ∀ {A : Hp}, Keep H10 A → ldA A ((⟨b1, 5, none⟩ : Addr).add (Int.toNat p.dc * 17)) (c29 x.1 x.2) := fun {A} kA => by rw [add_mk]; exact job_sp (j1.keep kA) hx
  have sp2 : ∀ {A : Hp}, Keep H10 A → ldA A ((⟨b1, 73, none⟩ : Addr).add (Int.toNat p.ac * 17)) (c29 y.1 y.2) := fun {A} kA => by
    rw [add_mk, show 73 + Int.toNat p.ac * 17 = 5 + (4 + Int.toNat p.ac) * 17 from by omega]
    exact job_sp (j1.keep kA) hy
  -- no tables
  have none_ : ∀ {A : Hp} {er : Int}, Keep H10 A → rdE j TV ps = er → er ≠ 0 → stA A (⟨b3, 0, none⟩ : Addr) (c61 ⟨none, 0, 0⟩ ⟨none, 0, 0⟩) (fun H35 => ∃ x37 : Sl, ∃ x38 : Sl, ldA H35 (⟨b3, 0, none⟩ : Addr) (c61 x37 x38) ∧ (Q (x37, x38, er) H35)) := fun {A er} kA he hn0 =>
    stA_full (j3.keep kA) rfl fun H35 b35 s35 => ⟨_, _, ldA_full b35, by rw [← he]; exact h0 (by rw [he]; exact hn0) H35 ((k10.trans kA).same s35 (by omega))⟩
  refine ⟨pd.1, by omega, _, _, sp1 k26, New_ok4 xc (xv.keep k26) xb (by omega) (fun hz H33 k33 => ⟨Pv.keep k33 (by simp; omega), ite_t (bnet hz) (none_ (k26.trans k33) ?_ hz)⟩) fun hz t tv H33 T33 k33 ft => ⟨Pv.keep k33 (by simp; omega), ite_f rfl ?_⟩⟩
  · rw [if_pos hz] at hE; exact hE.symm
  rw [if_neg (by omega)] at hE
  have k33' := k26.trans k33
  have y33 := k33.size
  refine ⟨pa.1, by omega, _, _, sp2 k33', New_ok4 yc (yv.keep k33') yb (by omega) (fun hz2 H45 k45 => ite_t (bnet hz2) (none_ (k33'.trans k45) ?_ hz2)) fun hz2 t' tv' H45 T45 k45 ft' => ite_f rfl ?_⟩
  · rw [if_pos hz2] at hE; exact hE.symm
  rw [if_neg (by omega)] at hE
  have k45' := k33'.trans k45
  have y45 := k45.size
  have T33' := T33.keep k45
  have lT := T33.lts
  have lT' := T45.lts
  have od45 := od.kp k45'
  have oa45 := oa.kp k45'
  have ld := od.fp_lt
  have la := oa.fp_lt
  -- the second list is gone on with
  have second : ∀ {l62 : Sl} {B B' : Hp}, Own B 76 1 l62 ((ts ++ [t]).flatMap cPt) → Ch (fp dl) H45 B → (∀ b ∈ fp l62, b ∈ fp dl ∨ H45.size ≤ b) → Keep B B' → apS B' al 76 1 8 z76.cells 1 [.pointer (some ⟨t', 0, none⟩)] (fun l71 H72 => st H72 (⟨b5, 0, none⟩ : Addr) (.slice l62.a l62.n l62.c) (fun H73 => st H73 (⟨b5, 1, none⟩ : Addr) (.slice l71.a l71.n l71.c) (fun H74 => J13 () H74))) := fun {l62 B B'} oB cB fB kB => by
    have yB := cB.size
    have yB' := kB.size
    have ld62 := oB.fp_lt
    have oa' := (oa45.ch cB fun b hb hh => fr2 b hh hb).kp kB
    refine apS_list (f := cPt) (ys := [t']) oa' cPt_len cPt_ones rfl (by omega) rfl (by rw [hul]; simp; omega) (by omega) fun l71 H72 o72 c72 f72 => ?_
    have y72 := c72.size
    have cAll : Ch (fp dl ++ fp al) H45 H72 := ((cB.mono (G := fp dl ++ fp al) fun b hb => .inl (by simp [hb])).trans (kB.ch (F := [])) (by simp)).trans c72 fun b hb => .inl (by simp [hb])
    have nA : ∀ {z : Nat}, z ∉ fp dl → z ∉ fp al → z ∉ fp dl ++ fp al := fun {z} h1 h2 hh => (List.mem_append.1 hh).elim h1 h2
    refine st_i ((j5.keep k45').ch cAll (nA f3.2.2.1 f3.2.2.2.1)) (by show 0 < 2; omega) fun H73 b73 s73 => st_i b73 (by show 1 < 2; omega) fun H74 b74 s74 => ?_
    have y73 := s73.size
    have y74 := s74.size
    have cE : Ch (b3 :: b5 :: (fp dl ++ fp al)) H45 H74 := ((cAll.mono (G := b3 :: b5 :: (fp dl ++ fp al)) fun b hb => .inl (by simp [List.mem_append.1 hb])).trans s73.ch (by simp)).trans s74.ch (by simp)
    have fD : ∀ b ∈ fp l62, H6.size ≤ b ∧ b < B.size := fun b hb => ⟨(fB b hb).elim (fun q => fr1 b (by simp [q])) fun q => by omega, ld62 b hb⟩
    have fA : ∀ b ∈ fp l71, b ∈ fp al ∨ B'.size ≤ b := f72
    have dd : ∀ b ∈ fp l62, b ∉ fp l71 := fun b hb hh => by
      rcases fA b hh with q | q
      · rcases fB b hb with q' | q'
        · exact fr2 b q' q
        · have := la b q; have := k45'.size; omega
      · have := (fD b hb).2; omega
    have hX : ∀ {q : Nat}, q ∈ b3 :: b5 :: (fp l62 ++ fp l71) → q ∈ b3 :: b5 :: (fp dl ++ fp al) ∨ H45.size ≤ q := fun {q} hq => by
      rcases List.mem_cons.1 hq with rfl | hq
      · exact .inl (by simp)
      rcases List.mem_cons.1 hq with rfl | hq
      · exact .inl (by simp)
      rcases List.mem_append.1 hq with hq | hq
      · exact (fB q hq).imp (fun h => by simp [h]) id
      · rcases fA q hq with r | r
        · exact .inl (by simp [r])
        · exact .inr (by omega)
    have tnew : ∀ {q qv : Nat} {sv : Sl}, (∀ b ∈ q :: fp sv, H10.size ≤ b ∧ b < H45.size) → ∀ b ∈ q :: fp sv, H.size ≤ b ∧ b < H45.size ∧ b ∉ b3 :: b5 :: (fp dl ++ fp al) := fun {q qv sv} hq b hb => by
      have h1 := hq b hb
      have := k10.size
      refine ⟨by omega, h1.2, fun hh => ?_⟩
      rcases List.mem_cons.1 hh with rfl | hh
      · omega
      rcases List.mem_cons.1 hh with rfl | hh
      · omega
      rcases List.mem_append.1 hh with hh | hh
      · have := ld b hh; omega
      · have := la b hh; omega
    have k2645 := k45'.size
    have td2 := ((td.keep k45').snoc (t := t) (p := p) (sv := tv) (by rw [htl]; exact hp) (by rw [tbl_at hx]; exact ⟨may4 hz, xb⟩) (by rw [tbl_at hx]; exact T33') (tnew (qv := 0) fun b hb => by have := ft b hb; have := lT b hb; omega))
    have ta2 := ((ta.keep k45').snoc (t := t') (p := p) (sv := tv') (by rw [hul]; exact hp) (by rw [tbl_at hy]; exact ⟨may4 hz2, yb⟩) (by rw [tbl_at hy]; exact T45) (tnew (qv := 0) fun b hb => by have := ft' b hb; have := lT' b hb; omega))
    have mv : ∀ {f : Pa → Nat} {zs : List Nat}, TbL H H45 j TV ps f zs (b3 :: b5 :: (fp dl ++ fp al)) → TbL H H74 j TV ps f zs (b3 :: b5 :: (fp l62 ++ fp l71)) := fun {f zs} tt =>
      ((tt.sub (X' := (b3 :: b5 :: (fp dl ++ fp al)) ++ (b3 :: b5 :: (fp l62 ++ fp l71))) fun b hb => (List.mem_append.1 hb).elim .inl hX).ch cE fun b hb => .inl (List.mem_append_left _ hb)).sub fun b hb => .inl (List.mem_append_right _ hb)
    have nS : ∀ {z : Nat} {sl : Sl}, z < H6.size → (∀ b ∈ fp sl, H6.size ≤ b) → ∀ b ∈ fp sl, b ∉ [z] := fun {z sl} hz hs b hb hh => by have := hs b hb; simp at hh; omega
    have fA6 : ∀ b ∈ fp l71, H6.size ≤ b := fun b hb => (fA b hb).elim (fun q => fr1 b (by simp [q])) fun q => by omega
    refine hJ13 _ _ ⟨l62, l71, ts ++ [t], us ++ [t'], hE, ?_, ?_, by simp [htl], by simp [hul], mv td2, mv ta2, fun b hb => ?_, dd, ?_, ?_, b74, ?_, by omega⟩
    · exact (((oB.kp kB).ch c72 (fun b hb hh => by
        rcases fB b hb with q | q
        · exact fr2 b q hh
        · have := la b hh; omega)).ch s73.ch (nS (by omega) fun b hb => (fD b hb).1)).ch s74.ch (nS (by omega) fun b hb => (fD b hb).1)
    · exact (o72.ch s73.ch (nS (by omega) fA6)).ch s74.ch (nS (by omega) fA6)
    · rcases List.mem_append.1 hb with q | q
      · exact (fD b q).1
      · exact fA6 b q
    · refine (j1.keep k45').ch cE fun hh => ?_
      rcases List.mem_cons.1 hh with q | hh
      · omega
      rcases List.mem_cons.1 hh with q | hh
      · omega
      exact nA f3.2.2.2.2.1 f3.2.2.2.2.2 hh
    · exact ((((j3.keep k45').ch cAll (nA f3.1 f3.2.1)).same s73 (by omega)).same s74 (by omega))
    · refine ((k10.trans k45').ch (F := [])).trans cE (fun b hb => .inr ?_) |>.keep (by simp)
      rcases List.mem_cons.1 hb with rfl | hb
      · omega
      rcases List.mem_cons.1 hb with rfl | hb
      · omega
      have := fr1 b hb; omega
  have first : ∀ {A : Hp} {K : Sl → Hp → Prop}, Keep H45 A → (∀ l62 B, Own B 76 1 l62 ((ts ++ [t]).flatMap cPt) → Ch (fp dl) H45 B → Ch (fp dl) A B → (∀ b ∈ fp l62, b ∈ fp dl ∨ H45.size ≤ b) → K l62 B) → apS A dl 76 1 8 z76.cells 1 [.pointer (some ⟨t, 0, none⟩)] K := fun {A K} kA hK => by
    have yA := kA.size
    refine apS_list (f := cPt) (ys := [t]) (od45.kp kA) cPt_len cPt_ones rfl (by omega) rfl (by rw [htl]; simp; omega) (by omega) fun l62 B oB cB fB => hK l62 B oB ((kA.ch (F := fp dl)).trans cB fun b hb => .inl hb) cB fun b hb => (fB b hb).imp id fun q => by omega
  have c5 : ∀ {A : Hp}, Keep H45 A → cellAt A (⟨b5, 1, none⟩ : Addr) = some (.slice al.a al.n al.c) ∧ cellAt A (⟨b5, 0, none⟩ : Addr) = some (.slice dl.a dl.n dl.c) := fun {A} kA => by
    have := (j5.keep k45').keep kA
    exact ⟨by rw [this.cell]; rfl, by rw [this.cell]; rfl⟩
  have c51 : ∀ {A : Hp}, Ch (fp dl) H45 A → cellAt A (⟨b5, 1, none⟩ : Addr) = some (.slice al.a al.n al.c) := fun {A} cA => by
    rw [((j5.keep k45').ch cA f3.2.2.1).cell]; rfl
  refine ldL_i (j5.keep k45') rfl (ldL_i (j5.keep k45') rfl ⟨nw_i fun H56 b56 k56 z56 => ⟨(c5 k56).1, (c5 k56).2, first k56 fun l62 B oB cB cB' fB => ⟨c51 cB, nw_i fun H66 b66 k66 z66 => ⟨c51 (cB.trans (k66.ch (F := [])) (by simp)), second oB cB fB k66⟩⟩, nw_i fun H76 b76 k76 z76 => ⟨(c5 (k56.trans k76)).1, (c5 (k56.trans k76)).2, _, rfl, rd_ptr (b56.keep k76), first (k56.trans k76) fun l82 B oB cB cB' fB => ⟨c51 cB, _, rfl, rd_ptr (b76.ch cB' fun hh => ?_), second oB cB fB (Keep.refl _)⟩⟩⟩, nw_i fun H97 b97 k97 z97 => ⟨(c5 k97).1, (c5 k97).2, nw_i fun H103 b103 k103 z103 => ⟨(c5 (k97.trans k103)).1, (c5 (k97.trans k103)).2, first (k97.trans k103) fun l109 B oB cB cB' fB => ⟨c51 cB, _, rfl, rd_ptr ((b97.keep k103).ch cB' fun hh => ?_), second oB cB fB (Keep.refl _)⟩⟩⟩⟩)
  · have := ld _ hh; have := k45'.size; omega
  · have := ld _ hh; have := k45'.size; omega
end
end Go.Proofs.Ytlfdfikgbdgfdaa.G
