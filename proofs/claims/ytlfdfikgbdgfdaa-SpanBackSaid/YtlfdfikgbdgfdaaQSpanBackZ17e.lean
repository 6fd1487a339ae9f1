/- Of this text what the row needs. -/
import Derived.Test.YtlfdfikgbdgfdaaQSpanBackZ17d
namespace Go.Proofs.Ytlfdfikgbdgfdaa.G
open Go.RowKit
set_option linter.unusedVariables false
set_option linter.unusedSimpArgs false
set_option maxRecDepth 20000
theorem rd1_eq {T : Nat → TB × TB} {r : Rdg} {p : Nat} {D A : TB} (hT : T p = (D, A)) (h : r.st = 0) : rd1 T r p =
    if (rdb D A (r.P.getD p 0) r.B).1 ≠ 0 then ⟨(rdb D A (r.P.getD p 0) r.B).1, r.P, r.B, r.X, r.t + (rdb D A (r.P.getD p 0) r.B).2.2.2⟩
    else ⟨0, r.P.set p ((rdb D A (r.P.getD p 0) r.B).2.1.getD 0 0), (rdb D A (r.P.getD p 0) r.B).2.2.1, r.X ++ [(rdb D A (r.P.getD p 0) r.B).2.1], r.t + (rdb D A (r.P.getD p 0) r.B).2.2.2⟩ := by
  unfold rd1
  rw [if_neg (show ¬ r.st ≠ 0 by omega), hT]
theorem rdL_snoc {T : Nat → TB × TB} {r : Rdg} {l : List Nat} {i p : Nat} (h : l[i]? = some p) : rdL T r (l.take (i + 1)) = rd1 T (rdL T r (l.take i)) p := by
  rw [take_snoc' h, rdL_app]; rfl
theorem rdL_stop {T : Nat → TB × TB} {r : Rdg} {l : List Nat} {i : Nat} (h : (rdL T r (l.take i)).st ≠ 0) : rdL T r l = rdL T r (l.take i) := by
  conv => lhs; rw [← List.take_append_drop i l, rdL_app]
  exact rdL_no h
theorem mem_sw {α : Type} {b x y z : α} {l : List α} (h : b ∈ x :: y :: z :: l) : b ∈ y :: x :: z :: l := by
  simp only [List.mem_cons] at h ⊢
  rcases h with h | h | h | h <;> simp [h]
theorem mem_kb {b x y z w : Nat} {l : List Nat} (h : b ∈ [x, y]) : b ∈ z :: y :: x :: w :: l := by
  simp only [List.mem_cons, List.mem_nil_iff, or_false] at h ⊢
  rcases h with h | h <;> simp [h]
section
variable {H : Hp} {j : Jb} {cs : List Cp} {ps : List Pa} {TV : Nat → List Nat}
set_option maxHeartbeats 4000000 in
theorem Decode_ok {f : ByteArray} {fr to : Int} {xs : List Nat} {e : Nat} {Q : Int × Int × Int × Sl × Int → Hp → Prop} (J : JV H j cs ps TV) (hf : f.size ≤ 1125899906842624) (hc : Cut f (hiOf f.size fr to) (loOf f.size fr) xs e) (hU : jChk j cs ps TV = 0 → j.u ≤ 3000)
    (h0 : jChk j cs ps TV ≠ 0 → ∀ H', Keep H H' → Q (0, 0, 0, ⟨none, 0, 0⟩, jChk j cs ps TV) H')
    (h : jChk j cs ps TV = 0 → ∀ (r : Rdg) (un : Nat) (l : List (Bool × Nat)), l = remB (loOf f.size fr) 7 xs → jRd j cs ps TV (l.map (·.1)) j.u.toNat = (r, un) → ∀ sl (BL : List (Ints 64)) H', Own H' 54 64 sl (BL.flatMap cBl) →
      (if jSt r l (decide (e = hiOf f.size fr to)) = 1 then BL.map (·.1) = r.X else sl = ⟨none, 0, 0⟩ ∧ BL = []) → (∀ b ∈ fp sl, H.size ≤ b) → Keep H H' → Q ((jSt r l (decide (e = hiOf f.size fr to)) : Int), (un : Int), (r.t : Int), sl, 0) H') :
    span_Decode.s f fr to j.g j.w j.h j.s j.t j.d0.1 j.d0.2 j.d1.1 j.d1.2 j.d2.1 j.d2.2 j.d3.1 j.d3.2 j.a0.1 j.a0.2 j.a1.1 j.a1.2 j.a2.1 j.a2.2 j.a3.1 j.a3.2 j.f j.u H Q := by
  have hjf := J.hf
  have hju := J.hu
  have hl := J.hl
  have hm := J.hm
  have hn := J.ht.n
  obtain ⟨a0, a1⟩ := uni_area (w := j.w) (h := j.h) (cs := cs) (ps := ps)
  obtain ⟨lh1, lh2⟩ := lohi f.size fr to
  have hcl := hc.le
  unfold span_Decode.s
  intro b1 H2 c2 g1 g1' b3 H4 c4 g3 g3'
  have k2 : Keep H H2 := c2.keep (by simp)
  have k4 : Keep H H4 := k2.trans (c4.keep (by simp))
  have y2 := c2.size
  have y4 := c4.size
  refine jmay_ok (J.keep k4) (fun hz H6 k6 => ⟨Pv.keep k6 (by simp; omega), ?_⟩) fun hz dl al ts us H6 od oa tl ul td ta fr6 k6 => ⟨Pv.keep k6 (by simp; omega), ?_⟩
  · intro b8 H10 c10 g8 g8'
    refine ite_t (bnet hz) fun H11 c11 => h0 hz H11 ?_
    exact (((k4.trans k6).trans (c10.keep (by simp))).ch (F := [])).trans c11 (by simp; omega) |>.keep (by simp)
  obtain ⟨hP, hE, f0, u0, fT, uT⟩ := jchk_no hz
  have hu3 := hU hz
  obtain ⟨hC, frC, hL, hBd, hUs⟩ := prt_fr hP
  have y6 := k6.size
  intro b8 H10 c10 g8 g8'
  have y10 := c10.size
  refine ite_f rfl (Open_ok hf hc fun k H14 S14 k14 gk => ⟨Pv.keep k14 (by simp; omega), ?_⟩)
  have y14 := k14.size
  have kl := S14.lt
  intro b16 H18 c18 g16 g16' b19 H20 c20 g19 g19'
  have y18 := c18.size
  have y20 := c20.size
  refine ⟨by omega, by omega, by omega, nwA_i fun H26 b26 k26 z26 => ⟨Pv.keep k26 (by simp; omega), ?_⟩⟩
  intro b28 H30 c28 g28 g28' q1 q3 q8 q16 q19 q28
  have y30 := c28.size
  have kA : Keep H6 H30 := ((((c10.keep (by simp)).trans k14).trans (c18.keep (by simp))).trans (c20.keep (by simp))).trans (k26.trans (c28.keep (by simp)))
  have kB : Keep H14 H30 := ((c18.keep (by simp)).trans (c20.keep (by simp))).trans (k26.trans (c28.keep (by simp)))
  have kH : Keep H H30 := (k4.trans k6).trans kA
  rw [Int.toNat_natCast, hn] at q28
  rw [Int.toNat_natCast, hn, made16] at b26
  generalize hp : H20.size = p at *
  generalize hN : H30.size = N at *
  generalize hl0 : remB (loOf f.size fr) 7 xs = l0 at *
  have hlen : l0.length ≤ 9007199254740992 := by
    rw [← hl0, remB_len]; omega
  have df30 : DF H H30 H4.size H6.size N j cs ps TV dl al ts us b1 b3 b8 k b16 b19 p b28 :=
    ⟨q1, q3, q8, od.kp kA, oa.kp kA, tl, ul, td.m.ch (kA.ch (F := [])) (by simp), ta.m.ch (kA.ch (F := [])) (by simp), q16, q28, ⟨g1, by omega, g3', y6⟩,
      fun b hb => by
        rcases List.mem_append.1 hb with hb | hb
        · exact od.fp_lt b hb
        · exact oa.fp_lt b hb, by omega, kH, by omega⟩
  have dm30 : DM H30 N k b19 p e ps.length l0 (jR0 ps (l0.map (·.1))) 0 ⟨none, 0, 0⟩ [] :=
    ⟨by simpa [jR0] using S14.keep kB, q19, Own.nil _ _ _, rfl, b26.keep (c28.keep (by simp)), by simp [jR0], by simp [jR0], by simp [jR0], by simp [jR0], rfl, by simp [fp]⟩
  have hTok : ∀ q, q < ps.length → TbOk (jT j TV ps q).1 ∧ TbOk (jT j TV ps q).2 := fun q hq => by
    obtain ⟨pp, hpp⟩ : ∃ pp, ps[q]? = some pp := ⟨_, get_some hq⟩
    obtain ⟨t, ht⟩ : ∃ t, ts[q]? = some t := ⟨_, get_some (by omega)⟩
    obtain ⟨t', ht'⟩ : ∃ t, us[q]? = some t := ⟨_, get_some (by omega)⟩
    rw [jT_at hpp]
    exact ⟨(td q pp t hpp ht).1, (ta q pp t' hpp ht').1⟩
  -- the end
  refine Join.intro (fun (Ds : List Nat) H' => ∃ (r : Rdg) (un : Nat) (sl : Sl) (BL : List (Ints 64)), jRd j cs ps TV (l0.map (·.1)) j.u.toNat = (r, un) ∧ DF H H' H4.size H6.size N j cs ps TV dl al ts us b1 b3 b8 k b16 b19 p b28 ∧ Dfr Ds H' ∧ (∀ D ∈ Ds, N ≤ D ∧ D ∉ fp sl) ∧
    ((r.st = 0 ∧ DM H' N k b19 p e ps.length l0 r (un : Int) sl BL) ∨ (r.st ≠ 0 ∧ r.st ≠ 1 ∧ Bk H' b19 40 (c40 (r.st : Int) (un : Int) (r.t : Int) sl)))) ?_ fun J31 hJ31 => ?_
  · rintro Ds H33 ⟨r, un, sl, BL, hr, df, dfr, hds, hst⟩
    obtain ⟨l1, l2, l3, l4⟩ := df.low
    have hord := df.ord
    have hh := h hz r un l0 rfl hr
    -- from the last state on
    have last : ∀ {A : Hp} {s : Nat} {sl' : Sl} {BL' : List (Ints 64)}, s = jSt r l0 (decide (e = hiOf f.size fr to)) → DF H A H4.size H6.size N j cs ps TV dl al ts us b1 b3 b8 k b16 b19 p b28 → Dfr Ds A → (∀ D ∈ Ds, D ∉ fp sl') → Bk A b19 40 (c40 (s : Int) (un : Int) (r.t : Int) sl') → Own A 54 64 sl' (BL'.flatMap cBl) → (∀ b ∈ fp sl', N ≤ b) → (if s = 1 then BL'.map (·.1) = r.X else sl' = ⟨none, 0, 0⟩ ∧ BL' = []) →
        (∃ x40 : Int, ∃ x41 : Int, ∃ x42 : Int, ∃ x43 : Sl, ldA A (⟨b19, 0, none⟩ : Addr) (c40 x40 x41 x42 x43) ∧ (stA A (⟨b3, 0, none⟩ : Addr) (c40 x40 x41 x42 x43) (fun H45 => tkD Ds H45 (fun H46 => ∃ x48 : Int, ∃ x49 : Int, ∃ x50 : Int, ∃ x51 : Sl, ldA H46 (⟨b3, 0, none⟩ : Addr) (c40 x48 x49 x50 x51) ∧ (Q (x48, x49, x50, x51, 0) H46))))) := fun {A s sl' BL'} hs dfA dfrA hdA f19 own frA hb => by
      refine ⟨_, _, _, _, ldA_full f19, stA_full dfA.f3 rfl fun H45 b45 s45 => tkD_ok (Dfr.ch s45.ch dfrA fun D hD hh => by have := (hds D hD).1; simp at hh; omega) fun H46 c46 z46 => ⟨_, _, _, _, ldA_full (b45.ch c46 fun hh => by have := (hds _ hh).1; omega), ?_⟩⟩
      subst hs
      refine hh sl' BL' H46 ((own.ch s45.ch fun b hb hh => by have := frA b hb; simp at hh; omega).ch c46 fun b hb hh => hdA b hh hb) hb (fun b hb => by have := frA b hb; have := kH.size; omega) ?_
      exact (((dfA.kp.ch (F := [])).trans s45.ch (by simp; omega)).trans c46 (fun D hD => .inr (by have := (hds D hD).1; have := kH.size; omega))).keep (by simp)
    refine Join.intro (fun (_ : Unit) H' => ∃ s : Nat, s = jSt r l0 (decide (e = hiOf f.size fr to)) ∧ DF H H' H4.size H6.size N j cs ps TV dl al ts us b1 b3 b8 k b16 b19 p b28 ∧ Dfr Ds H' ∧ Bk H' b19 40 (c40 (s : Int) (un : Int) (r.t : Int) sl) ∧ (s = 1 → Own H' 54 64 sl (BL.flatMap cBl) ∧ BL.map (·.1) = r.X ∧ ∀ b ∈ fp sl, N ≤ b)) ?_ fun J34 hJ34 => ?_
    · rintro ⟨⟩ H36 ⟨s, hs, df36, dfr36, f36, ho⟩
      refine Join.intro (fun (_ : Unit) H' => ∃ (sl' : Sl) (BL' : List (Ints 64)), DF H H' H4.size H6.size N j cs ps TV dl al ts us b1 b3 b8 k b16 b19 p b28 ∧ Dfr Ds H' ∧ (∀ D ∈ Ds, D ∉ fp sl') ∧ Bk H' b19 40 (c40 (s : Int) (un : Int) (r.t : Int) sl') ∧ Own H' 54 64 sl' (BL'.flatMap cBl) ∧ (∀ b ∈ fp sl', N ≤ b) ∧ (if s = 1 then BL'.map (·.1) = r.X else sl' = ⟨none, 0, 0⟩ ∧ BL' = [])) ?_ fun J37 hJ37 => ?_
      · rintro ⟨⟩ H39 ⟨sl', BL', e1, e2, e3, e4, e5, e6, e7⟩
        exact last hs e1 e2 e3 e4 e5 e6 e7
      · refine ldI_i f36 rfl ?_
        by_cases hs1 : s = 1
        · obtain ⟨o1, o2, o3⟩ := ho hs1
          exact ite_f (bnei (by omega)) (hJ37 _ _ ⟨sl, BL, df36, dfr36, fun D hD => (hds D hD).2, f36, o1, o3, by rw [if_pos hs1]; exact o2⟩)
        · refine ite_t (bnet (by omega)) (st_i f36 (by show 3 < 4; omega) fun H54 b54 s54 => hJ37 _ _ ⟨⟨none, 0, 0⟩, [], df36.ch s54.ch (by simp; omega), Dfr.ch s54.ch dfr36 (fun D hD hh => by have := (hds D hD).1; simp at hh; omega), by simp [fp], b54, Own.nil _ _ _, by simp [fp], by rw [if_neg hs1]; exact ⟨rfl, rfl⟩⟩)
    · rcases hst with ⟨hr0, dm⟩ | ⟨hr0, hr1, f19⟩
      rotate_left
      · have hs : r.st = jSt r l0 (decide (e = hiOf f.size fr to)) := by unfold jSt; rw [if_pos hr0]
        exact ldI_i f19 rfl (ite_f (beqf (by omega)) (hJ34 _ _ ⟨r.st, hs, df, dfr, f19, fun q => absurd q hr1⟩))
      have hs : jSt r l0 (decide (e = hiOf f.size fr to)) = if padd (l0.drop r.t) = true ∧ decide (e = hiOf f.size fr to) = true then 1 else 3 := by unfold jSt; rw [if_neg (by omega)]
      have noD : ∀ D ∈ Ds, D ∉ [b19] := fun D hD hh => by have := (hds D hD).1; simp at hh; omega
      refine ldI_i dm.f19 rfl (ite_t rfl (st_i dm.f19 (by show 0 < 4; omega) fun H57 b57 s57 => Lt.of ?_))
      have df57 := df.ch s57.ch (by simp; omega)
      have dfr57 := Dfr.ch s57.ch dfr noD
      have src57 := dm.src.ch s57.ch (by simp; omega)
      have own57 := dm.own.ch s57.ch (fun b hb hh => by have := dm.fr b hb; simp at hh; omega)
      have e2 : (if (if (f.size : Int) < to then (f.size : Int) else to) < (if (f.size : Int) < (if fr < 0 then 0 else fr) then (f.size : Int) else (if fr < 0 then 0 else fr)) then (if (f.size : Int) < (if fr < 0 then 0 else fr) then (f.size : Int) else (if fr < 0 then 0 else fr)) else (if (f.size : Int) < to then (f.size : Int) else to)) = (hiOf f.size fr to : Int) := by
        have e1 : (if (f.size : Int) < (if fr < 0 then 0 else fr) then (f.size : Int) else (if fr < 0 then 0 else fr)) = (loOf f.size fr : Int) := by unfold loOf; split <;> split at * <;> omega
        rw [e1]; unfold hiOf; split <;> split at * <;> omega
      rw [e2]
      refine Join.intro (fun (b : Bool) H' => b = decide (padd (l0.drop r.t) = true ∧ decide (e = hiOf f.size fr to) = true) ∧ Ch [k] H57 H') ?_ fun J60 hJ60 => ?_
      · rintro _ H62 ⟨rfl, c62⟩
        have df62 := df57.ch c62 (by simp; omega)
        have dfr62 := Dfr.ch c62 dfr57 (fun D hD hh => by have := (hds D hD).1; simp at hh; omega)
        have f62 := b57.ch c62 (by simp; omega)
        have own62 := own57.ch c62 (fun b hb hh => by have := dm.fr b hb; simp at hh; omega)
        by_cases hpc : padd (l0.drop r.t) = true ∧ decide (e = hiOf f.size fr to) = true
        · rw [if_pos hpc] at hs
          refine ite_t (dect hpc) (st_i f62 (by show 0 < 4; omega) fun H63 b63 s63 => hJ34 _ _ ⟨1, hs.symm, df62.ch s63.ch (by simp; omega), Dfr.ch s63.ch dfr62 noD, b63, fun _ => ⟨own62.ch s63.ch (fun b hb hh => by have := dm.fr b hb; simp at hh; omega), dm.bl, dm.fr⟩⟩)
        · rw [if_neg hpc] at hs
          exact ite_f (decf hpc) (hJ34 _ _ ⟨3, hs.symm, df62, dfr62, f62, fun q => by omega⟩)
      · refine ldP_i df57.f16 rfl (Padded_ok src57 fun H68 k68 => ?_)
        have f16 := df57.f16.keep k68
        by_cases hpd : padd (l0.drop r.t) = true
        rotate_left
        · refine ite_f (by simpa using hpd) (hJ60 _ _ ⟨(decf fun q => hpd q.1).symm, k68.ch⟩)
        refine ite_t hpd (ldP_i f16 rfl (ldP_i f16 rfl (Left_ok (src57.keep k68) ⟨by rw [f16.cell]; rfl, Skip_x (src57.keep k68) fun H77 S77 c77 => ?_⟩)))
        have htk : tk (l0.drop r.t) ((l0.drop r.t).length : Int) = (l0.drop r.t).length := by unfold tk; rw [if_pos (by omega)]; omega
        rw [htk, List.drop_length] at S77
        refine ite_t (dect (by omega)) (ldP_i (f16.ch c77.ch (by simp; omega)) rfl (At_ok S77 (hJ60 _ _ ⟨?_, ((k68.ch (F := [k])).trans c77.ch (by simp))⟩)))
        show ((placeOf [] e : Int) == (hiOf f.size fr to : Int)) = _
        by_cases he : e = hiOf f.size fr to
        · rw [dect ⟨hpd, dect he⟩]; exact beqi (by show (e : Int) = _; omega)
        · rw [decf (fun q => he (of_decide_eq_true q.2))]; exact beqf (by show (e : Int) ≠ _; omega)
  -- units
  refine job_at q1 (.inr ⟨rfl, rfl⟩) ?_
  refine Fix.intro (fun (s : Int × List Nat) H' => ∃ (u : Nat) (sl : Sl) (BL : List (Ints 64)), s.1 = (u : Int) ∧ u ≤ j.u.toNat ∧ DF H H' H4.size H6.size N j cs ps TV dl al ts us b1 b3 b8 k b16 b19 p b28 ∧ DM H' N k b19 p e ps.length l0 (jRd j cs ps TV (l0.map (·.1)) u).1 (u : Int) sl BL ∧ BL.length ≤ 10 * u ∧ Dfr s.2 H' ∧ (∀ D ∈ s.2, N ≤ D ∧ D ∉ fp sl))
    (fun s _ => j.u.toNat - s.1.toNat) ⟨0, ⟨none, 0, 0⟩, [], rfl, by omega, df30, dm30, by simp, trivial, by simp⟩ ?_
  rintro ⟨_, Ds⟩ H87 ⟨u, sl0, BL0, rfl, hu, df, dm, hbl, dfr, hds⟩ rec hrec
  dsimp only at dfr hds ⊢
  have hord := df.ord
  obtain ⟨lw1, lw2, lw3, lw4⟩ := df.low
  have hun := rdU_n (T := jT j TV ps) (jL j cs ps) (jR0 ps (l0.map (·.1))) rfl
  by_cases huj : u < j.u.toNat
  rotate_left
  · obtain rfl : u = j.u.toNat := by omega
    refine ite_f (decf (by omega)) (hJ31 _ _ ⟨(jRd j cs ps TV (l0.map (·.1)) j.u.toNat).1, (jRd j cs ps TV (l0.map (·.1)) j.u.toNat).2, sl0, BL0, rfl, df, dfr, hds, .inl ⟨dm.st, ?_⟩⟩)
    have e1 : (jRd j cs ps TV (l0.map (·.1)) j.u.toNat).2 = j.u.toNat := (hun j.u.toNat).2.1 dm.st
    rw [e1]
    exact dm
  refine ite_t (dect (by omega)) ⟨_, _, _, _, job_frame df.j1, job_parts df.j1 (job_at df.j1 (.inl ⟨rfl, rfl⟩) ?_)⟩
  rw [w64 (x := j.f + (u : Int)) (by omega)]
  have J87 := J.keep df.kp
  refine Walk_ok J87.hs J87.hok (by omega) J87.ht J87.hpk (by omega) (by omega) (by omega) fun p5 p40 p1 p3 p26 l8 m8 H100 wb k100 lo => ?_
  have y100 := k100.size
  obtain ⟨wf, we⟩ := wEnd_at (f := j.f + (u : Int)) (u := 1) (T := (Uni j.w j.h cs ps).1 * (Uni j.w j.h cs ps).2) (by omega) (by omega) (by omega)
  have we' : wEnd (j.f + (u : Int)) 1 ((Uni j.w j.h cs ps).1 * (Uni j.w j.h cs ps).2) = j.f + (u : Int) + 1 := by rw [we]; omega
  rw [wf, we'] at wb
  have t1 : (j.f + (u : Int)).toNat = j.f.toNat + u := by omega
  have t2 : (j.f + (u : Int) + 1).toNat = j.f.toNat + u + 1 := by omega
  rw [t1, t2] at wb
  refine Rg_i fun rr H104 hrr k104 z104 hD hlp => ?_
  have sq := walk_seq (wb.keep k104) J.hok (by omega) (by omega) (.func (.yield (H100.size + 1)) #[] #[])
  rw [show j.f.toNat + u + 1 - (j.f.toNat + u) = 1 from by omega] at sq
  have hWL : (walkL j.w j.h cs ps (j.f.toNat + u) 1).length ≤ 10 := by rw [walk_len hP]; have := each_le hP; omega
  have hjL : jL j cs ps u = (walkL j.w j.h cs ps (j.f.toNat + u) 1).map fun x => x.1.toNat := rfl
  have hin : ∀ {x : Sp}, x ∈ walkL j.w j.h cs ps (j.f.toNat + u) 1 → 0 ≤ x.1 ∧ x.1 < ps.length := fun {x} hx => walkIn hx
  generalize walkL j.w j.h cs ps (j.f.toNat + u) 1 = WL at sq hWL hjL hin
  have hjLn : (jL j cs ps u).length = WL.length := by rw [hjL, List.length_map]
  generalize hru : (jRd j cs ps TV (l0.map (·.1)) u).1 = ru at dm
  have hnext : jRd j cs ps TV (l0.map (·.1)) (u + 1) = (rdL (jT j TV ps) ru (jL j cs ps u), if (rdL (jT j TV ps) ru (jL j cs ps u)).st = 0 then u + 1 else u) := by
    have : jRd j cs ps TV (l0.map (·.1)) (u + 1) = if (jRd j cs ps TV (l0.map (·.1)) u).1.st ≠ 0 then jRd j cs ps TV (l0.map (·.1)) u else (rdL (jT j TV ps) (jRd j cs ps TV (l0.map (·.1)) u).1 (jL j cs ps u), if (rdL (jT j TV ps) (jRd j cs ps TV (l0.map (·.1)) u).1 (jL j cs ps u)).st = 0 then u + 1 else u) := rfl
    rw [this, hru, if_neg (by have := dm.st; omega)]
  generalize jL j cs ps u = JL at *
  have kX : Keep H87 H104 := k100.trans k104
  have y104 := k104.size
  have hNl := df.le
  have slt := dm.own.fp_lt
  have ltDs := dfr.lt
  refine sq _ _ (fun i G H' => ∃ (sl : Sl) (BL : List (Ints 64)), G = (H100.size + 1) :: b19 :: k :: p :: fp sl ∧ DF H H' H4.size H6.size N j cs ps TV dl al ts us b1 b3 b8 k b16 b19 p b28 ∧ DM H' N k b19 p e ps.length l0 (rdL (jT j TV ps) ru (JL.take i)) (u : Int) sl BL ∧ BL.length ≤ 10 * u + i ∧ Dfr (H100.size :: Ds) H' ∧ (∀ D ∈ H100.size :: Ds, N ≤ D ∧ D ∉ fp sl ∧ D < H104.size ∧ D ≠ H100.size + 1) ∧ Lp H' (H100.size + 1) rr ∧ H100.size + 1 ∉ fp sl)
    (fun G H' => ∃ (sl : Sl), G = (H100.size + 1) :: b19 :: k :: p :: fp sl ∧ DF H H' H4.size H6.size N j cs ps TV dl al ts us b1 b3 b8 k b16 b19 p b28 ∧ (rdL (jT j TV ps) ru JL).st ≠ 0 ∧ (rdL (jT j TV ps) ru JL).st ≠ 1 ∧ Bk H' b19 40 (c40 ((rdL (jT j TV ps) ru JL).st : Int) (u : Int) ((rdL (jT j TV ps) ru JL).t : Int) sl) ∧ Dfr (H100.size :: Ds) H' ∧ (∀ D ∈ H100.size :: Ds, N ≤ D ∧ D ∉ fp sl ∧ D < H104.size ∧ D ≠ H100.size + 1) ∧ Lp H' (H100.size + 1) (dn rr (.exit 0)))
    ((H100.size + 1) :: b19 :: k :: p :: fp sl0) ?_ ?_ ?_ ?_ ?_ ?_ ?_ ?_
  · intro b hb hh
    have q1 := lo b hh
    have q2 := wb.lts b hh
    rcases List.mem_cons.1 hb with rfl | hb
    · omega
    rcases List.mem_cons.1 hb with rfl | hb
    · omega
    rcases List.mem_cons.1 hb with rfl | hb
    · omega
    rcases List.mem_cons.1 hb with rfl | hb
    · omega
    have := slt b hb; omega
  · refine ⟨sl0, BL0, rfl, df.keep kX, by simpa [rdL] using dm.keep kX, by omega, ⟨hD, fun hh => by have := ltDs _ hh; omega, dfr.keep kX⟩, fun D hD' => ?_, hlp, fun hh => by have := slt _ hh; omega⟩
    rcases List.mem_cons.1 hD' with rfl | hD'
    · exact ⟨by omega, fun hh => by have := slt _ hh; omega, by omega, by omega⟩
    · have q1 := hds D hD'; have q2 := ltDs D hD'; exact ⟨q1.1, q1.2, by omega, by omega⟩
  · rintro i G A B F ⟨sl, BL, rfl, a1, a2, a3, a4, a5, a6, a7⟩ kk hF
    have nF : ∀ {y}, y < H104.size → y ∉ F := fun {y} hy hh => by have := (hF y hh).1; omega
    refine ⟨sl, BL, rfl, a1.ch kk (fun b hb => by have := hF b hb; omega), a2.ch kk (fun b hb hh => (hF b hb).2 (List.mem_cons_of_mem _ (mem_sw hh))), a3, Dfr.ch kk a4 (fun D hD => nF (a5 D hD).2.2.1), a5, a6.ch kk (nF (by omega)), a7⟩
  · rintro G A B F ⟨sl, rfl, a1, a2, a3, a4, a5, a6, a7⟩ kk hF
    have nF : ∀ {y}, y < H104.size → y ∉ F := fun {y} hy hh => by have := (hF y hh).1; omega
    exact ⟨sl, rfl, a1.ch kk (fun b hb => by have := hF b hb; omega), a2, a3, a4.ch kk (nF (by omega)), Dfr.ch kk a5 (fun D hD => nF (a6 D hD).2.2.1), a6, a7.ch kk (nF (by omega))⟩
  · rintro i G A ⟨sl, BL, rfl, a1, a2, a3, a4, a5, a6, a7⟩ b hb
    rcases List.mem_cons.1 hb with rfl | hb
    · exact a6.lt
    exact a2.lts b (mem_sw hb)
  · rintro i G x H107 K hx ⟨sl, BL, rfl, df7, dm7, hb7, dfr7, hds7, lp7, nL⟩ hT' hF'
    have hil := (List.getElem?_eq_some_iff.1 hx).1
    obtain ⟨x0, x1⟩ := hin (List.mem_of_getElem? hx)
    have hJi : JL[i]? = some x.1.toNat := by rw [hjL, List.getElem?_map, hx]; rfl
    have hstep := rdL_snoc (T := jT j TV ps) (r := ru) hJi
    generalize hri : rdL (jT j TV ps) ru (JL.take i) = r at *
    refine ⟨lp7, ?_⟩
    intro b110 H112 c110 g110 g110'
    have k112 : Keep H107 H112 := c110.keep (by simp)
    have y112 := k112.size
    have l112 := lp7.ch c110 (by simp)
    have zl := lp7.lt
    refine ⟨l112, Up_s l112 fun H113 s113 l113 => ⟨Pv.ch s113.ch (by simp; omega), ?_⟩⟩
    have y113 := s113.size
    have df13 := (df7.keep k112).ch s113.ch (by simp; omega)
    have nL4 : H100.size + 1 ∉ k :: b19 :: p :: fp sl := fun hh => by
      rcases List.mem_cons.1 hh with q | hh
      · omega
      rcases List.mem_cons.1 hh with q | hh
      · omega
      rcases List.mem_cons.1 hh with q | hh
      · omega
      exact nL hh
    have dm13 := (dm7.keep k112).ch s113.ch (F := [H100.size + 1]) (fun b hb hh => nL4 (by rw [List.mem_singleton] at hb; subst hb; exact hh))
    have hdfr13 := Dfr.ch s113.ch (dfr7.keep k112) (fun D hD hh => by have := (hds7 D hD).2.2.2; simp at hh; omega)
    obtain ⟨q, hq⟩ : ∃ q, ps[x.1.toNat]? = some q := ⟨_, get_some (by omega)⟩
    obtain ⟨t, ht⟩ : ∃ t, ts[x.1.toNat]? = some t := ⟨_, get_some (by omega)⟩
    obtain ⟨t', ht'⟩ : ∃ t, us[x.1.toNat]? = some t := ⟨_, get_some (by omega)⟩
    have hTq := jT_at (j := j) (TV := TV) hq
    obtain ⟨tok, sv, tT, tB⟩ := df13.td _ q t hq ht
    obtain ⟨tok', sv', tT', tB'⟩ := df13.ta _ q t' hq ht'
    have hr1 := rd1_eq (T := jT j TV ps) (r := r) (p := x.1.toNat) hTq dm7.st
    have hp0 : r.P.length = ps.length := dm7.pl
    have hpv : -32768 ≤ r.P.getD x.1.toNat 0 ∧ r.P.getD x.1.toNat 0 ≤ 32767 := by
      rw [List.getD_eq_getElem?_getD, List.getElem?_eq_getElem (by omega)]
      exact dm7.pv _ (List.getElem_mem _)
    have hbits := rdB_bits (A := tbl j TV (4 + q.ac.toNat)) (pred := r.P.getD x.1.toNat 0) tok' 65 _ tok zB 0 r.B 0
    have hmayR := rdB_may (A := tbl j TV (4 + q.ac.toNat)) (pred := r.P.getD x.1.toNat 0) tok' 65 _ tok zB 0 r.B 0 (by omega) zB_may.1 zB_may.2
    have hRd : rdb (tbl j TV q.dc.toNat) (tbl j TV (4 + q.ac.toNat)) (r.P.getD x.1.toNat 0) r.B = rdB (tbl j TV (4 + q.ac.toNat)) (r.P.getD x.1.toNat 0) 65 (tbl j TV q.dc.toNat) zB 0 r.B 0 := rfl
    rw [← hRd] at hbits hmayR
    have hdr : (l0.drop r.t).length = l0.length - r.t := List.length_drop
    have hle7 := dm7.le
    generalize hR : rdb (tbl j TV q.dc.toNat) (tbl j TV (4 + q.ac.toNat)) (r.P.getD x.1.toNat 0) r.B = R at *
    obtain ⟨dd, hb1, hb2, hb3, hb4⟩ := hbits
    have hrBl : r.B.length = l0.length - r.t := by rw [dm7.rB, List.length_map, hdr]
    have k110 : b110 < H113.size := by omega
    have hb110 : b110 ∉ [k, b19] := by simp; omega
    refine Join.intro (fun (s : Addr × Int) H' => ∃ (b : Nat) (X : Ints 64), s = (⟨b, 0, none⟩, (R.1 : Int)) ∧ Bk H' b 54 (c54 X) ∧ H113.size ≤ b ∧ (R.1 = 0 → X.1 = R.2.1 ∧ Src H' k ((l0.drop r.t).drop R.2.2.2) e (r.t + R.2.2.2) ∧ ((l0.drop r.t).drop R.2.2.2).map (·.1) = R.2.2.1) ∧ Bk H' b19 40 (c40 0 (u : Int) ((r.t : Int) + (R.2.2.2 : Nat)) sl) ∧ Ch [k, b19] H113 H') ?_ fun J115 hJ115 => ?_
    · rintro _ H117 ⟨b, X, rfl, hbX, hbs, hok, f117, c117⟩
      dsimp only
      have y117 := c117.size
      have df17 := df13.ch c117 (by simp; omega)
      have l117 := l113.ch c117 (by simp; omega)
      have nDs : ∀ {y : Nat}, y < N → ∀ D ∈ H100.size :: Ds, D ∉ [y] := fun {y} hy D hD hh => by have := (hds7 D hD).1; simp at hh; omega
      have dfr17 := Dfr.ch c117 hdfr13 (fun D hD hh => by have := (hds7 D hD).1; simp at hh; omega)
      by_cases hR0 : R.1 = 0
      rotate_left
      · rw [if_pos hR0] at hr1
        rw [hr1] at hstep
        have hall : rdL (jT j TV ps) ru JL = ⟨R.1, r.P, r.B, r.X, r.t + R.2.2.2⟩ := by
          rw [← hstep]; exact rdL_stop (by rw [hstep]; exact hR0)
        refine ite_t (bnet (by omega)) (st_i f117 (by show 0 < 4; omega) fun H118 b118 s118 => ?_)
        have y118 := s118.size
        have l118 := l117.ch s118.ch (by simp; omega)
        refine ⟨l118, hF' ((H100.size + 1) :: b19 :: k :: p :: fp sl) _ ⟨sl, rfl, (df17.ch s118.ch (by simp; omega)).ch putL_same.ch (by simp; omega), ?_, ?_, ?_, Dfr.ch putL_same.ch (Dfr.ch s118.ch dfr17 (nDs (by omega))) (fun D hD hh => by have := (hds7 D hD).2.2.2; simp at hh; omega), hds7, putL_lp l118⟩ ?_ (fun b hb => .inl hb)⟩
        · rw [hall]; exact hR0
        · rw [hall]; dsimp only; omega
        · rw [hall]
          dsimp only
          have b118' := b118.same (putL_same (l := H100.size + 1) (r := dn rr (.exit 0))) (by omega)
          rw [show ((r.t + R.2.2.2 : Nat) : Int) = (r.t : Int) + (R.2.2.2 : Nat) from by omega]
          exact b118'
        · exact ((((k112.ch (F := (H100.size + 1) :: b19 :: k :: p :: fp sl)).trans s113.ch (by simp)).trans c117 (fun b hb => .inl (mem_kb hb))).trans s118.ch (by simp)).trans putL_same.ch (by simp)
      rw [if_neg (by omega)] at hr1
      rw [hr1] at hstep
      obtain ⟨hX, hsrc, hrB⟩ := hok hR0
      have own17 := dm13.own.ch c117 (fun b hb hh => by have := dm13.fr b hb; simp at hh; omega)
      have pr17 := dm13.pr.ch c117 (by simp; omega)
      have hX0 : -1024 ≤ X.1.getD 0 0 ∧ X.1.getD 0 0 ≤ 1023 := by rw [hX]; exact hmayR.2.1
      refine ite_f (bnei (by omega)) (ldL_i (v := ⟨some ⟨p, 0, none⟩, ps.length, ps.length⟩) df17.f28 rfl ⟨by decide, by decide, ldI_a hbX (v := X.1.getD 0 0) (ints_get (by rw [X.2]; decide)) ⟨x0, x1, _, rfl, st_a pr17 (by rw [ints_length]; omega) fun H129 b129 s129 => ?_⟩⟩)
      have y129 := s129.size
      rw [Nat.mul_one, ints_set] at b129
      have f129 := f117.same s129 (by omega)
      have own29 := own17.ch s129.ch (fun b hb hh => by have := dm13.fr b hb; simp at hh; omega)
      refine ldL_i f129 rfl ⟨X, ldA_full (hbX.same s129 (by omega)), push1 (x := X) own29 cBl_len cBl_ones rfl (by omega) (by omega) (by omega) fun l' H140 o140 c140 f140 => ?_⟩
      have y140 := c140.size
      have fr13 := dm13.fr
      have nsl : ∀ {y}, y < N → y ∉ fp sl := fun {y} hy hh => by have := fr13 y hh; omega
      have hfr' : ∀ b ∈ fp l', N ≤ b := fun b hb => by
        rcases f140 b hb with q | q
        · exact fr13 b q
        · have := df17.le; omega
      refine st_i (f129.ch c140 (nsl (by omega))) (by show 3 < 4; omega) fun H141 b141 s141 => ?_
      have y141 := s141.size
      have nL' : H100.size + 1 ∉ fp l' := fun hh => by
        rcases f140 _ hh with q | q
        · exact nL q
        · omega
      have l141 : Lp H141 (H100.size + 1) (bsy rr) := ((l117.ch s129.ch (by simp; omega)).ch c140 nL).ch s141.ch (by simp; omega)
      have hDs' : ∀ D ∈ H100.size :: Ds, N ≤ D ∧ D ∉ fp l' ∧ D < H104.size ∧ D ≠ H100.size + 1 := fun D hD => by
        obtain ⟨d1, d2, d3, d4⟩ := hds7 D hD
        refine ⟨d1, fun hh => ?_, d3, d4⟩
        rcases f140 _ hh with q | q
        · exact d2 q
        · have := df7.le
          have := dfr7.lt D hD
          omega
      have dfr41 : Dfr (H100.size :: Ds) H141 := Dfr.ch s141.ch (Dfr.ch c140 (Dfr.ch s129.ch dfr17 (nDs (by omega))) (fun D hD => (hds7 D hD).2.1)) (nDs (by omega))
      have df41 := ((df17.ch s129.ch (by simp; omega)).ch c140 (fun b hb => by have := fr13 b hb; omega)).ch s141.ch (by simp; omega)
      have src41 := ((hsrc.ch s129.ch (by simp; omega)).ch c140 (nsl (by omega))).ch s141.ch (by simp; omega)
      have pr41 := (b129.ch c140 (nsl (by omega))).ch s141.ch (by simp; omega)
      have own41 := o140.ch s141.ch (fun b hb hh => by have := hfr' b hb; simp at hh; omega)
      have big : Ch ((H100.size + 1) :: b19 :: k :: p :: fp sl) H107 (putL H141 (H100.size + 1) rr) :=
        (((((((k112.ch (F := (H100.size + 1) :: b19 :: k :: p :: fp sl)).trans s113.ch (by simp)).trans c117 (fun b hb => .inl (mem_kb hb))).trans s129.ch (by simp)).trans c140 (fun b hb => .inl (by simp [hb]))).trans s141.ch (by simp))).trans putL_same.ch (by simp)
      refine ⟨l141, hT' ((H100.size + 1) :: b19 :: k :: p :: fp l') _ ⟨l', BL ++ [X], rfl, df41.ch putL_same.ch (by simp; omega), ?_, by rw [List.length_append, List.length_singleton]; omega, Dfr.ch putL_same.ch dfr41 (fun D hD hh => by have := (hds7 D hD).2.2.2; simp at hh; omega), hDs', putL_lp l141, nL'⟩ big fun b hb => ?_⟩
      · have dmN : DM H141 N k b19 p e ps.length l0 (rdL (jT j TV ps) ru (JL.take (i + 1))) (u : Int) l' (BL ++ [X]) := by
          rw [hstep]
          refine ⟨?_, ?_, own41, ?_, ?_, ?_, ?_, ?_, ?_, rfl, hfr'⟩
          · dsimp only; rw [← List.drop_drop]; exact src41
          · dsimp only; rw [show ((r.t + R.2.2.2 : Nat) : Int) = (r.t : Int) + (R.2.2.2 : Nat) from by omega]; exact b141
          · dsimp only; rw [List.map_append, dm13.bl, ← hX]; rfl
          · dsimp only; rw [← hX]; exact pr41
          · dsimp only; rw [List.length_set]; exact dm13.pl
          · dsimp only
            intro v hv
            rcases List.mem_or_eq_of_mem_set hv with hv | rfl
            · exact dm13.pv v hv
            · rw [← hX]; omega
          · dsimp only; rw [← hrB, List.drop_drop]
          · dsimp only; omega
        refine dmN.ch (putL_same (l := H100.size + 1) (r := rr)).ch fun b hb hh => ?_
        rw [List.mem_singleton] at hb
        subst hb
        rcases List.mem_cons.1 hh with q | hh
        · omega
        rcases List.mem_cons.1 hh with q | hh
        · omega
        rcases List.mem_cons.1 hh with q | hh
        · omega
        exact nL' hh
      · simp only [List.mem_cons] at hb ⊢
        rcases hb with rfl | rfl | rfl | rfl | hb
        · exact .inl (by simp)
        · exact .inl (by simp)
        · exact .inl (by simp)
        · exact .inl (by simp)
        · rcases f140 b hb with q | q
          · exact .inl (by simp [q])
          · exact .inr (by omega)
    · -- the block is read
      have hct := df13.od.count cPt_len (by omega)
      have hcu := df13.oa.count cPt_len (by omega)
      obtain ⟨bd, hda, hdl⟩ := df13.od.at cPt_len (by omega) ht
      obtain ⟨ba, haa, hal⟩ := df13.oa.at cPt_len (by omega) ht'
      have hTL := df13.tl
      have hUL := df13.ul
      have hpg : (ints .i16 r.P)[x.1.toNat * 1]? = some (.int .i16 (r.P.getD x.1.toNat 0)) := by rw [Nat.mul_one]; exact ints_get (by omega)
      have nB : ∀ b ∈ t :: fp sv, b < H6.size := fun b hb => (tB b hb).2
      have nB' : ∀ b ∈ t' :: fp sv', b < H6.size := fun b hb => (tB' b hb).2
      have blk : ∀ {A : Hp} {Q' : Ints 64 × Int → Hp → Prop}, Keep H113 A → (∀ (X : Ints 64) H', (R.1 = 0 → X.1 = R.2.1 ∧ Src H' k ((l0.drop r.t).drop R.2.2.2) e (r.t + R.2.2.2) ∧ ((l0.drop r.t).drop R.2.2.2).map (·.1) = R.2.2.1) → Bk H' b19 40 (c40 0 (u : Int) ((r.t : Int) + (R.2.2.2 : Nat)) sl) → Ch [k, b19] A H' → Q' (X, (R.1 : Int)) H') →
          span_block.s (some ⟨k, 0, none⟩) (some ⟨t, 0, none⟩) (some ⟨t', 0, none⟩) (r.P.getD x.1.toNat 0) (some ⟨b19, 2, none⟩) A Q' := fun {A Q'} kk hQ => by
        have := block_ok (Q := Q') (dm13.src.keep kk) (tT.keep kk) (tT'.keep kk) tok tok' hpv (dm13.f19.keep kk) (by rw [hdr]; omega) (by omega) (fun hh => by have := nB _ hh; omega) (fun hh => by have := nB' _ hh; omega) (fun hh => by have := nB _ hh; omega) (fun hh => by have := nB' _ hh; omega) (by rw [hdr]; omega)
        rw [← dm7.rB, hR] at this
        exact this fun X H' z1 z2 z3 z4 z5 => hQ X H' z1 z4 z5
      refine ldP_i df13.f16 rfl (ldL_i df13.f8 rfl ⟨x0, by omega, _, hda, ldP_of0 hdl rfl (ldL_i df13.f8 rfl ⟨x0, by omega, _, haa, ldP_of0 hal rfl (ldL_i (v := ⟨some ⟨p, 0, none⟩, ps.length, ps.length⟩) df13.f28 rfl ⟨x0, x1, _, rfl, ldI_a dm13.pr hpg ⟨?_, ?_⟩⟩)⟩)⟩)
      · refine blk (Keep.refl _) fun X H173 z1 z4 z5 => ⟨Pv.ch z5 (by simp at hb110 ⊢; omega), ?_⟩
        intro b175 H177 c175 g175 g175' hbX
        have kk : Keep H173 H177 := c175.keep (by simp)
        have := z5.size
        exact hJ115 _ _ ⟨b175, X, rfl, hbX, by omega, fun hz => ⟨(z1 hz).1, (z1 hz).2.1.keep kk, (z1 hz).2.2⟩, z4.keep kk, ch_keep z5 kk⟩
      · intro b178 H179 c178 g178 g178'
        have kk : Keep H113 H179 := c178.keep (by simp)
        have y179 := kk.size
        refine ⟨cell_a (dm13.pr.keep kk) hpg, by rw [(df13.f28.keep kk).cell]; rfl, ?_, by rw [(df13.f8.keep kk).cell]; rfl, ?_, by rw [(df13.f8.keep kk).cell]; rfl, by rw [(df13.f16.keep kk).cell]; rfl, blk kk fun X H188 z1 z4 z5 => ⟨Pv.ch z5 (by simp; omega), ?_⟩⟩
        · obtain ⟨ba', haa', hal'⟩ := (df13.oa.kp kk).at cPt_len (by omega) ht'
          rw [haa] at haa'
          obtain rfl : ba = ba' := by injection haa' with h; injection h
          exact ldA_at0 hal' rfl
        · obtain ⟨bd', hda', hdl'⟩ := (df13.od.kp kk).at cPt_len (by omega) ht
          rw [hda] at hda'
          obtain rfl : bd = bd' := by injection hda' with h; injection h
          exact ldA_at0 hdl' rfl
        · intro H190 c190 hbX
          have := z5.size
          have := c190.size
          refine hJ115 _ _ ⟨b178, X, rfl, hbX, g178, fun hz => ⟨(z1 hz).1, (z1 hz).2.1.ch c190 (by simp; omega), (z1 hz).2.2⟩, z4.ch c190 (by simp; omega), ((kk.ch (F := [k, b19])).trans z5 (fun b hb => .inl hb)).trans c190 (by simp; omega)⟩
  · rintro G H108 ⟨sl, BL, rfl, df8, dm8, hb8, dfr8, hds8, lp8, nL8⟩
    refine .inl ⟨lp8, Up_s lp8 fun H192 s192 l192 => ?_⟩
    have hJn : JL.length = WL.length := hjLn
    rw [← hJn, List.take_length] at dm8
    have y192 := s192.size
    have df92 := df8.ch s192.ch (by simp; omega)
    have nn : ∀ {y}, y < N → y ∉ [H100.size + 1] := fun {y} hy hh => by simp at hh; omega
    have hDl : ∀ D ∈ H100.size :: Ds, D ∉ [H100.size + 1] := fun D hD hh => by have := (hds8 D hD).2.2.2; simp at hh; omega
    refine ldI_i (dm8.f19.ch s192.ch (nn (by omega))) rfl (st_i (dm8.f19.ch s192.ch (nn (by omega))) (by show 1 < 4; omega) fun H195 b195 s195 => ?_)
    have y195 := s195.size
    have hds95 : ∀ D ∈ H100.size :: Ds, D ∉ [b19] := fun D hD hh => by have := (hds8 D hD).1; simp at hh; omega
    rw [show (u : Int) + 1 = ((u + 1 : Nat) : Int) from by omega, w64n (by omega)] at b195 ⊢
    have nsl : ∀ b ∈ fp sl, b ∉ [b19] := fun b hb hh => by have := dm8.fr b hb; simp at hh; omega
    refine hrec _ _ ⟨u + 1, sl, BL, rfl, by omega, df92.ch s195.ch (by simp; omega), ?_, by omega, Dfr.ch s195.ch (Dfr.ch s192.ch dfr8 hDl) hds95, fun D hD => ⟨(hds8 D hD).1, (hds8 D hD).2.1⟩⟩ (by dsimp only; omega)
    rw [hnext]
    exact ⟨(dm8.src.ch s192.ch (nn (by omega))).ch s195.ch (by simp; omega), b195, (dm8.own.ch s192.ch (fun b hb hh => by rw [List.mem_singleton] at hh; subst hh; exact nL8 hb)).ch s195.ch nsl, dm8.bl, (dm8.pr.ch s192.ch (nn (by omega))).ch s195.ch (by simp; omega), dm8.pl, dm8.pv, dm8.rB, dm8.le, dm8.st, dm8.fr⟩
  · rintro G H108 ⟨sl, rfl, df8, hs0, hs1, f8, dfr8, hds8, lp8⟩
    refine .inr ⟨lp8, Up_s lp8 fun H196 s196 l196 => ?_⟩
    have hDl : ∀ D ∈ H100.size :: Ds, D ∉ [H100.size + 1] := fun D hD hh => by have := (hds8 D hD).2.2.2; simp at hh; omega
    rw [if_neg hs0] at hnext
    -- what comes behind does not turn it
    have hfin : ∀ m, jRd j cs ps TV (l0.map (·.1)) (u + 1 + m) = jRd j cs ps TV (l0.map (·.1)) (u + 1) := fun m => by
      induction m with
      | zero => rfl
      | succ m ih =>
        have : jRd j cs ps TV (l0.map (·.1)) (u + 1 + m + 1) = if (jRd j cs ps TV (l0.map (·.1)) (u + 1 + m)).1.st ≠ 0 then jRd j cs ps TV (l0.map (·.1)) (u + 1 + m) else (rdL (jT j TV ps) (jRd j cs ps TV (l0.map (·.1)) (u + 1 + m)).1 (Go.Proofs.Ytlfdfikgbdgfdaa.G.jL j cs ps (u + 1 + m)), if (rdL (jT j TV ps) (jRd j cs ps TV (l0.map (·.1)) (u + 1 + m)).1 (Go.Proofs.Ytlfdfikgbdgfdaa.G.jL j cs ps (u + 1 + m))).st = 0 then u + 1 + m + 1 else u + 1 + m) := rfl
        rw [show u + 1 + (m + 1) = u + 1 + m + 1 from by omega, this, ih, if_pos (by rw [hnext]; exact hs0)]
    have hend := hfin (j.u.toNat - (u + 1))
    rw [show u + 1 + (j.u.toNat - (u + 1)) = j.u.toNat from by omega, hnext] at hend
    exact hJ31 _ _ ⟨_, _, sl, [], hend, df8.ch s196.ch (by simp; omega), Dfr.ch s196.ch dfr8 hDl, fun D hD => ⟨(hds8 D hD).1, (hds8 D hD).2.1⟩, .inr ⟨hs0, hs1, f8.ch s196.ch (by simp; omega)⟩⟩
end
end Go.Proofs.Ytlfdfikgbdgfdaa.G
