/- Of this text what the row needs. -/
import Derived.Test.YtdekmgcdijnjiaaQPenCostZ18
import Derived.Test.YtdekmgcdijnjiaaQPenCostKpen
namespace Go.Proofs.Ytdekmgcdijnjiaa.G
open Go.RowKit
set_option linter.unusedVariables false
set_option linter.unusedSimpArgs false
set_option maxRecDepth 20000
abbrev Mk3 := Nat × Bool × Sy
def mkL (p : Nat) : List Sy → List Mk3
  | [] => []
  | x :: r => (p, true, x) :: r.map fun y => (p, false, y)
theorem mkL_len (p : Nat) (l : List Sy) : (mkL p l).length = l.length := by cases l <;> simp [mkL]
theorem mkL_get {p i : Nat} {l : List Sy} {x : Sy} (h : l[i]? = some x) : (mkL p l)[i]? = some (p, decide (i = 0), x) := by
  cases l with
  | nil => simp at h
  | cons y r =>
    cases i with
    | zero => simp at h; subst h; rfl
    | succ i =>
      have h' : r[i]? = some x := by simpa using h
      simp [mkL, h']
open Classical in
noncomputable def sE (B : List Int) (pred : Int) : Int := if ¬ mayB B then 3 else if 11 < bln (B.getD 0 0 - pred).natAbs then 60 else 0
noncomputable def mrk : List Int → List (Nat × List Int) → List Mk3 × Int
  | _, [] => ([], 0)
  | P, x :: r => if sE x.2 (P.getD x.1 0) ≠ 0 then ([], sE x.2 (P.getD x.1 0)) else (mkL x.1 (syF x.2 (P.getD x.1 0)) ++ (mrk (P.set x.1 (x.2.getD 0 0)) r).1, (mrk (P.set x.1 (x.2.getD 0 0)) r).2)
def syOk3 (f : Bool) (x : Sy) : Prop := smOk x ∧ x.2.1 = (((if f = true then x.1 else x.1 % 16) : Nat) : Int) ∧ (if f = true then x.1 else x.1 % 16) ≤ 11
theorem sy3 {B : List Int} {pred : Int} (hB : B.length = 64) (hm : mayB B) (hp : -32768 ≤ pred ∧ pred ≤ 32767) (hd : bln (B.getD 0 0 - pred).natAbs ≤ 11) {i : Nat} {x : Sy} (h : (syF B pred)[i]? = some x) : syOk3 (decide (i = 0)) x := by
  have hs := syF_ok hB hm hp hd x (List.mem_of_getElem? h)
  unfold syF at h
  cases i with
  | zero =>
    simp at h
    subst h
    refine ⟨hs, ?_, ?_⟩
    · show (bln (B.getD 0 0 - pred).natAbs : Int) = ((16 * 0 + bln (B.getD 0 0 - pred).natAbs : Nat) : Int)
      omega
    · show 16 * 0 + bln (B.getD 0 0 - pred).natAbs ≤ 11
      omega
  | succ i =>
    have h' : (wk 0 (B.drop 1))[i]? = some x := by simpa using h
    obtain ⟨w1, w2, w3, w4⟩ := wk_mem _ _ (may_mem hB hm) x (List.mem_of_getElem? h')
    rw [decf (by omega)]
    refine ⟨hs, ?_, ?_⟩
    · rw [if_neg (by simp)]; exact w1
    · rw [if_neg (by simp)]; omega
theorem se_no {B : List Int} {pred : Int} (h : ¬ sE B pred ≠ 0) : mayB B ∧ bln (B.getD 0 0 - pred).natAbs ≤ 11 := by
  unfold sE at h
  by_cases hm : mayB B
  · rw [if_neg (by simpa using hm)] at h
    by_cases hd : 11 < bln (B.getD 0 0 - pred).natAbs
    · rw [if_pos hd] at h; simp at h
    · exact ⟨hm, by omega⟩
  · rw [if_pos hm] at h; simp at h
theorem mkL_mem {p : Nat} {l : List Sy} {m : Mk3} (h : m ∈ mkL p l) : m.1 = p ∧ ∃ i, l[i]? = some m.2.2 ∧ m.2.1 = decide (i = 0) := by
  obtain ⟨i, hi⟩ := List.getElem?_of_mem h
  have hl := (List.getElem?_eq_some_iff.1 hi).1
  rw [mkL_len] at hl
  have := mkL_get (p := p) (List.getElem?_eq_getElem hl)
  rw [hi] at this
  injection this with this
  subst this
  exact ⟨rfl, i, List.getElem?_eq_getElem hl, rfl⟩
theorem mrk_all : ∀ (PB : List (Nat × List Int)) (P : List Int), (∀ v ∈ P, -32768 ≤ v ∧ v ≤ 32767) → (∀ x ∈ PB, x.2.length = 64) → (∀ m ∈ (mrk P PB).1, (∃ x ∈ PB, x.1 = m.1) ∧ syOk3 m.2.1 m.2.2) ∧ (mrk P PB).1.length ≤ 64 * PB.length
  | [], P, _, _ => by simp [mrk]
  | x :: r, P, hP, hx => by
    have hB := hx x (by simp)
    rw [mrk]
    by_cases he : sE x.2 (P.getD x.1 0) ≠ 0
    · rw [if_pos he]; simp
    rw [if_neg he]
    obtain ⟨hm, hd⟩ := se_no he
    have hpv : -32768 ≤ P.getD x.1 0 ∧ P.getD x.1 0 ≤ 32767 := by
      rw [List.getD_eq_getElem?_getD]
      cases hh : P[x.1]? with
      | none => simp
      | some v => exact hP v (List.mem_of_getElem? hh)
    obtain ⟨i1, i2⟩ := mrk_all r (P.set x.1 (x.2.getD 0 0)) (fun v hv => by
      rcases List.mem_or_eq_of_mem_set hv with hv | rfl
      · exact hP v hv
      · have := hm.1; omega) fun y hy => hx y (by simp [hy])
    have hyl := syF_len (pred := P.getD x.1 0) hB
    refine ⟨fun m hmm => ?_, ?_⟩
    · rcases List.mem_append.1 hmm with q | q
      · obtain ⟨q1, i, q2, q3⟩ := mkL_mem q
        exact ⟨⟨x, by simp, q1.symm⟩, by rw [q3]; exact sy3 hB hm hpv hd q2⟩
      · obtain ⟨⟨y, hy, q1⟩, q2⟩ := i1 m q
        exact ⟨⟨y, by simp [hy], q1⟩, q2⟩
    · simp only [List.length_append, mkL_len, List.length_cons]
      omega
theorem Symbols_e {H : Hp} {B : Ints 64} {pred : Int} {Q : Sl × Int → Hp → Prop} (hp : -32768 ≤ pred ∧ pred ≤ 32767)
    (h0 : sE B.1 pred ≠ 0 → ∀ H', Keep H H' → Q (⟨none, 0, 0⟩, sE B.1 pred) H')
    (h : sE B.1 pred = 0 → mayB B.1 → bln (B.1.getD 0 0 - pred).natAbs ≤ 11 → ∀ t H', Own H' 59 3 t ((syF B.1 pred).flatMap cS) → Keep H H' → (∀ b ∈ fp t, H.size ≤ b) → Q (t, 0) H') : runs_Symbols.s B pred H Q := by
  refine Symbols_ok hp (fun hn H' k => ?_) (fun hm hd H' k => ?_) fun hm hd t H' o k f => h ?_ hm hd t H' o k f
  · have e : sE B.1 pred = 3 := by unfold sE; rw [if_pos hn]
    rw [e] at h0
    exact h0 (by decide) H' k
  · have e : sE B.1 pred = 60 := by unfold sE; rw [if_neg (by simpa using hm), if_pos hd]
    rw [e] at h0
    exact h0 (by decide) H' k
  · unfold sE; rw [if_neg (by simpa using hm), if_neg (by omega)]
def doS (fv : Value) (part : Int) (first : Bool) (x y z : Int) (H : Hp) (Q : Int → Hp → Prop) : Prop :=
  (∃ p q : Addr, fv = .func (.func 13) #[] #[.pointer (some p), .pointer (some q)] ∧ pen_Encode_1.s part first x y z p q H Q) ∨
  (∃ p q r : Addr, fv = .func (.func 18) #[] #[.pointer (some p), .pointer (some q), .pointer (some r)] ∧ pen_Count_1.s part first x y z p q r H Q)
structure Ec (W H : Hp) (j : Jb) (a1 : Sl) (fv : Value) (dl al : Sl) (b b1 p3 b35 : Nat) : Prop where
  k : Keep W H
  dk : Bk H b 63 (cDk j dl al)
  f1 : Bk H b1 33 [.slice a1.a a1.n a1.c]
  f3 : ∃ T, Bk H p3 T [fv]
  f35 : Bk H b35 32 j.cells
theorem Ec.ch {W H H' : Hp} {j : Jb} {a1 : Sl} {fv : Value} {dl al : Sl} {b b1 p3 b35 : Nat} {F : List Nat} (a : Ec W H j a1 fv dl al b b1 p3 b35) (c : Ch F H H') (h1 : ∀ x ∈ F, W.size ≤ x) (h2 : ∀ x ∈ [b, b1, p3, b35], x ∉ F) : Ec W H' j a1 fv dl al b b1 p3 b35 :=
  ⟨(a.k.ch (F := [])).trans c (fun x hx => .inr (h1 x hx)) |>.keep (by simp), a.dk.ch c (h2 _ (by simp)), a.f1.ch c (h2 _ (by simp)), a.f3.imp fun T t => t.ch c (h2 _ (by simp)), a.f35.ch c (h2 _ (by simp))⟩
structure Ev (H : Hp) (M : List Mk3) (e : Int) (C : Mk3 → Prop) (S : Nat → List Nat → Hp → Prop) (lo N np p b7 b38 b75 : Nat) (PB : List (Nat × List Int)) (i : Nat) (Pi : List Int) (Mi : List Mk3) (Gs : List Nat) : Prop where
  f7 : Bk H b7 35 [.int .i64 0]
  f38 : Bk H b38 3 [.int .i64 (i : Int)]
  f75 : Bk H b75 85 [.slice (some ⟨p, 0, none⟩) np np]
  fp : Bk H p 47 (ints .i16 Pi)
  pl : Pi.length = np
  pv : ∀ v ∈ Pi, -32768 ≤ v ∧ v ≤ 32767
  ms : (M, e) = (Mi ++ (mrk Pi (PB.drop i)).1, (mrk Pi (PB.drop i)).2)
  st : S Mi.length Gs H
  cd : ∀ m ∈ Mi, C m
  gd : ∀ g ∈ Gs, g < lo ∨ N + 2 ≤ g
section
variable {W H : Hp} {j : Jb} {cs : List Cp} {ps : List Pa} {TV : Nat → List Nat}
set_option maxHeartbeats 4000000 in
theorem each_ok {b : Nat} {dl al a1 : Sl} {BL : List (Ints 64)} {fv : Value} {C : Mk3 → Prop} {S : Nat → List Nat → Hp → Prop} {Zf : Hp → Prop} {G0 : List Nat} {Q : Int → Hp → Prop} {PB : List (Nat × List Int)} {M : List Mk3} {e : Int}
    (J : JV W j cs ps TV) (kW : Keep W H) (dk : Bk H b 63 (cDk j dl al)) (gb : W.size ≤ b)
    (hP : Prt j.w j.h cs ps = 0) (f0 : 0 ≤ j.f) (u0 : 0 ≤ j.u) (fT : j.f + j.u ≤ (Uni j.w j.h cs ps).1 * (Uni j.w j.h cs ps).2)
    (hb : SlV W a1 64 cBl BL) (hbl : BL.length ≤ 1099511627776) (hbv : ∀ X ∈ BL, ∀ v ∈ X.1, -32768 ≤ v ∧ v ≤ 32767)
    (hPB : PB = ((walkL j.w j.h cs ps j.f.toNat j.u.toNat).map fun x => x.1.toNat).zip (BL.map (·.1))) (hM : mrk (List.replicate ps.length 0) PB = (M, e)) (hfv : fv.cells = [fv].toArray)
    (s0 : S 0 G0 H) (hlt : ∀ m G A, S m G A → ∀ g ∈ G, g < A.size ∧ W.size ≤ g ∧ g ≠ b)
    (hch : ∀ m G A B F, S m G A → Ch F A B → (∀ x ∈ F, H.size ≤ x ∧ x ∉ G) → S m G B) (zch : ∀ A B F, Zf A → Ch F A B → (∀ x ∈ F, H.size ≤ x) → Zf B)
    (hdo : ∀ m G A p f x R, M[m]? = some (p, f, x) → S m G A → Keep W A → p < ps.length → syOk3 f x → (∀ G' A', C (p, f, x) → S (m + 1) G' A' → Ch G A A' → (∀ g ∈ G', g ∈ G ∨ A.size ≤ g) → R 0 A') → (∀ A', ¬ C (p, f, x) → Zf A' → Ch G A A' → R 43 A') → doS fv (p : Int) f (x.1 : Int) x.2.1 (x.2.2 : Int) A R)
    (q252 : (walkL j.w j.h cs ps j.f.toNat j.u.toNat).length ≠ BL.length → ∀ H', S 0 G0 H' → Keep W H' → Q 252 H')
    (q43 : (walkL j.w j.h cs ps j.f.toNat j.u.toNat).length = BL.length → (∃ mk ∈ M, ¬ C mk) → ∀ H', Zf H' → Keep W H' → Q 43 H')
    (qe : (walkL j.w j.h cs ps j.f.toNat j.u.toNat).length = BL.length → (∀ mk ∈ M, C mk) → ∀ Gs H', S M.length Gs H' → Keep W H' → Q e H') :
    pen_desk_each.s (some ⟨b, 0, none⟩) a1 fv H Q := by
  have hjf := J.hf
  have hju := J.hu
  have hl4 := J.hl
  have hm4 := J.hm
  have hn4 := hb.n
  have each := each_le hP
  have uar := uni_area (w := j.w) (h := j.h) (cs := cs) (ps := ps)
  have yW := kW.size
  have dkl := dk.lt
  have g0l := hlt _ _ _ s0
  unfold pen_desk_each.s
  intro b1 H2 c2 g1 g1'
  have y2 := c2.size
  refine ⟨hfv, nw_i fun H4 b4 k4 z4 => ⟨Pv.keep k4 (by simp; omega), ?_⟩⟩
  intro b7 H8 c8 g7 g7'
  have y8 := c8.size
  have k8 : Keep H H8 := ((c2.keep (by simp)).trans k4).trans (c8.keep (by simp))
  have dk8 := dk.keep k8
  refine ⟨_, rfl, j.g, j.w, j.h, j.s, j.t, j.d0.1, j.d0.2, j.d1.1, j.d1.2, j.d2.1, j.d2.2, j.d3.1, j.d3.2, j.a0.1, j.a0.2, j.a1.1, j.a1.2, j.a2.1, j.a2.2, j.a3.1, j.a3.2, j.f, j.u, by rw [add_mk]; exact dk_job dk8, ?_⟩
  intro b35 H37 c37 g35 g35' b38 H40 c40 g38 g38'
  have y37 := c37.size
  have y40 := c40.size
  have k40 : Keep H H40 := k8.trans ((c37.keep (by simp)).trans (c40.keep (by simp)))
  have J40 := J.keep (kW.trans k40)
  obtain ⟨wf, we⟩ := wEnd_at (f := j.f) (u := j.u) (T := (Uni j.w j.h cs ps).1 * (Uni j.w j.h cs ps).2) f0 u0 (by omega)
  have we' : wEnd j.f j.u ((Uni j.w j.h cs ps).1 * (Uni j.w j.h cs ps).2) = j.f + j.u := by rw [we]; omega
  refine Walk_ok J40.hs J40.hok (by omega) J40.ht J40.hpk (by omega) (by omega) (by omega) fun p5 p40 w1 w3 p26 l8 m8 H42 wb k42 lo => ⟨Pv.keep k42 (by simp; omega), fun q1 q7 q35 q38 => ?_⟩
  rw [wf, we'] at wb
  have y42 := k42.size
  have hp3 : ∃ T, Bk H42 H2.size T [fv] := ⟨_, (b4.keep (c8.keep (by simp))).keep (((c37.keep (by simp)).trans (c40.keep (by simp))).trans k42)⟩
  have k42' : Keep H H42 := k40.trans k42
  refine Rg_i fun r44 H47 hr44 k47 z47 hD47 hl47 => ?_
  have sq := walk_seq (wb.keep k47) J.hok (by omega) (by omega) (.func (.yield (H42.size + 1)) #[] #[])
  have hWn := walk_len (w := j.w) (h := j.h) hP j.f.toNat ((j.f + j.u).toNat - j.f.toNat)
  rw [show (j.f + j.u).toNat - j.f.toNat = j.u.toNat from by omega] at sq hWn
  have hin : ∀ {x : Sp}, x ∈ walkL j.w j.h cs ps j.f.toNat j.u.toNat → 0 ≤ x.1 ∧ x.1 < ps.length := fun {x} hx => walkIn hx
  have hW30 : (walkL j.w j.h cs ps j.f.toNat j.u.toNat).length ≤ 687173796000 := by
    rw [hWn]
    have := Nat.mul_le_mul (show j.u.toNat ≤ 68717379600 by omega) each.2
    omega
  have k47' := k42'.trans k47
  have ec47 : Ec W H47 j a1 fv dl al b b1 H2.size b35 := ⟨kW.trans k47', dk.keep k47', q1.keep k47, hp3.imp fun T t => t.keep k47, q35.keep k47⟩
  have st47 : S 0 G0 H47 := hch _ _ _ _ [] s0 (k47'.ch) (by simp)
  refine sq _ _ (fun i G H' => G = [H42.size + 1, b38] ∧ Bk H' b38 3 [.int .i64 (i : Int)] ∧ Bk H' b7 35 [.int .i64 0] ∧ Lp H' (H42.size + 1) r44 ∧ Dfr [H42.size] H' ∧ Ec W H' j a1 fv dl al b b1 H2.size b35 ∧ S 0 G0 H' ∧ H47.size ≤ H'.size) (fun _ _ => False) [H42.size + 1, b38] ?_ ?_ ?_ ?_ ?_ ?_ ?_ ?_
  · intro x hx hh
    have r1 := lo x hh
    have r2 := wb.lts x hh
    simp at hx; omega
  · exact ⟨rfl, q38.keep k47, q7.keep k47, hl47, ⟨hD47, by simp, trivial⟩, ec47, st47, Nat.le_refl _⟩
  · rintro i G A B F ⟨rfl, a2, a3, a4, a5, a6, a7, a8⟩ kk hF
    have nF : ∀ {y}, y < H47.size → y ∉ F := fun {y} hy hh => by have := (hF y hh).1; omega
    have := kk.size
    exact ⟨rfl, a2.ch kk (nF (by omega)), a3.ch kk (nF (by omega)), a4.ch kk (nF (by omega)), Dfr.ch kk a5 (fun D hD' => nF (by simp at hD'; omega)), a6.ch kk (fun x hx => by have := (hF x hx).1; omega) (fun x hx => nF (by simp at hx; omega)), hch _ _ _ _ _ a7 kk (fun x hx => ⟨by have := (hF x hx).1; omega, fun hh => by have := (g0l x hh).1; have := (hF x hx).1; omega⟩), by omega⟩
  · exact fun G A B F h _ _ => h
  · rintro i G A ⟨rfl, a2, a3, a4, a5, a6, a7, a8⟩ x hx
    have := a4.lt
    have := a2.lt
    simp at hx; omega
  · rintro i G x H50 K hx ⟨rfl, a2, a3, a4, a5, a6, a7, a8⟩ hT' hF'
    have hil := (List.getElem?_eq_some_iff.1 hx).1
    refine ⟨a4, a4, Up_s a4 fun H53 s53 l53 => ?_⟩
    have c53 := a2.same s53 (by omega)
    refine ldI_i c53 rfl (st_i c53 (by simp) fun H56 b56 s56 => ?_)
    rw [show (i : Int) + 1 = ((i + 1 : Nat) : Int) from by omega, w64n (by omega)] at b56
    have l56 := l53.ch s56.ch (by simp; omega)
    have cA : Ch [H42.size + 1, b38] H50 (putL H56 (H42.size + 1) r44) := ((s53.ch.mono (G := [H42.size + 1, b38]) (by simp)).trans s56.ch (by simp)).trans putL_same.ch (by simp)
    have yA := cA.size
    have nE : ∀ {y}, y ≠ H42.size + 1 → y ≠ b38 → y ∉ [H42.size + 1, b38] := fun {y} h1 h2 hh => by simp at hh; omega
    exact ⟨l56, hT' _ _ ⟨rfl, b56.same putL_same (by omega), a3.ch cA (nE (by omega) (by omega)), putL_lp l56, Dfr.ch cA a5 (fun D hD' => by simp at hD'; exact nE (by omega) (by omega)), a6.ch cA (fun x hx => by simp at hx; omega) (fun x hx => nE (by simp at hx; omega) (by simp at hx; omega)), hch _ _ _ _ _ a7 cA (fun x hx => ⟨by simp at hx; omega, fun hh => by have := (g0l x hh).1; simp at hx; omega⟩), by omega⟩ cA fun x hx => .inl hx⟩
  rotate_left
  · exact fun _ _ h => h.elim
  rintro G H51 ⟨rfl, a2, a3, a4, a5, a6, a7, a8⟩
  refine ⟨a4, Up_s a4 fun H58 s58 l58 => ?_⟩
  have y58 := s58.size
  have c58 := a2.same s58 (by omega)
  have e58 := a6.ch s58.ch (by simp; omega) (fun x hx => by simp at hx ⊢; omega)
  have t58 := hch _ _ _ _ _ a7 s58.ch (fun x hx => ⟨by simp at hx; omega, fun hh => by have := (g0l x hh).1; simp at hx; omega⟩)
  have d58 : Dfr [H42.size] H58 := Dfr.ch s58.ch a5 (by simp)
  have r58 := a3.same s58 (by omega)
  refine ldI_i c58 rfl (ldL_i (v := a1) e58.f1 rfl ?_)
  by_cases hWB : (walkL j.w j.h cs ps j.f.toNat j.u.toNat).length = BL.length
  rotate_left
  · refine ite_t (bnet (by omega)) (st_i r58 (by simp) fun H63 b63 s63 => tkD_ok (Dfr.ch s63.ch d58 (by simp; omega)) fun H64 c64 z64 => ldI_i (b63.ch c64 (by simp; omega)) rfl ?_)
    have cA : Ch [b7, H42.size] H58 H64 := (s63.ch.mono (G := [b7, H42.size]) (by simp)).trans c64 (by simp)
    exact q252 hWB _ (hch _ _ _ _ _ t58 cA (fun x hx => ⟨by simp at hx; omega, fun hh => by have := (g0l x hh).1; simp at hx; omega⟩)) ((e58.k.ch (F := [])).trans cA (by simp; omega) |>.keep (by simp))
  have hn := J.ht.n
  refine ite_f (bnei (by omega)) (job_parts e58.f35 ⟨by omega, by omega, by omega, nwA_i fun H74 b74 k74 z74 => ?_⟩)
  rw [Int.toNat_natCast, hn, made16] at b74
  intro b75 H77 c77 g75 g75'
  have y74 := k74.size
  have y77 := c77.size
  have k77 : Keep H58 H77 := k74.trans (c77.keep (by simp))
  have c77' := c58.keep k77
  refine st_i c77' (by simp) fun H78 b78 s78 => ⟨Pv.ch s78.ch (by simp; omega), ?_⟩
  have y78 := s78.size
  have cB : Ch [b38] H58 H78 := (k77.ch (F := [b38])).trans s78.ch (by simp)
  have e78 := e58.ch cB (by simp; omega) (fun x hx => by simp at hx ⊢; omega)
  have t78 := hch _ _ _ _ _ t58 cB (fun x hx => ⟨by simp at hx; omega, fun hh => by have := (g0l x hh).1; simp at hx; omega⟩)
  have d78 : Dfr [H42.size] H78 := Dfr.ch cB d58 (by simp; omega)
  have r78 := r58.ch cB (by simp; omega)
  have p78 := (b74.keep (c77.keep (by simp))).same s78 (by omega)
  have J78 := J.keep e78.k
  refine ⟨_, _, _, _, job_frame e78.f35, job_parts e78.f35 (job_at e78.f35 (.inl ⟨rfl, rfl⟩) (job_at e78.f35 (.inr ⟨rfl, rfl⟩) ?_))⟩
  refine Walk_ok J78.hs J78.hok (by omega) J78.ht J78.hpk (by omega) (by omega) (by omega) fun v5 v40 v1 v3 v26 l9 m9 H92 wb2 k92 lo2 => ⟨Pv.keep k92 (by simp; omega), fun q75 => ?_⟩
  rw [wf, we'] at wb2
  have y92 := k92.size
  rw [Int.toNat_natCast, hn] at q75
  refine Rg_i fun rr H97 hrr k97 z97 hD97 hl97 => ?_
  have sq2 := walk_seq (wb2.keep k97) J.hok (by omega) (by omega) (.func (.yield (H92.size + 1)) #[] #[])
  rw [show (j.f + j.u).toNat - j.f.toNat = j.u.toNat from by omega] at sq2
  generalize walkL j.w j.h cs ps j.f.toNat j.u.toNat = WL at *
  have kk97 := k92.trans k97
  have e97 : Ec W H97 j a1 fv dl al b b1 H2.size b35 := e78.ch (kk97.ch (F := [])) (by simp) (by simp)
  have t97 : S 0 G0 H97 := hch _ _ _ _ [] t78 kk97.ch (by simp)
  have hPBl : PB.length = WL.length := by rw [hPB]; simp; omega
  have hPBi : ∀ {i : Nat} {x : Sp} {X : Ints 64}, WL[i]? = some x → BL[i]? = some X → PB[i]? = some (x.1.toNat, X.1) := fun {i x X} h1 h2 => by
    rw [hPB, List.getElem?_zip_eq_some, List.getElem?_map, List.getElem?_map, h1, h2]
    exact ⟨rfl, rfl⟩
  have hord : H.size ≤ b1 ∧ b1 < H2.size ∧ H2.size < b7 ∧ b7 < b35 ∧ b35 < b38 ∧ b38 < H42.size ∧ H42.size + 2 ≤ H58.size ∧ H58.size < b75 ∧ b75 < H92.size := by omega
  generalize hp : H58.size = p at *
  generalize hN : H92.size = N at *
  generalize hD : H42.size = D at *
  generalize hp3e : H2.size = p3 at *
  have ev97 : Ev H97 M e C S H.size N ps.length p b7 b38 b75 PB 0 (List.replicate ps.length 0) [] G0 := ⟨r78.keep kk97, b78.keep kk97, q75.keep k97, p78.keep kk97, by simp, fun v hv => by rw [List.mem_replicate] at hv; omega, by rw [← hM]; rfl, t97, by simp, fun g hg => .inl (g0l g hg).1⟩
  have hNs : N + 2 = H97.size := by omega
  refine sq2 _ _ (fun i G H' => ∃ (Pi : List Int) (Mi : List Mk3) (Gs : List Nat), G = (N + 1) :: b38 :: p :: b7 :: Gs ∧ Ec W H' j a1 fv dl al b b1 p3 b35 ∧ Ev H' M e C S H.size N ps.length p b7 b38 b75 PB i Pi Mi Gs ∧ Lp H' (N + 1) rr ∧ Dfr [N, D] H' ∧ N + 2 ≤ H'.size)
    (fun G H' => ∃ (er : Int) (Gs : List Nat), G = (N + 1) :: b38 :: p :: b7 :: Gs ∧ Bk H' b7 35 [.int .i64 er] ∧ Lp H' (N + 1) (dn rr .ret) ∧ Dfr [N, D] H' ∧ Keep W H' ∧ (∀ g ∈ Gs, g < H.size ∨ N + 2 ≤ g) ∧ N + 2 ≤ H'.size ∧ ((er = 43 ∧ (∃ mk ∈ M, ¬ C mk) ∧ Zf H') ∨ (er = e ∧ (∀ mk ∈ M, C mk) ∧ S M.length Gs H'))) ((N + 1) :: b38 :: p :: b7 :: G0) ?_ ?_ ?_ ?_ ?_ ?_ ?_ ?_
  · intro x hx hh
    have r1 := lo2 x hh
    have r2 := wb2.lts x hh
    simp only [List.mem_cons] at hx
    rcases hx with q | q | q | q | q
    · omega
    · omega
    · omega
    · omega
    · have := (g0l x q).1; omega
  · exact ⟨_, _, _, rfl, e97, ev97, hl97, ⟨hD97, by simp; omega, (Dfr.keep d78 kk97).1, by simp, trivial⟩, by omega⟩
  · rintro i G A B F ⟨Pi, Mi, Gs, rfl, a2, a3, a4, a5, a6⟩ kk hF
    have nF : ∀ {y}, y < H97.size → y ∉ F := fun {y} hy hh => by have := (hF y hh).1; omega
    have := kk.size
    refine ⟨Pi, Mi, Gs, rfl, a2.ch kk (fun x hx => by have := (hF x hx).1; omega) (fun x hx => nF (by simp at hx; omega)), ⟨a3.f7.ch kk (nF (by omega)), a3.f38.ch kk (nF (by omega)), a3.f75.ch kk (nF (by omega)), a3.fp.ch kk (nF (by omega)), a3.pl, a3.pv, a3.ms, hch _ _ _ _ _ a3.st kk (fun x hx => ⟨by have := (hF x hx).1; omega, fun hh => (hF x hx).2 (by simp [hh])⟩), a3.cd, a3.gd⟩, a4.ch kk (nF (by omega)), Dfr.ch kk a5 (fun D' hD' => nF (by simp at hD'; omega)), by omega⟩
  · rintro G A B F ⟨er, Gs, rfl, a2, a3, a4, a5, a6, a7, a8⟩ kk hF
    have nF : ∀ {y}, y < H97.size → y ∉ F := fun {y} hy hh => by have := (hF y hh).1; omega
    have := kk.size
    refine ⟨er, Gs, rfl, a2.ch kk (nF (by omega)), a3.ch kk (nF (by omega)), Dfr.ch kk a4 (fun D' hD' => nF (by simp at hD'; omega)), (a5.ch (F := [])).trans kk (fun x hx => .inr (by have := (hF x hx).1; omega)) |>.keep (by simp), a6, by omega, ?_⟩
    rcases a8 with ⟨h1, h2, h3⟩ | ⟨h1, h2, h3⟩
    · exact .inl ⟨h1, h2, zch _ _ _ h3 kk fun x hx => by have := (hF x hx).1; omega⟩
    · exact .inr ⟨h1, h2, hch _ _ _ _ _ h3 kk fun x hx => ⟨by have := (hF x hx).1; omega, fun hh => (hF x hx).2 (by simp [hh])⟩⟩
  · rintro i G A ⟨Pi, Mi, Gs, rfl, a2, a3, a4, a5, a6⟩ x hx
    simp only [List.mem_cons] at hx
    rcases hx with rfl | rfl | rfl | rfl | q
    · exact a4.lt
    · exact a3.f38.lt
    · exact a3.fp.lt
    · exact a3.f7.lt
    · exact (hlt _ _ _ a3.st x q).1
  · rintro i G x H100 K hx ⟨Pi, Mi, Gs, rfl, ec, ev, lp, dfr, h100⟩ hT' hF'
    have hil := (List.getElem?_eq_some_iff.1 hx).1
    obtain ⟨x0, x1⟩ := hin (List.mem_of_getElem? hx)
    have gsl := hlt _ _ _ ev.st
    have gd := ev.gd
    have nG : ∀ {y}, H.size ≤ y → y < N + 2 → y ∉ Gs := fun {y} h1 h2 hh => by have := gd y hh; omega
    have nG' : ∀ {y}, H100.size ≤ y → y ∉ Gs := fun {y} h1 hh => by have := (gsl y hh).1; omega
    refine ⟨lp, ?_⟩
    intro b103 H105 c105 g103 g103'
    have k105 : Keep H100 H105 := c105.keep (by simp)
    have y105 := c105.size
    have l105 := lp.ch c105 (by simp)
    have lpl := lp.lt
    refine ⟨l105, Up_s l105 fun H106 s106 l106 => ⟨Pv.ch s106.ch (by simp; omega), ?_⟩⟩
    have y106 := s106.size
    have cg : Ch ((N + 1) :: b38 :: p :: b7 :: Gs) H100 H106 := (k105.ch (F := (N + 1) :: b38 :: p :: b7 :: Gs)).trans s106.ch (by simp)
    have c1 : Ch [N + 1] H100 H106 := (k105.ch (F := [N + 1])).trans s106.ch (by simp)
    have n1 : ∀ {y}, y ≠ N + 1 → y ∉ [N + 1] := fun {y} h hh => by simp at hh; omega
    have ec1 := ec.ch c1 (by simp; omega) (fun x hx => n1 (by simp at hx; omega))
    have st1 := hch _ _ _ _ _ ev.st c1 (fun x hx => ⟨by simp at hx; omega, by simp at hx; subst hx; exact nG (by omega) (by omega)⟩)
    have f7 := ev.f7.ch c1 (n1 (by omega))
    have f38 := ev.f38.ch c1 (n1 (by omega))
    have f75 := ev.f75.ch c1 (n1 (by omega))
    have fpp := ev.fp.ch c1 (n1 (by omega))
    have dfr1 : Dfr [N, D] H106 := Dfr.ch c1 dfr (fun D' hD' => n1 (by simp at hD'; omega))
    -- a stop
    have stop : ∀ {A : Hp} {er : Int} {Gz : List Nat}, Ch ((N + 1) :: b38 :: p :: b7 :: Gs) H100 A → Bk A b7 35 [.int .i64 0] → Lp A (N + 1) (bsy rr) → Dfr [N, D] A → Keep W A → (∀ g ∈ Gz, g ∈ Gs ∨ H100.size ≤ g) → ((er = 43 ∧ (∃ mk ∈ M, ¬ C mk) ∧ Zf A) ∨ (er = e ∧ (∀ mk ∈ M, C mk) ∧ S M.length Gz A)) →
        st A (⟨b7, 0, none⟩ : Addr) (.int .i64 er) (fun H139 => Lp H139 (N + 1) (bsy rr) ∧ K false (putL H139 (N + 1) (dn rr .ret))) := fun {A er Gz} cA fA lA dA kA hGz hE => by
      refine st_i fA (by simp) fun H139 b139 s139 => ?_
      have l139 := lA.ch s139.ch (by simp; omega)
      have cc : Ch [b7, N + 1] A (putL H139 (N + 1) (dn rr .ret)) := (s139.ch.mono (G := [b7, N + 1]) (by simp)).trans putL_same.ch (by simp)
      have yc := cc.size
      have yA := cA.size
      refine ⟨l139, hF' ((N + 1) :: b38 :: p :: b7 :: Gz) _ ⟨er, Gz, rfl, b139.same putL_same (by omega), putL_lp l139, Dfr.ch cc dA (fun D' hD' => by simp at hD' ⊢; omega), (kA.ch (F := [])).trans cc (by simp; omega) |>.keep (by simp), fun g hg => ?_, by omega, ?_⟩ (cA.trans cc (by simp)) fun g hg => ?_⟩
      · rcases hGz g hg with q | q
        · exact gd g q
        · omega
      · rcases hE with ⟨h1, h2, h3⟩ | ⟨h1, h2, h3⟩
        · exact .inl ⟨h1, h2, zch _ _ _ h3 cc (by simp; omega)⟩
        · refine .inr ⟨h1, h2, hch _ _ _ _ _ h3 cc fun x hx => ⟨by simp at hx; omega, fun hh => ?_⟩⟩
          rcases hGz x hh with q | q
          · exact nG (by simp at hx; omega) (by simp at hx; omega) q
          · simp at hx; omega
      · simp only [List.mem_cons] at hg ⊢
        rcases hg with q | q | q | q | q
        · exact .inl (.inl q)
        · exact .inl (.inr (.inl q))
        · exact .inl (.inr (.inr (.inl q)))
        · exact .inl (.inr (.inr (.inr (.inl q))))
        · rcases hGz g q with q | q
          · exact .inl (.inr (.inr (.inr (.inr q))))
          · exact .inr q
    obtain ⟨X, hX⟩ : ∃ X, BL[i]? = some X := ⟨_, get_some (by omega)⟩
    have hb1 := hb.keep ec1.k
    obtain ⟨ba, oa, haa, hA⟩ := hb1.get hX
    have hXv := hbv X (List.mem_of_getElem? hX)
    have hpl := ev.pl
    have hp4 : x.1.toNat < Pi.length := by omega
    have hpv : -32768 ≤ Pi.getD x.1.toNat 0 ∧ Pi.getD x.1.toNat 0 ≤ 32767 := by
      rw [List.getD_eq_getElem?_getD, List.getElem?_eq_getElem (by omega)]
      exact ev.pv _ (List.getElem_mem _)
    have hdr : PB.drop i = (x.1.toNat, X.1) :: PB.drop (i + 1) := by
      obtain ⟨q1, q2⟩ := List.getElem?_eq_some_iff.1 (hPBi hx hX)
      rw [List.drop_eq_getElem_cons q1, q2]
    have hms := ev.ms
    rw [hdr, mrk] at hms
    dsimp only at hms
    refine ldL_i (v := a1) ec1.f1 rfl (ldI_i f38 rfl ⟨by omega, by omega, _, haa, X, by rw [Int.toNat_natCast]; exact hA, ?_⟩)
    intro b118 H120 c120 g118 g118'
    have k120 : Keep H106 H120 := c120.keep (by simp)
    have y120 := c120.size
    have f382 := f38.keep k120
    refine ldI_i f382 rfl (st_i f382 (by simp) fun H123 b123 s123 => ⟨Pv.ch s123.ch (by simp; omega), ?_⟩)
    rw [show (i : Int) + 1 = ((i + 1 : Nat) : Int) from by omega, w64n (by omega)] at b123
    have y123 := s123.size
    have c2' : Ch [b38] H106 H123 := (k120.ch (F := [b38])).trans s123.ch (by simp)
    have n2 : ∀ {y}, y ≠ b38 → y ∉ [b38] := fun {y} h hh => by simp at hh; omega
    have ec2 := ec1.ch c2' (by simp; omega) (fun x hx => n2 (by simp at hx; omega))
    have st2 := hch _ _ _ _ _ st1 c2' (fun x hx => ⟨by simp at hx; omega, by simp at hx; subst hx; exact nG (by omega) (by omega)⟩)
    have f72 := f7.ch c2' (n2 (by omega))
    have f752 := f75.ch c2' (n2 (by omega))
    have fp2 := fpp.ch c2' (n2 (by omega))
    have dfr2 : Dfr [N, D] H123 := Dfr.ch c2' dfr1 (fun D' hD' => n2 (by simp at hD'; omega))
    have l2 := l106.ch c2' (n2 (by omega))
    have cg2 : Ch ((N + 1) :: b38 :: p :: b7 :: Gs) H100 H123 := cg.trans c2' (by simp)
    refine ldL_i (v := ⟨some ⟨p, 0, none⟩, ps.length, ps.length⟩) f752 rfl ⟨x0, by dsimp only; omega, _, rfl, ldI_a fp2 (v := Pi.getD x.1.toNat 0) (by rw [Nat.mul_one]; exact ints_get hp4) (Symbols_e hpv (fun hne H137 k137 => ⟨Pv.keep k137 (by simp; omega), ?_⟩) fun hz hmy hd tl H137 otl k137 ftl => ⟨Pv.keep k137 (by simp; omega), ?_⟩)⟩
    · rw [if_pos hne] at hms
      have hM1 : M = Mi := by have := congrArg Prod.fst hms; simpa using this
      have hE1 : e = sE X.1 (Pi.getD x.1.toNat 0) := congrArg Prod.snd hms
      refine ite_t (bnet hne) (stop (Gz := Gs) (cg2.trans (k137.ch (F := [])) (by simp)) (f72.keep k137) (l2.ch (k137.ch (F := [])) (by simp)) (dfr2.keep k137) (ec2.k.trans k137) (fun g hg => .inl hg) (.inr ⟨hE1.symm, by rw [hM1]; exact ev.cd, ?_⟩))
      rw [hM1]
      exact hch _ _ _ _ [] st2 k137.ch (by simp)
    rw [if_neg (by omega)] at hms
    have y137 := k137.size
    have hyl := syF_len (pred := Pi.getD x.1.toNat 0) X.2
    have hsm : ∀ (i : Nat) (z : Sy), (syF X.1 (Pi.getD x.1.toNat 0))[i]? = some z → syOk3 (decide (i = 0)) z := fun i z hz => sy3 X.2 hmy hpv hd hz
    generalize hys : syF X.1 (Pi.getD x.1.toNat 0) = ys at hyl hsm otl hms
    have cty := otl.count cS_len (by omega)
    have f753 := f752.keep k137
    refine ite_f rfl (ldL_i (v := ⟨some ⟨p, 0, none⟩, ps.length, ps.length⟩) f753 rfl fun t118 => ?_)
    have hv0 : (cBl X)[0]? = some (.int .i16 (X.1.getD 0 0)) := ints_get (by rw [X.2]; decide)
    have fp3 := fp2.keep k137
    refine ldI_i t118 hv0 ⟨x0, by dsimp only; omega, _, rfl, st_a fp3 (by rw [ints_length]; omega) fun H148 b148 s148 => ⟨Pv.ch s148.ch (by simp; omega), ?_⟩⟩
    rw [Nat.mul_one, ints_set] at b148
    have y148 := s148.size
    have c3' : Ch [p] H123 H148 := (k137.ch (F := [p])).trans s148.ch (by simp)
    have n3 : ∀ {y}, y ≠ p → y ∉ [p] := fun {y} h hh => by simp at hh; omega
    have ec3 := ec2.ch c3' (by simp; omega) (fun x hx => n3 (by simp at hx; omega))
    have st3 := hch _ _ _ _ _ st2 c3' (fun x hx => ⟨by simp at hx; omega, by simp at hx; subst hx; exact nG (by omega) (by omega)⟩)
    have f73 := f72.ch c3' (n3 (by omega))
    have f754 := f752.ch c3' (n3 (by omega))
    have f383 := b123.ch c3' (n3 (by omega))
    have dfr3 : Dfr [N, D] H148 := Dfr.ch c3' dfr2 (fun D' hD' => n3 (by simp at hD'; omega))
    have l3 := l2.ch c3' (n3 (by omega))
    have cg3 : Ch ((N + 1) :: b38 :: p :: b7 :: Gs) H100 H148 := cg2.trans c3' (by simp)
    have otl3 := otl.ch s148.ch (fun b hb' hh => by have := ftl b hb'; simp at hh; omega)
    have hMM : M = Mi ++ (mkL x.1.toNat ys ++ (mrk (Pi.set x.1.toNat (X.1.getD 0 0)) (PB.drop (i + 1))).1) := congrArg Prod.fst hms
    have hee : e = (mrk (Pi.set x.1.toNat (X.1.getD 0 0)) (PB.drop (i + 1))).2 := congrArg Prod.snd hms
    -- its symbols
    refine Fix.intro (fun (s : Int) H' => ∃ (q : Nat) (Gz : List Nat), s = (q : Int) ∧ q ≤ ys.length ∧ S (Mi.length + q) Gz H' ∧ Ch Gs H148 H' ∧ (∀ g ∈ Gz, g ∈ Gs ∨ H148.size ≤ g) ∧ ∀ m ∈ (mkL x.1.toNat ys).take q, C m) (fun s _ => ys.length - s.toNat)
      ⟨0, Gs, rfl, by omega, st3, Ch.refl _ _, fun g hg => .inl hg, by simp⟩ ?_
    rintro _ H153 ⟨q, Gz, rfl, hq, stz, cz, gz, cdz⟩ rec hrec
    dsimp only
    have y153 := cz.size
    have nS : ∀ {y}, H.size ≤ y → y < N + 2 → y ∉ Gs := nG
    have ec4 := ec3.ch cz (fun x hx => (gsl x hx).2.1) (fun y hy hh => by
      simp only [List.mem_cons, List.mem_nil_iff, or_false] at hy
      rcases hy with rfl | rfl | rfl | rfl
      · exact (gsl _ hh).2.2 rfl
      · exact nG (by omega) (by omega) hh
      · exact nG (by omega) (by omega) hh
      · exact nG (by omega) (by omega) hh)
    have l4 := l3.ch cz (nG (by omega) (by omega))
    have f74 := f73.ch cz (nG (by omega) (by omega))
    have dfr4 : Dfr [N, D] H153 := Dfr.ch cz dfr3 (fun D' hD' => nG (by simp at hD'; omega) (by simp at hD'; omega))
    have cg4 : Ch ((N + 1) :: b38 :: p :: b7 :: Gs) H100 H153 := cg3.trans cz (fun g hg => .inl (by simp [hg]))
    by_cases hql : q < ys.length
    rotate_left
    · obtain rfl : q = ys.length := by omega
      refine ite_f (decf (by omega)) ⟨l4, hT' ((N + 1) :: b38 :: p :: b7 :: Gz) _ ⟨Pi.set x.1.toNat (X.1.getD 0 0), Mi ++ mkL x.1.toNat ys, Gz, rfl, ec4.ch putL_same.ch (by simp; omega) (fun x hx => by simp at hx ⊢; omega), ?_, putL_lp l4, Dfr.ch putL_same.ch dfr4 (by simp; omega), by have := (putL_same (H := H153) (l := N + 1) (r := rr)).size; omega⟩ (cg4.trans putL_same.ch (by simp)) fun g hg => ?_⟩
      · have nGz : N + 1 ∉ Gz := fun hh => by
          rcases gz _ hh with r | r
          · exact nG (by omega) (by omega) r
          · omega
        refine ⟨f74.same putL_same (by omega), (f383.ch cz (nG (by omega) (by omega))).same putL_same (by omega), (f754.ch cz (nG (by omega) (by omega))).same putL_same (by omega), (b148.ch cz (nG (by omega) (by omega))).same putL_same (by omega), by rw [List.length_set]; exact hpl, fun v hv => ?_, ?_, ?_, ?_, fun g hg => ?_⟩
        · rcases List.mem_or_eq_of_mem_set hv with hv | rfl
          · exact ev.pv v hv
          · have := hmy.1; omega
        · rw [hMM, ← hee, List.append_assoc]
        · rw [List.length_append, mkL_len]
          exact hch _ _ _ _ _ stz putL_same.ch (fun x hx => ⟨by simp at hx; omega, by simp at hx; subst hx; exact nGz⟩)
        · intro m hm
          rcases List.mem_append.1 hm with hm | hm
          · exact ev.cd m hm
          · exact cdz m (by rw [List.take_of_length_le (by rw [mkL_len]; omega)]; exact hm)
        · rcases gz g hg with r | r
          · exact gd g r
          · omega
      · simp only [List.mem_cons] at hg ⊢
        rcases hg with r | r | r | r | r
        · exact .inl (.inl r)
        · exact .inl (.inr (.inl r))
        · exact .inl (.inr (.inr (.inl r)))
        · exact .inl (.inr (.inr (.inr (.inl r))))
        · rcases gz g r with r | r
          · exact .inl (.inr (.inr (.inr (.inr r))))
          · exact .inr (by omega)
    obtain ⟨y, hy⟩ : ∃ y, ys[q]? = some y := ⟨_, get_some hql⟩
    have hy3 := mkL_get (p := x.1.toNat) hy
    have hMq : M[Mi.length + q]? = some (x.1.toNat, decide (q = 0), y) := by
      rw [hMM, List.getElem?_append_right (by omega), show Mi.length + q - Mi.length = q from by omega, List.getElem?_append_left (by rw [mkL_len]; omega)]
      exact hy3
    have otl4 := otl3.ch cz (fun b hb' => nG' (by have := ftl b hb'; omega))
    obtain ⟨bt, hta, htA⟩ := otl4.at cS_len (by omega) hy
    refine ite_t (dect (by omega)) ⟨by omega, by omega, _, hta, _, _, _, by rw [Int.toNat_natCast]; exact htA, ?_⟩
    intro b164 H166 c166 g164 g164'
    have k166 : Keep H153 H166 := c166.keep (by simp)
    obtain ⟨T3, t3⟩ := ec4.f3
    refine ⟨fv, by rw [(t3.keep k166).cell]; rfl, ?_⟩
    have y166 := c166.size
    have stz' := hch _ _ _ _ [] stz (k166.ch) (by simp)
    have e0 : ((q : Int) == 0) = decide (q = 0) := by
      by_cases h0 : q = 0
      · rw [dect h0]; exact beqi (by omega)
      · rw [decf h0]; exact beqf (by omega)
    have nb103 : b103 ∉ Gz := fun hh => by
      rcases gz _ hh with r | r
      · exact nG' g103 r
      · omega
    have cGz : ∀ {A : Hp}, Ch Gz H166 A → Ch Gs H148 A := fun {A} cA => (cz.trans (k166.ch (F := [])) (by simp)).trans cA fun g hg => by
      rcases gz g hg with r | r
      · exact .inl r
      · exact .inr r
    rw [e0]
    have hdd := hdo (Mi.length + q) Gz H166 x.1.toNat (decide (q = 0)) y
    rw [show ((x.1.toNat : Nat) : Int) = x.1 from by omega] at hdd
    refine hdd _ hMq stz' (ec4.k.trans k166) (by omega) (hsm q y hy) (fun G' A' hC sA cA gA => ⟨Pv.ch cA (fun z hz => by rw [List.mem_singleton] at hz; subst hz; exact ⟨by omega, nb103⟩), ?_⟩) fun A' hC zA cA => ⟨Pv.ch cA (fun z hz => by rw [List.mem_singleton] at hz; subst hz; exact ⟨by omega, nb103⟩), ?_⟩
    · refine ite_f rfl ?_
      rw [show (q : Int) + 1 = ((q + 1 : Nat) : Int) from by omega, w64n (by omega)]
      refine hrec _ _ ⟨q + 1, G', rfl, by omega, by rw [← Nat.add_assoc]; exact sA, cGz cA, fun g hg => ?_, fun m hm => ?_⟩ (by simp; omega)
      · rcases gA g hg with r | r
        · exact gz g r
        · exact .inr (by omega)
      · rw [take_snoc' hy3] at hm
        rcases List.mem_append.1 hm with hm | hm
        · exact cdz m hm
        · rw [List.mem_singleton] at hm; subst hm; exact hC
    · have cA' := cGz cA
      have yA := cA'.size
      have nG2 : ∀ {y}, H.size ≤ y → y < N + 2 → y ∉ Gz := fun {y} h1 h2 hh => by
        rcases gz y hh with r | r
        · exact nG h1 h2 r
        · omega
      refine ite_t rfl (stop (Gz := []) (cg3.trans cA' (fun g hg => .inl (by simp [hg]))) (f73.ch cA' (nG (by omega) (by omega))) (l3.ch cA' (nG (by omega) (by omega))) (Dfr.ch cA' dfr3 (fun D' hD' => nG (by simp at hD'; omega) (by simp at hD'; omega))) ?_ (by simp) (.inl ⟨rfl, ⟨_, List.mem_of_getElem? hMq, hC⟩, zA⟩))
      exact (ec3.k.ch (F := [])).trans cA' (fun g hg => .inr (gsl g hg).2.1) |>.keep (by simp)
  · rintro G H101 ⟨Pi, Mi, Gs, rfl, ec, ev, lp, dfr, h100⟩
    have gsl := hlt _ _ _ ev.st
    have gd := ev.gd
    have nG : ∀ {y}, H.size ≤ y → y < N + 2 → y ∉ Gs := fun {y} h1 h2 hh => by have := gd y hh; omega
    refine .inl ⟨lp, Up_s lp fun H185 s185 l185 => st_i (ev.f7.same s185 (by omega)) (by simp) fun H186 b186 s186 => ?_⟩
    have cA : Ch [N + 1, b7] H101 H186 := (s185.ch.mono (G := [N + 1, b7]) (by simp)).trans s186.ch (by simp)
    refine tkD_ok (Dfr.ch cA dfr (fun D' hD' => by simp at hD' ⊢; omega)) fun H187 c187 z187 => ldI_i (b186.ch c187 (by simp; omega)) rfl ?_
    have cB' : Ch [N + 1, b7, N, D] H101 H187 := (cA.mono (G := [N + 1, b7, N, D]) (by simp)).trans c187 (by simp)
    have hms := ev.ms
    rw [List.drop_eq_nil_of_le (by omega), mrk] at hms
    have hM1 : M = Mi := by have := congrArg Prod.fst hms; simpa using this
    have hE1 : e = 0 := congrArg Prod.snd hms
    have := qe (by omega) (by rw [hM1]; exact ev.cd) Gs H187 (by rw [hM1]; exact hch _ _ _ _ _ ev.st cB' (fun x hx => ⟨by simp at hx; omega, nG (by simp at hx; omega) (by simp at hx; omega)⟩)) ((ec.k.ch (F := [])).trans cB' (by simp; omega) |>.keep (by simp))
    rw [hE1] at this
    exact this
  · rintro G H101 ⟨er, Gs, rfl, a2, a3, a4, a5, a6, a7, a8⟩
    refine .inr ⟨a3, Up_s a3 fun H190 s190 l190 => tkD_ok (Dfr.ch s190.ch a4 (by simp; omega)) fun H191 c191 z191 => ldI_i ((a2.same s190 (by omega)).ch c191 (by simp; omega)) rfl ?_⟩
    have cA : Ch [N + 1, N, D] H101 H191 := (s190.ch.mono (G := [N + 1, N, D]) (by simp)).trans c191 (by simp)
    have kA := (a5.ch (F := [])).trans cA (by simp; omega) |>.keep (by simp)
    rcases a8 with ⟨rfl, h2, h3⟩ | ⟨rfl, h2, h3⟩
    · exact q43 (by omega) h2 H191 (zch _ _ _ h3 cA (by simp; omega)) kA
    · refine qe (by omega) h2 Gs H191 (hch _ _ _ _ _ h3 cA (fun x hx => ⟨by simp at hx; omega, fun hh => ?_⟩)) kA
      have := a6 x hh
      simp at hx; omega
end
end Go.Proofs.Ytdekmgcdijnjiaa.G
