/- Of this text what the row needs. -/
import Derived.Test.YtmnoecpnoofdjaaQPenCostZ18a
namespace Go.Proofs.Ytmnoecpnoofdjaa.G
open Go.RowKit
set_option linter.unusedVariables false
set_option linter.unusedSimpArgs false
set_option maxRecDepth 20000
noncomputable def tbM (j : Jb) (TV : Nat → List Nat) (ps : List Pa) (m : Mk3) : TB := if m.2.1 = true then (jT j TV ps m.1).1 else (jT j TV ps m.1).2
def hasM (j : Jb) (TV : Nat → List Nat) (ps : List Pa) (m : Mk3) : Prop := m.2.2.1 ∈ (tbM j TV ps m).2
noncomputable def bitsM (j : Jb) (TV : Nat → List Nat) (ps : List Pa) (l : List Mk3) : List Bool := l.flatMap fun m => oneS (tbM j TV ps m) m.2.2
theorem bitsM_snoc (j : Jb) (TV : Nat → List Nat) (ps : List Pa) (l : List Mk3) (m : Mk3) : bitsM j TV ps (l ++ [m]) = bitsM j TV ps l ++ oneS (tbM j TV ps m) m.2.2 := by simp [bitsM]
structure Es (W H : Hp) (j : Jb) (TV : Nat → List Nat) (ps : List Pa) (dl al : Sl) (ts us : List Nat) (h4 b b5 k b11 lo : Nat) (M : List Mk3) (m : Nat) (sk : Sl) : Prop where
  kp : Keep W H
  dk : Bk H b 70 (cDk j dl al)
  od : Own H 67 1 dl (ts.flatMap cPt)
  oa : Own H 67 1 al (us.flatMap cPt)
  td : TbM W.size h4 H j TV ps (fun p => p.dc.toNat) ts
  ta : TbM W.size h4 H j TV ps (fun p => 4 + p.ac.toNat) us
  f5 : ∃ T, Bk H b5 T [.pointer (some ⟨b, 0, none⟩)]
  f11 : ∃ T, Bk H b11 T [.pointer (some ⟨k, 0, none⟩)]
  sn : Snk H k sk (bitsM j TV ps (M.take m))
  bl : (bitsM j TV ps (M.take m)).length ≤ 32 * m
  ml : m ≤ M.length
  fr : ∀ g ∈ fp sk, lo ≤ g
  fo : (∀ g ∈ b :: (fp dl ++ fp al), W.size ≤ g ∧ g < h4) ∧ h4 ≤ b5 ∧ b5 < k ∧ k < b11 ∧ b11 < lo ∧ W.size ≤ h4
section
variable {W H H' : Hp} {j : Jb} {cs : List Cp} {ps : List Pa} {TV : Nat → List Nat} {dl al : Sl} {ts us : List Nat} {h4 b b5 k b11 lo : Nat} {M : List Mk3} {m : Nat} {sk : Sl}
theorem Es.ch {F : List Nat} (a : Es W H j TV ps dl al ts us h4 b b5 k b11 lo M m sk) (c : Ch F H H') (hF : ∀ x ∈ F, lo ≤ x ∧ x ∉ k :: fp sk) : Es W H' j TV ps dl al ts us h4 b b5 k b11 lo M m sk := by
  obtain ⟨o1, o2, o3, o4, o5, o6⟩ := a.fo
  have nF : ∀ {y}, y < lo → y ∉ F := fun {y} hy hh => by have := (hF y hh).1; omega
  have o1' : ∀ g ∈ b :: (fp dl ++ fp al), g ∉ F := fun g hg => nF (by have := o1 g hg; omega)
  exact ⟨(a.kp.ch (F := [])).trans c (fun x hx => .inr (by have := (hF x hx).1; omega)) |>.keep (by simp), a.dk.ch c (o1' _ (by simp)), a.od.ch c (fun g hg => o1' g (by simp [hg])), a.oa.ch c (fun g hg => o1' g (by simp [hg])),
    a.td.ch c (fun x hx => by have := (hF x hx).1; omega), a.ta.ch c (fun x hx => by have := (hF x hx).1; omega), a.f5.imp fun T t => t.ch c (nF (by omega)), a.f11.imp fun T t => t.ch c (nF (by omega)), a.sn.ch c (fun g hg hh => (hF g hh).2 hg), a.bl, a.ml, a.fr, a.fo⟩
theorem Es.lts (a : Es W H j TV ps dl al ts us h4 b b5 k b11 lo M m sk) : ∀ g ∈ k :: fp sk, g < H.size ∧ W.size ≤ g ∧ g ≠ b := fun g hg => by
  obtain ⟨o1, o2, o3, o4, o5, o6⟩ := a.fo
  have := a.sn.lts g hg
  have ob := o1 b (by simp)
  rcases List.mem_cons.1 hg with rfl | hg
  · exact ⟨this, by omega, by omega⟩
  · have := a.fr g hg
    exact ⟨by assumption, by omega, by omega⟩
set_option maxHeartbeats 2000000 in
theorem Encode1_ok {p : Nat} {f : Bool} {x : Sy} {q : Pa} {R : Int → Hp → Prop} (a : Es W H j TV ps dl al ts us h4 b b5 k b11 lo M m sk) (hlo : lo ≤ H.size) (hq : ps[p]? = some q) (htl : ts.length = ps.length) (hul : us.length = ps.length) (hps : ps.length ≤ 4) (hM : M[m]? = some (p, f, x)) (hx : syOk3 f x) (hMl : M.length ≤ 67108864)
    (h0 : ∀ sk' H', hasM j TV ps (p, f, x) → Es W H' j TV ps dl al ts us h4 b b5 k b11 lo M (m + 1) sk' → Ch (k :: fp sk) H H' → (∀ g ∈ k :: fp sk', g ∈ k :: fp sk ∨ H.size ≤ g) → R 0 H') (h1 : ∀ H', ¬ hasM j TV ps (p, f, x) → Keep W H' → Ch (k :: fp sk) H H' → R 43 H') :
    pen_Encode_1.s (p : Int) f (x.1 : Int) x.2.1 (x.2.2 : Int) ⟨b5, 0, none⟩ ⟨b11, 0, none⟩ H R := by
  obtain ⟨⟨hx1, hx2, hx3⟩, hx4, hx5⟩ := hx
  have hpl := (List.getElem?_eq_some_iff.1 hq).1
  have hml := (List.getElem?_eq_some_iff.1 hM).1
  unfold pen_Encode_1.s
  intro b1 H2 c2 g1 g1'
  have k2 : Keep H H2 := c2.keep (by simp)
  have y2 := k2.size
  have a2 := a.ch (F := []) k2.ch (by simp)
  obtain ⟨T5, f5⟩ := a2.f5
  obtain ⟨T11, f11⟩ := a2.f11
  obtain ⟨u, hu⟩ : ∃ u, us[p]? = some u := ⟨_, List.getElem?_eq_getElem (by omega)⟩
  obtain ⟨t, ht⟩ : ∃ t, ts[p]? = some t := ⟨_, List.getElem?_eq_getElem (by omega)⟩
  have cu := a2.oa.count cPt_len (by omega)
  have ct := a2.od.count cPt_len (by omega)
  obtain ⟨ba, ha, hA⟩ := a2.oa.at cPt_len (by omega) hu
  obtain ⟨bd, hd, hD⟩ := a2.od.at cPt_len (by omega) ht
  obtain ⟨o1, o2, o3, o4, o5, o6⟩ := a.fo
  obtain ⟨tok, tsv, tT, tl⟩ := a2.td p q t hq ht
  obtain ⟨uok, usv, uT, ul⟩ := a2.ta p q u hq hu
  have hjT := jT_at (j := j) (TV := TV) hq
  have hT : tbM j TV ps (p, f, x) = if f = true then tbl j TV q.dc.toNat else tbl j TV (4 + q.ac.toNat) := by
    unfold tbM; dsimp only; rw [hjT]
  refine ldP_i f5 rfl ⟨_, rfl, ldL_a a2.dk dk_144 ⟨by omega, by omega, _, ha, ?_⟩⟩
  rw [Int.toNat_natCast]
  refine ldP_of0 hA rfl (Join.intro (fun (s : Option Addr) H' => s = some ⟨if f = true then t else u, 0, none⟩ ∧ H2 = H') ?_ fun J hJ => ?_)
  rotate_left
  · cases f with
    | true =>
      refine ite_t rfl (ldP_i f5 rfl ⟨_, rfl, ldL_a a2.dk dk_143 ⟨by omega, by omega, _, hd, ldP_of0 hD rfl (hJ _ _ ⟨rfl, rfl⟩)⟩⟩)
    | false => exact ite_f rfl (hJ _ _ ⟨rfl, rfl⟩)
  rintro _ _ ⟨rfl, rfl⟩
  have Tq : ∃ sv, Tab H2 (if f = true then t else u) sv (tbM j TV ps (p, f, x)).1 (tbM j TV ps (p, f, x)).2 ∧ TbOk (tbM j TV ps (p, f, x)) := by
    rw [hT]
    cases f with
    | true => exact ⟨tsv, tT, tok⟩
    | false => exact ⟨usv, uT, uok⟩
  obtain ⟨sv, Tt, Tok⟩ := Tq
  obtain ⟨l1, l2, l3⟩ := lkp_fit Tok.may x.1
  have sn2 := a2.sn
  have bl2 := a2.bl
  have htk : M.take (m + 1) = M.take m ++ [(p, f, x)] := take_snoc' hM
  have lts2 := sn2.lts
  have ltsH := a.sn.lts
  have n1 : b1 ∉ k :: fp sk := fun hh => by have := ltsH b1 hh; omega
  refine ldP_i f11 rfl (Write_ok4 Tt Tok.may sn2 hx1 (by omega) (fun hz => ⟨fun z hz => rfl, ite_t rfl (h1 H2 (fun hh => l3.1 hz hh) a2.kp k2.ch)⟩) fun hne s' H21 K21 c21 f21 => ⟨Pv.ch c21 (fun z hz => by rw [List.mem_singleton] at hz; subst hz; exact ⟨g1', n1⟩), ite_f rfl ?_⟩)
  have y21 := c21.size
  have hin : hasM j TV ps (p, f, x) := Classical.byContradiction fun hh => hne (l3.2 hh)
  have nk : ∀ {y}, y < lo → y ≠ k → y ∉ k :: fp sk := fun {y} h1 h2 hh => by
    rcases List.mem_cons.1 hh with r | r
    · exact h2 r
    · have := a.fr y r; omega
  have f11' := f11.ch c21 (nk (by omega) (by omega))
  have e1 : IntKind.wrap .i64 ((x.2.2 : Nat) : Int) = ((x.2.2 : Nat) : Int) := w64 (by omega)
  have e2 : IntKind.wrap .i64 x.2.1 = x.2.1 := w64 (by omega)
  rw [e1, e2]
  refine ldP_i f11' rfl (Put_ok K21 (by rw [List.length_append, bl_len]; omega) (fun h => by omega) fun h0' h16 s2 H26 K26 c26 f26 => ?_)
  have y26 := c26.size
  have cA : Ch (k :: fp sk) H2 H26 := c21.trans c26 (fun g hg => by
    rcases List.mem_cons.1 hg with rfl | hg
    · exact .inl (by simp)
    · rcases f21 g hg with r | r
      · exact .inl (by simp [r])
      · exact .inr r)
  have fs2 : ∀ g ∈ fp s2, g ∈ fp sk ∨ H2.size ≤ g := fun g hg => by
    rcases f26 g hg with r | r
    · exact f21 g r
    · exact .inr (by omega)
  have hbits : bitsM j TV ps (M.take (m + 1)) = (bitsM j TV ps (M.take m) ++ Go.Proofs.Ytmnoecpnoofdjaa.G.bl (lkp (prs (tbM j TV ps (p, f, x)).1 (tbM j TV ps (p, f, x)).2) x.1).1 (lkp (prs (tbM j TV ps (p, f, x)).1 (tbM j TV ps (p, f, x)).2) x.1).2) ++ Go.Proofs.Ytmnoecpnoofdjaa.G.bl x.2.1.toNat (low (x.2.2 : Int) x.2.1.toNat) := by
    rw [htk, bitsM_snoc, List.append_assoc]
    rfl
  have ks : ∀ g ∈ k :: fp sk, W.size ≤ g := fun g hg => (a.lts g hg).2.1
  refine h0 s2 H26 hin ⟨(a2.kp.ch (F := [])).trans cA (fun g hg => .inr (ks g hg)) |>.keep (by simp), a2.dk.ch cA (nk (by have := o1 b (by simp); omega) (by have := o1 b (by simp); omega)), a2.od.ch cA (fun g hg => nk (by have := o1 g (by simp [hg]); omega) (by have := o1 g (by simp [hg]); omega)), a2.oa.ch cA (fun g hg => nk (by have := o1 g (by simp [hg]); omega) (by have := o1 g (by simp [hg]); omega)),
    a2.td.ch cA (fun g hg => ?_), a2.ta.ch cA (fun g hg => ?_), ⟨T5, f5.ch cA (nk (by omega) (by omega))⟩, ⟨T11, f11.ch cA (nk (by omega) (by omega))⟩, by rw [hbits]; exact K26, ?_, by omega, fun g hg => ?_, a.fo⟩ ((k2.ch (F := k :: fp sk)).trans cA fun g hg => .inl hg) fun g hg => ?_
  · rcases List.mem_cons.1 hg with rfl | hg
    · omega
    · have := a.fr g hg; omega
  · rcases List.mem_cons.1 hg with rfl | hg
    · omega
    · have := a.fr g hg; omega
  · rw [hbits, List.length_append, List.length_append, bl_len, bl_len]
    omega
  · rcases fs2 g hg with r | r
    · exact a.fr g r
    · omega
  · rcases List.mem_cons.1 hg with rfl | hg
    · exact .inl (by simp)
    · rcases fs2 g hg with r | r
      · exact .inl (by simp [r])
      · exact .inr (by omega)
end
end Go.Proofs.Ytmnoecpnoofdjaa.G
