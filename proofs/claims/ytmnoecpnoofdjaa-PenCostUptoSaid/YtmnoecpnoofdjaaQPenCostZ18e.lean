/- Of this text what the row needs. -/
import Derived.Test.YtmnoecpnoofdjaaQPenCostZ18d
import Derived.Test.YtmnoecpnoofdjaaQPenCostKmosaiclaw18
namespace Go.Proofs.Ytmnoecpnoofdjaa.G
open Go.RowKit
set_option linter.unusedVariables false
set_option linter.unusedSimpArgs false
set_option maxRecDepth 20000
def Jb.setS (j : Jb) (s : Sl) : Nat → Jb
  | 0 => { j with d0 := (j.d0.1, s) }
  | 1 => { j with d1 := (j.d1.1, s) }
  | 2 => { j with d2 := (j.d2.1, s) }
  | 3 => { j with d3 := (j.d3.1, s) }
  | 4 => { j with a0 := (j.a0.1, s) }
  | 5 => { j with a1 := (j.a1.1, s) }
  | 6 => { j with a2 := (j.a2.1, s) }
  | 7 => { j with a3 := (j.a3.1, s) }
  | _ => j
theorem setS_sp (j : Jb) (s : Sl) {k : Nat} (hk : k < 8) : (j.setS s k).sp = j.sp.modify k fun x => (x.1, s) := by
  match k, hk with
  | 0, _ => rfl
  | 1, _ => rfl
  | 2, _ => rfl
  | 3, _ => rfl
  | 4, _ => rfl
  | 5, _ => rfl
  | 6, _ => rfl
  | 7, _ => rfl
theorem setS_rest (j : Jb) (s : Sl) (k : Nat) : (j.setS s k).g = j.g ∧ (j.setS s k).w = j.w ∧ (j.setS s k).h = j.h ∧ (j.setS s k).s = j.s ∧ (j.setS s k).t = j.t ∧ (j.setS s k).f = j.f ∧ (j.setS s k).u = j.u := by
  unfold Jb.setS
  split <;> exact ⟨rfl, rfl, rfl, rfl, rfl, rfl, rfl⟩
theorem fm_setS (s : Sl) : ∀ (l : List (Cn × Sl)) (k : Nat), k < l.length → (l.flatMap cSc).set (k * 17 + 16) (.slice s.a s.n s.c) = (l.modify k fun x => (x.1, s)).flatMap cSc
  | [], k, h => by simp at h
  | x :: l, 0, _ => by
    rw [List.flatMap_cons, List.set_append_left _ _ (by rw [cSc_len]; omega), List.modify_zero_cons, List.flatMap_cons]
    congr 1
    show (ints .u8 x.1.1 ++ [Value.slice x.2.a x.2.n x.2.c]).set (0 * 17 + 16) (.slice s.a s.n s.c) = ints .u8 x.1.1 ++ [Value.slice s.a s.n s.c]
    rw [List.set_append_right _ _ (by rw [ints_length, x.1.2]; omega), ints_length, x.1.2]; rfl
  | x :: l, k + 1, h => by
    rw [List.flatMap_cons, List.set_append_right _ _ (by rw [cSc_len]; omega), cSc_len, List.modify_succ_cons, List.flatMap_cons, show (k + 1) * 17 + 16 - 17 = k * 17 + 16 from by omega, fm_setS s l k (by simpa using h)]
theorem setS_cells (j : Jb) (s : Sl) {k : Nat} (hk : k < 8) : j.cells.set (5 + k * 17 + 16) (.slice s.a s.n s.c) = (j.setS s k).cells := by
  obtain ⟨e1, e2, e3, e4, e5, e6, e7⟩ := setS_rest j s k
  have hl : j.sp.length = 8 := rfl
  rw [Jb.cells_eq, Jb.cells_eq, setS_sp j s hk, ← fm_setS s j.sp k (by omega), e1, e2, e3, e4, e5, e6, e7]
  rw [List.set_append_right _ _ (by simp only [List.length_cons, List.length_nil]; omega)]
  congr 1
  rw [show 5 + k * 17 + 16 - ([Value.int .u8 j.g, .int .i64 j.w, .int .i64 j.h, .slice j.s.a j.s.n j.s.c, .slice j.t.a j.t.n j.t.c] : List Value).length = k * 17 + 16 from by simp only [List.length_cons, List.length_nil]; omega]
  rw [List.set_append_left _ _ (by rw [fm_len cSc_len, hl]; omega)]
theorem job_sl {H : Hp} {b : Nat} {T : TypeId} {j : Jb} {K : Sl → Prop} (hb : Bk H b T j.cells) {k : Nat} {x : Cn × Sl} (hx : j.sp[k]? = some x) (hK : K x.2) : ldL H (⟨b, 5 + k * 17 + 16, none⟩ : Addr) K := by
  have h := (job_sp hb hx).2 16 (.slice x.2.a x.2.n x.2.c) (by
    show (ints .u8 x.1.1 ++ [Value.slice x.2.a x.2.n x.2.c])[16]? = _
    rw [List.getElem?_append_right (by rw [ints_length, x.1.2]; omega), ints_length, x.1.2]; rfl)
  rw [add_mk] at h
  exact ⟨x.2, h, hK⟩
structure Sam8 (j k : Jb) : Prop where
  g : k.g = j.g
  w : k.w = j.w
  h : k.h = j.h
  f : k.f = j.f
  u : k.u = j.u
  c : ∀ i : Nat, (k.sp[i]?).map (fun x => x.1) = (j.sp[i]?).map (fun x => x.1)
section
variable {j k : Jb} {cs : List Cp} {ps : List Pa} {TV : Nat → List Nat} {BL : List (Ints 64)}
theorem Sam8.tbl (a : Sam8 j k) (i : Nat) : tbl k TV i = tbl j TV i := by unfold Go.Proofs.Ytmnoecpnoofdjaa.G.tbl; rw [a.c i]
theorem Sam8.rdE (a : Sam8 j k) : ∀ ps : List Pa, rdE k TV ps = rdE j TV ps
  | [] => rfl
  | p :: r => by rw [Go.Proofs.Ytmnoecpnoofdjaa.G.rdE, Go.Proofs.Ytmnoecpnoofdjaa.G.rdE, a.tbl, a.tbl, Sam8.rdE a r]
theorem Sam8.oChk (a : Sam8 j k) (tb : Bool) : oChk tb k cs ps TV = oChk tb j cs ps TV := by unfold Go.Proofs.Ytmnoecpnoofdjaa.G.oChk; rw [a.rdE, a.w, a.h, a.f, a.u]
theorem Sam8.walk (a : Sam8 j k) : walkL k.w k.h cs ps k.f.toNat k.u.toNat = walkL j.w j.h cs ps j.f.toNat j.u.toNat := by rw [a.w, a.h, a.f, a.u]
theorem Sam8.mJ (a : Sam8 j k) : mJ k cs ps BL = mJ j cs ps BL := by unfold Go.Proofs.Ytmnoecpnoofdjaa.G.mJ pbJ; rw [a.walk]
theorem Sam8.tbM (a : Sam8 j k) (m : Mk3) : tbM k TV ps m = tbM j TV ps m := by
  unfold Go.Proofs.Ytmnoecpnoofdjaa.G.tbM jT
  have e : (fun q : Pa => (Go.Proofs.Ytmnoecpnoofdjaa.G.tbl k TV q.dc.toNat, Go.Proofs.Ytmnoecpnoofdjaa.G.tbl k TV (4 + q.ac.toNat))) = fun q : Pa => (Go.Proofs.Ytmnoecpnoofdjaa.G.tbl j TV q.dc.toNat, Go.Proofs.Ytmnoecpnoofdjaa.G.tbl j TV (4 + q.ac.toNat)) := by funext q; rw [a.tbl, a.tbl]
  rw [e]
theorem Sam8.hasM (a : Sam8 j k) (m : Mk3) : hasM k TV ps m ↔ hasM j TV ps m := by unfold Go.Proofs.Ytmnoecpnoofdjaa.G.hasM; rw [a.tbM]
theorem Sam8.bitsM (a : Sam8 j k) (l : List Mk3) : bitsM k TV ps l = bitsM j TV ps l := by
  unfold Go.Proofs.Ytmnoecpnoofdjaa.G.bitsM
  congr 1
  funext m
  rw [a.tbM]
theorem rdE_all8 : ∀ {ps : List Pa}, Go.Proofs.Ytmnoecpnoofdjaa.G.rdE j TV ps = 0 → ∀ p ∈ ps, Chk4 (Go.Proofs.Ytmnoecpnoofdjaa.G.tbl j TV p.dc.toNat).1 (Go.Proofs.Ytmnoecpnoofdjaa.G.tbl j TV p.dc.toNat).2 = 0 ∧ Chk4 (Go.Proofs.Ytmnoecpnoofdjaa.G.tbl j TV (4 + p.ac.toNat)).1 (Go.Proofs.Ytmnoecpnoofdjaa.G.tbl j TV (4 + p.ac.toNat)).2 = 0
  | [], _, p, hp => by cases hp
  | q :: r, h, p, hp => by
    rw [Go.Proofs.Ytmnoecpnoofdjaa.G.rdE] at h
    by_cases h1 : Chk4 (Go.Proofs.Ytmnoecpnoofdjaa.G.tbl j TV q.dc.toNat).1 (Go.Proofs.Ytmnoecpnoofdjaa.G.tbl j TV q.dc.toNat).2 ≠ 0
    · rw [if_pos h1] at h; exact absurd h h1
    rw [if_neg h1] at h
    by_cases h2 : Chk4 (Go.Proofs.Ytmnoecpnoofdjaa.G.tbl j TV (4 + q.ac.toNat)).1 (Go.Proofs.Ytmnoecpnoofdjaa.G.tbl j TV (4 + q.ac.toNat)).2 ≠ 0
    · rw [if_pos h2] at h; exact absurd h h2
    rw [if_neg h2] at h
    rcases List.mem_cons.1 hp with rfl | hp
    · exact ⟨Classical.not_not.1 h1, Classical.not_not.1 h2⟩
    · exact rdE_all8 h p hp
end
section
variable {H : Hp} {j : Jb} {cs : List Cp} {ps : List Pa} {TV : Nat → List Nat}
set_option maxHeartbeats 2000000 in
theorem twin18_ok {Q : (Int × Int × Int × Sl × Sl × (Ints 16) × Sl × (Ints 16) × Sl × (Ints 16) × Sl × (Ints 16) × Sl × (Ints 16) × Sl × (Ints 16) × Sl × (Ints 16) × Sl × (Ints 16) × Sl × Int × Int) → Hp → Prop} (J : JV H j cs ps TV)
    (h : ∀ k H', JV H' k cs ps TV → Sam8 j k → Keep H H' → Q (k.g, k.w, k.h, k.s, k.t, k.d0.1, k.d0.2, k.d1.1, k.d1.2, k.d2.1, k.d2.2, k.d3.1, k.d3.2, k.a0.1, k.a0.2, k.a1.1, k.a1.2, k.a2.1, k.a2.2, k.a3.1, k.a3.2, k.f, k.u) H') :
    mosaiclaw18_twin.s j.g j.w j.h j.s j.t j.d0.1 j.d0.2 j.d1.1 j.d1.2 j.d2.1 j.d2.2 j.d3.1 j.d3.2 j.a0.1 j.a0.2 j.a1.1 j.a1.2 j.a2.1 j.a2.2 j.a3.1 j.a3.2 j.f j.u H Q := by
  have hl := J.hl
  have hm := J.hm
  have hsn := J.hs.n
  have htn := J.ht.n
  unfold mosaiclaw18_twin.s
  intro b1 H2 c2 g1 g1' b3 H4 c4 g3 g3' b5 H8 c8 g5 g5'
  have y2 := c2.size
  have y4 := c4.size
  have y8 := c8.size
  have k8 : Keep H H8 := ((c2.keep (by simp)).trans (c4.keep (by simp))).trans (c8.keep (by simp))
  have d1 := (J.hs.keep k8).cells cC_len cC_ones
  refine ⟨cs.flatMap cC, d1.1, d1.2, apS_list (xs := []) (ys := cs) (Own.nil _ _ _) cC_len cC_ones rfl (by omega) hsn (by simp; omega) (by omega) fun l10 H11 o11 c11 f11 => ?_⟩
  rw [List.nil_append] at o11
  have k11 : Keep H8 H11 := c11.keep (by simp [fp])
  have y11 := k11.size
  have f10 : ∀ b ∈ fp l10, H8.size ≤ b := fun b hb => by have := f11 b hb; simp [fp] at this; omega
  refine ⟨Pv.keep k11 (by simp; omega), fun H17 c17 => ?_⟩
  have y17 := c17.size
  have o17 := o11.ch c17 fun b hb => by have := f10 b hb; simp; omega
  have k17 : Keep H H17 := ((k8.trans k11).ch (F := [])).trans c17 (by simp; omega) |>.keep (by simp)
  have d2 := (J.ht.keep k17).cells cP_len cP_ones
  refine ⟨ps.flatMap cP, d2.1, d2.2, apS_list (xs := []) (ys := ps) (Own.nil _ _ _) cP_len cP_ones rfl (by omega) htn (by simp; omega) (by omega) fun l19 H20 o20 c20 f20 => ?_⟩
  rw [List.nil_append] at o20
  have k20 : Keep H17 H20 := c20.keep (by simp [fp])
  have y20 := k20.size
  have f19 : ∀ b ∈ fp l19, H17.size ≤ b := fun b hb => by have := f20 b hb; simp [fp] at this; omega
  refine ⟨Pv.keep k20 (by simp; omega), fun H25 c25 q5 q1 => ?_⟩
  have y25 := c25.size
  have o25 := (o17.kp k20).ch c25 fun b hb => by have := f10 b hb; simp; omega
  have p25 := o20.ch c25 fun b hb => by have := f19 b hb; simp; omega
  have k25 : Keep H H25 := ((k17.trans k20).ch (F := [])).trans c25 (by simp; omega) |>.keep (by simp)
  replace q1 : Bk H25 b1 32 j.cells := q1
  replace q5 : Bk H25 b5 32 ({ j with s := l10, t := l19 } : Jb).cells := q5
  have s0 : Sam8 j { j with s := l10, t := l19 } := ⟨rfl, rfl, rfl, rfl, rfl, fun i => rfl⟩
  have hu8 : ∀ {k : Nat} {x : Cn × Sl}, j.sp[k]? = some x → k < 8 := fun {k x} hx => (List.getElem?_eq_some_iff.1 hx).1
  refine Fix.intro (fun (x : Int) H' => ∃ (i : Nat) (k : Jb), x = (i : Int) ∧ i ≤ 4 ∧ Bk H' b5 32 k.cells ∧ Bk H' b1 32 j.cells ∧ Sam8 j k ∧ k.s = l10 ∧ k.t = l19 ∧ (∀ (q : Nat) (x : Cn × Sl), k.sp[q]? = some x → q % 4 < i → SlV H' x.2 1 cB (TV q) ∧ ∀ b ∈ fp x.2, H8.size ≤ b ∧ b < H'.size) ∧ Keep H H' ∧ Ch [b5] H25 H') (fun x _ => 4 - x.toNat)
    ⟨0, _, rfl, by omega, q5, q1, s0, rfl, rfl, fun q x _ hq => by omega, k25, Ch.refl _ _⟩ ?_
  rintro _ H29 ⟨i, k, rfl, hi, j5, j1, sm, es, et, hv, k29, c29⟩ rec hrec
  have y29 := c29.size
  by_cases hi4 : i < 4
  rotate_left
  · obtain rfl : i = 4 := by omega
    refine ite_f (decf (by omega)) ⟨k.g, k.w, k.h, k.s, k.t, k.d0.1, k.d0.2, k.d1.1, k.d1.2, k.d2.1, k.d2.2, k.d3.1, k.d3.2, k.a0.1, k.a0.2, k.a1.1, k.a1.2, k.a2.1, k.a2.2, k.a3.1, k.a3.2, k.f, k.u, ldA_full j5, fun H86 c86 => ?_⟩
    have k86 : Keep H H86 := (k29.ch (F := [])).trans c86 (by simp; omega) |>.keep (by simp)
    have nb : ∀ {z : Nat}, H8.size ≤ z → z ∉ [b3] := fun {z} hz hh => by simp at hh; omega
    have nb5 : ∀ {z : Nat}, H8.size ≤ z → z ∉ [b5] := fun {z} hz hh => by simp at hh; omega
    refine h k H86 ⟨by rw [es]; exact ((o25.ch c29 (fun b hb => nb5 (f10 b hb))).ch c86 (fun b hb => nb (f10 b hb))).view cC_len (by omega), by rw [et]; exact ((p25.ch c29 (fun b hb => nb5 (by have := f19 b hb; omega))).ch c86 (fun b hb => nb (by have := f19 b hb; omega))).view cP_len (by omega), J.hok, J.hpk, hl, hm, fun q x hx => ?_, by rw [sm.f]; exact J.hf, by rw [sm.u]; exact J.hu⟩ sm k86
    have hq8 : q < 8 := (List.getElem?_eq_some_iff.1 hx).1
    obtain ⟨v1, v2⟩ := hv q x hx (by omega)
    have hc := sm.c q
    rw [hx] at hc
    obtain ⟨y, hy⟩ : ∃ y, j.sp[q]? = some y := ⟨_, List.getElem?_eq_getElem hq8⟩
    rw [hy] at hc
    have hxy : x.1 = y.1 := Option.some.inj hc
    obtain ⟨_, r2, r3, r4⟩ := J.sp q y hy
    exact ⟨v1.ch c86 (fun b hb => nb (v2 b hb).1), r2, by rw [hxy]; exact r3, r4⟩
  obtain ⟨x, hx⟩ : ∃ x, j.sp[i]? = some x := ⟨_, List.getElem?_eq_getElem (show i < 8 by omega)⟩
  obtain ⟨y, hy⟩ : ∃ y, j.sp[4 + i]? = some y := ⟨_, List.getElem?_eq_getElem (show 4 + i < 8 by omega)⟩
  obtain ⟨xv, xb, xc, xl⟩ := J.sp i x hx
  obtain ⟨yv, yb, yc, yl⟩ := J.sp (4 + i) y hy
  have hlen : ∀ k : Jb, k.cells.length = 143 := job_len
  refine ite_t (dect (by omega)) ⟨by omega, by omega, ?_⟩
  rw [Int.toNat_natCast]
  simp only [add_mk]
  rw [show 73 + i * 17 = 5 + (4 + i) * 17 from by omega]
  have dx := (xv.keep k29).cells cB_len cB_ones
  have xn := xv.n
  have yn := yv.n
  refine job_sl j1 hx ⟨(TV i).flatMap cB, dx.1, dx.2, apS_list (xs := []) (ys := TV i) (Own.nil _ _ _) cB_len cB_ones rfl (by omega) xn (by simp; omega) (by omega) fun l37 H38 o38 c38 f38 => ?_⟩
  rw [List.nil_append] at o38
  have k38 : Keep H29 H38 := c38.keep (by simp [fp])
  have y38 := k38.size
  have f37 : ∀ b ∈ fp l37, H29.size ≤ b := fun b hb => by have := f38 b hb; simp [fp] at this; omega
  refine ⟨Pv.keep k38 (by simp; omega), by omega, by omega, st_i (j5.keep k38) (by rw [hlen]; omega) fun H45 b45 s45 => ⟨Pv.ch s45.ch (by simp; omega), by omega, by omega, ?_⟩⟩
  rw [setS_cells k l37 (by omega)] at b45
  have y45 := s45.size
  have j1' := (j1.keep k38).same s45 (by omega)
  have k45 : Keep H H45 := (k29.trans k38).same s45 (by omega)
  have dy := (yv.keep k45).cells cB_len cB_ones
  refine job_sl j1' hy ⟨(TV (4 + i)).flatMap cB, dy.1, dy.2, apS_list (xs := []) (ys := TV (4 + i)) (Own.nil _ _ _) cB_len cB_ones rfl (by omega) yn (by simp; omega) (by omega) fun l52 H53 o53 c53 f53 => ?_⟩
  rw [List.nil_append] at o53
  have k53 : Keep H45 H53 := c53.keep (by simp [fp])
  have y53 := k53.size
  have f52 : ∀ b ∈ fp l52, H45.size ≤ b := fun b hb => by have := f53 b hb; simp [fp] at this; omega
  refine ⟨Pv.keep k53 (by simp; omega), by omega, by omega, st_i (b45.keep k53) (by rw [hlen]; omega) fun H60 b60 s60 => ⟨Pv.ch s60.ch (by simp; omega), ?_⟩⟩
  rw [setS_cells (k.setS l37 i) l52 (by omega)] at b60
  have y60 := s60.size
  have r1 := setS_rest k l37 i
  have r2 := setS_rest (k.setS l37 i) l52 (4 + i)
  have e1 := setS_sp k l37 (k := i) (by omega)
  have e2 := setS_sp (k.setS l37 i) l52 (k := 4 + i) (by omega)
  rw [e1] at e2
  have cA : Ch [b5] H29 H60 := ((k38.ch (F := [b5])).trans s45.ch (by simp)).trans ((k53.ch (F := [b5])).trans s60.ch (by simp)) (by simp)
  rw [show (i : Int) + 1 = ((i + 1 : Nat) : Int) from by omega, w64n (by omega)]
  refine hrec _ _ ⟨i + 1, (k.setS l37 i).setS l52 (4 + i), rfl, by omega, b60, (j1'.keep k53).same s60 (by omega), ⟨by rw [r2.1, r1.1, sm.g], by rw [r2.2.1, r1.2.1, sm.w], by rw [r2.2.2.1, r1.2.2.1, sm.h], by rw [r2.2.2.2.2.2.1, r1.2.2.2.2.2.1, sm.f], by rw [r2.2.2.2.2.2.2, r1.2.2.2.2.2.2, sm.u], fun q => ?_⟩, by rw [r2.2.2.2.1, r1.2.2.2.1, es], by rw [r2.2.2.2.2.1, r1.2.2.2.2.1, et], fun q z hz hq => ?_, (k45.trans k53).same s60 (by omega), c29.trans cA (fun b hb => .inl hb)⟩ (by simp; omega)
  · rw [e2, List.getElem?_modify, List.getElem?_modify, ← sm.c q]
    cases k.sp[q]? with
    | none => rfl
    | some z => by_cases h1 : i = q <;> by_cases h2 : 4 + i = q <;> simp [h1, h2]
  · rw [e2, List.getElem?_modify, List.getElem?_modify] at hz
    cases hk : k.sp[q]? with
    | none => rw [hk] at hz; simp at hz
    | some v =>
      rw [hk] at hz
      have hq8 : q < 8 := (List.getElem?_eq_some_iff.1 hk).1
      replace hz : (if 4 + i = q then ((if i = q then (v.1, l37) else v).1, l52) else (if i = q then (v.1, l37) else v)) = z := Option.some.inj hz
      by_cases h2 : 4 + i = q
      · subst h2
        rw [if_pos rfl, if_neg (by omega)] at hz
        subst hz
        refine ⟨(o53.ch s60.ch (fun b hb => by have := f52 b hb; simp; omega)).view cB_len (by omega), fun b hb => ⟨by have := f52 b hb; omega, by have := o53.fp_lt b hb; omega⟩⟩
      rw [if_neg h2] at hz
      by_cases h1 : i = q
      · subst h1
        rw [if_pos rfl] at hz
        subst hz
        refine ⟨(((o38.ch s45.ch (fun b hb => by have := f37 b hb; simp; omega)).kp k53).ch s60.ch (fun b hb => by have := f37 b hb; simp; omega)).view cB_len (by omega), fun b hb => ⟨by have := f37 b hb; omega, by have := o38.fp_lt b hb; omega⟩⟩
      rw [if_neg h1] at hz
      subst hz
      obtain ⟨v1, v2⟩ := hv q v hk (by omega)
      exact ⟨v1.ch cA (fun b hb hh => by have := v2 b hb; simp at hh; omega), fun b hb => ⟨(v2 b hb).1, by have := (v2 b hb).2; omega⟩⟩
end
end Go.Proofs.Ytmnoecpnoofdjaa.G
