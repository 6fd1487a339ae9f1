/- Layer 19: CutsEach. -/
import Derived.Test.YtdcjjoihlnjpnaaZ19a
import Derived.Test.YtdcjjoihlnjpnaaKCutsEach
namespace Go.Proofs.Ytdcjjoihlnjpnaa.G
open Go.RowKit
set_option linter.unusedVariables false
set_option linter.unusedSimpArgs false
set_option maxRecDepth 20000

/-- What stays while pieces are gone over, all of it ahead of block L. -/
structure CB (W : Hp) (L : Nat) (s : ByteArray) (a a2 : Int) (t : Sl) (l : List Pc) (b1 ps pa b9 : Nat) (T : TypeId) (fv : Value) (H : Hp) : Prop where
  k1 : Bk H b1 3 [.int .i64 a2]
  k9 : Bk H b9 T [fv]
  ka : Bk H pa 3 [.int .i64 (fromOf s.size a : Int)]
  ks : Bk H ps 9 [.string s]
  ow : Own H 29 4 t (l.flatMap cP)
  kp : Keep W H
  lt : W.size ≤ b1 ∧ b1 < L ∧ b9 < L ∧ pa < L ∧ ps < L ∧ ∀ k ∈ fp t, k < L
section
variable {W H H' : Hp} {L M : Nat} {s : ByteArray} {a a2 : Int} {t : Sl} {l : List Pc} {b1 ps pa b9 : Nat} {T : TypeId} {fv : Value}
theorem CB.ch {G : List Nat} (h : CB W L s a a2 t l b1 ps pa b9 T fv H) (c : Ch G H H') (hG : ∀ k ∈ G, L ≤ k) : CB W L s a a2 t l b1 ps pa b9 T fv H' := by
  obtain ⟨h1, h2, h3, h4, h5, h6⟩ := h.lt
  refine ⟨h.k1.ch c fun hf => by have := hG _ hf; omega, h.k9.ch c fun hf => by have := hG _ hf; omega, h.ka.ch c fun hf => by have := hG _ hf; omega, h.ks.ch c fun hf => by have := hG _ hf; omega, h.ow.ch c fun b hb hf => by have := hG _ hf; have := h6 b hb; omega, ?_, h.lt⟩
  exact (h.kp.ch (F := [])).trans c (fun k hk => .inr (by have := hG k hk; omega)) |>.keep (by simp)
theorem CB.keep (h : CB W L s a a2 t l b1 ps pa b9 T fv H) (k : Keep H H') : CB W L s a a2 t l b1 ps pa b9 T fv H' := h.ch (k.ch (F := [])) (by simp)
theorem CB.up (h : CB W L s a a2 t l b1 ps pa b9 T fv H) (hM : L ≤ M) : CB W M s a a2 t l b1 ps pa b9 T fv H := by
  obtain ⟨h1, h2, h3, h4, h5, h6⟩ := h.lt
  exact ⟨h.k1, h.k9, h.ka, h.ks, h.ow, h.kp, h1, by omega, by omega, by omega, by omega, fun k hk => by have := h6 k hk; omega⟩
end
/-- How many pieces the first walk tells. -/
def lim (a2 : Int) (n : Nat) : Nat := if 0 ≤ a2 ∧ a2 < n then a2.toNat else n
/-- A list in a block of its own: pieces so far. -/
structure Lst (H : Hp) (b : Nat) (u : Sl) (xs : List Pc) (L : Nat) : Prop where
  bk : Bk H b 22 [.slice u.a u.n u.c]
  ow : Own H 29 4 u (xs.flatMap cP)
  lo : ∀ k ∈ fp u, L ≤ k
  ne : b < L
theorem Lst.ch {H H' : Hp} {b : Nat} {u : Sl} {xs : List Pc} {L : Nat} {G : List Nat} (h : Lst H b u xs L) (c : Ch G H H') (h1 : b ∉ G) (h2 : ∀ k ∈ fp u, k ∉ G) : Lst H' b u xs L := ⟨h.bk.ch c h1, h.ow.ch c h2, h.lo, h.ne⟩
theorem Lst.keep {H H' : Hp} {b : Nat} {u : Sl} {xs : List Pc} {L : Nat} (h : Lst H b u xs L) (k : Keep H H') : Lst H' b u xs L := h.ch (k.ch (F := [])) (by simp) (by simp)
theorem Lst.view {H : Hp} {b : Nat} {u : Sl} {xs : List Pc} {L : Nat} (h : Lst H b u xs L) : SlV H u 4 cP xs := h.ow.view cP_len (by omega)
theorem Lst.push {H : Hp} {b : Nat} {u : Sl} {xs : List Pc} {L : Nat} {x : Pc} {K : Hp → Prop} (h : Lst H b u xs L) (hL : L ≤ H.size) (hb : xs.length ≤ 1048577)
    (hK : ∀ u' H', Lst H' b u' (xs ++ [x]) L → Ch (b :: fp u) H H' → (∀ k ∈ fp u', k ∈ fp u ∨ H.size ≤ k) → K H') :
    nw H 29 (cP x) fun p H1 => apS H1 u 29 4 32 z29.cells 1 (cP x) fun l H2 => st H2 (⟨b, 0, none⟩ : Addr) (.slice l.a l.n l.c) K := by
  have hlt := h.bk.lt
  refine push1 h.ow cP_len cP_ones rfl (by omega) (by omega) (by omega) fun u' H2 o2 c2 f2 => ?_
  have hnu : b ∉ fp u := fun hh => by have := h.lo b hh; have := h.ne; omega
  have b2 := h.bk.ch c2 hnu
  have lo2 : ∀ k ∈ fp u', L ≤ k := fun k hk => by
    rcases f2 k hk with g | g
    · exact h.lo k g
    · omega
  refine st_i b2 (by simp) fun H3 b3 s3 => hK u' H3 ⟨b3, o2.ch s3.ch (ni fun hh => by have := lo2 b hh; have := h.ne; omega), lo2, h.ne⟩ ?_ f2
  exact (c2.mono (by intro k hk; exact .inl (by simp [hk]))).trans s3.ch (by simp)
theorem CutsEach_row (s : ByteArray) (a a2 : Int) (W : World) (hs : s.size ≤ 1048576) (ha : -9223372036854775808 ≤ a ∧ a ≤ 9223372036854775807) (ha2 : -9223372036854775808 ≤ a2 ∧ a2 ≤ 9223372036854775807) :
    mosaiclaw19_CutsEach.s s a a2 W.heap (fun r H' => r = true ∧ Keep W.heap H') := by
  obtain ⟨l, hl⟩ := Pcs.ex s s.size (fromOf s.size a) (by omega)
  have hll := hl.len (fromOf_le _ _)
  have hfl := fromOf_le s.size a
  unfold mosaiclaw19_CutsEach.s
  intro b1 H2 c2 g1 g1'
  have k2 : Keep W.heap H2 := c2.keep (by simp)
  refine rAll_ok hs hl fun t H4 o4 k4 f4 => ⟨Pv.keep k4 (by simp; omega), ?_⟩
  have y2 := k2.size
  have y4 := k4.size
  refine Each_ok fun pa ps H7 bpa bps k7 gps gpa gpa' => ⟨Pv.keep k7 (by simp; omega), ?_⟩
  have y7 := k7.size
  intro b9 H11 c11 g9 g9' b12 H13 c13 g12 g12' hb1 hb9 hb12
  have k13 : Keep H7 H13 := (c11.keep (by simp)).trans (c13.keep (by simp))
  have y11 := c11.size
  have y13 := c13.size
  have hft := o4.fp_lt
  obtain ⟨T9, fv, hb9, efv⟩ : ∃ T fv, Bk H13 b9 T [fv] ∧ fv = _ := ⟨_, _, hb9, rfl⟩
  have cb : CB W.heap b12 s a a2 t l b1 ps pa b9 T9 fv H13 := ⟨hb1, hb9, bpa.keep k13, bps.keep k13, (o4.kp k7).kp k13, ((k2.trans k4).trans k7).trans k13, by omega, by omega, by omega, by omega, by omega, fun k hk => by have := hft k hk; omega⟩
  clear hb1 hb9 bpa bps o4
  have l12 : Lst H13 b12 ⟨none, 0, 0⟩ (l.take 0) (H13.size + 2) := ⟨hb12, Own.nil _ _ _, by simp [fp], by omega⟩
  have ctn : t.n = l.length := cb.ow.count cP_len (by omega)
  refine Join.intro (fun Ds H' => ∃ u, CB W.heap b12 s a a2 t l b1 ps pa b9 T9 fv H' ∧ Lst H' b12 u (l.take (lim a2 l.length)) (H13.size + 2) ∧ Dfr Ds H' ∧ ∀ D ∈ Ds, b12 < D ∧ D ∉ fp u) ?_ fun J hJ => ?_
  rotate_left
  · refine ⟨_, by rw [cb.k9.cell]; rfl, ⟨pa, 0, none⟩, ⟨ps, 0, none⟩, efv, Rg_i fun r H123 hr k123 s123 hD hlp => ?_⟩
    have cb1 := cb.keep k123
    refine Each_seq (by omega) hfl hl cb1.ka cb1.ks _ _ (fun i G H' => CB W.heap b12 s a a2 t l b1 ps pa b9 T9 fv H' ∧ (∃ u, Lst H' b12 u (l.take i) (H13.size + 2) ∧ G = (H13.size + 1) :: b12 :: fp u) ∧ Lp H' (H13.size + 1) r ∧ Dfr [H13.size] H' ∧ ∀ j : Nat, j < i → (j : Int) ≠ a2)
      (fun H' => CB W.heap b12 s a a2 t l b1 ps pa b9 T9 fv H' ∧ (∃ u, Lst H' b12 u (l.take (lim a2 l.length)) (H13.size + 2)) ∧ Lp H' (H13.size + 1) (dn r (.exit 0)) ∧ Dfr [H13.size] H') [H13.size + 1, b12] ?_ ?_ ?_ ?_ ?_ ?_ ?_
    · intro k hk
      simp at hk ⊢
      omega
    · exact ⟨cb1, ⟨_, l12.keep k123, rfl⟩, hlp, ⟨hD, by simp, trivial⟩, fun j hj => by omega⟩
    · rintro i G A B ⟨q1, ⟨u, q2, q3⟩, q4, q5, q6⟩ k
      exact ⟨q1.keep k, ⟨u, q2.keep k, q3⟩, q4.kp k, q5.keep k, q6⟩
    · rintro i G A ⟨q1, ⟨u, q2, rfl⟩, q4, q5, q6⟩ k hk
      rcases List.mem_cons.1 hk with rfl | hk
      · exact q4.lt
      · rcases List.mem_cons.1 hk with rfl | hk
        · exact q2.bk.lt
        · exact q2.ow.fp_lt k hk
    · rintro i G x H126 K hx ⟨q1, ⟨u, q2, rfl⟩, q4, q5, q6⟩ hT hZ
      have hil := (List.getElem?_eq_some_iff.1 hx).1
      have z4 := q4.lt
      refine ⟨q4, ?_⟩
      intro b129 H131 c131 g131 g131'
      have k131 : Keep H126 H131 := c131.keep (by simp)
      refine ⟨q4.kp k131, Up_s (q4.kp k131) fun H132 s132 l132 => ⟨fun j hj => s132.block j (by simp at hj; omega), ?_⟩⟩
      have lb12 := l12.bk.lt
      have q1' := (q1.keep k131).ch s132.ch (by simp; omega)
      have q2' := (q2.keep k131).ch s132.ch (by simp; omega) (fun k hk => by have := q2.lo k hk; simp; omega)
      have q5' : Dfr [H13.size] H132 := Dfr.ch s132.ch (q5.keep k131) (by simp)
      have y131 := k131.size
      have y132 := s132.size
      have c132 : Ch ((H13.size + 1) :: b12 :: fp u) H126 H132 := (k131.ch (F := _)).trans s132.ch (by simp)
      have un : u.n = i := by have := q2'.view.n; simp at this; omega
      refine ldL_i q2'.bk rfl (ldI_i q1'.k1 rfl ?_)
      rw [un]
      by_cases he : (i : Int) = a2
      · have el : lim a2 l.length = i := by unfold lim; rw [if_pos (by omega)]; omega
        refine ite_t (beqi he) ⟨l132, hZ _ ⟨q1'.ch putL_same.ch (by simp; omega), ⟨u, ?_⟩, putL_lp l132, Dfr.ch putL_same.ch q5' (by simp)⟩ (c132.trans putL_same.ch (by simp))⟩
        rw [el]
        exact q2'.ch putL_same.ch (by simp; omega) (fun k hk => by have := q2.lo k hk; simp; omega)
      · refine ite_f (beqf he) (ldL_i q2'.bk rfl (q2'.push (x := x) (by omega) (by simp; omega) fun u' H147 q147 c147 f147 => ?_))
        have hnG : ∀ {k}, k < H13.size + 2 → k ≠ b12 → k ∉ b12 :: fp u := fun {k} h1 h2 hh => by
          rcases List.mem_cons.1 hh with h | h
          · exact h2 h
          · have := q2.lo k h; omega
        have l147 := l132.ch c147 (hnG (by omega) (by omega))
        have q1'' := q1'.ch c147 (fun k hk => by
          rcases List.mem_cons.1 hk with rfl | hk
          · omega
          · have := q2.lo k hk; omega)
        have q5'' : Dfr [H13.size] H147 := Dfr.ch c147 q5' fun D hD => hnG (by simp at hD; omega) (by simp at hD; omega)
        refine ⟨l147, hT ((H13.size + 1) :: b12 :: fp u') _ ⟨q1''.ch putL_same.ch (by simp; omega), ⟨u', ?_, rfl⟩, putL_lp l147, Dfr.ch putL_same.ch q5'' (by simp), fun j hj => ?_⟩ ?_ ?_⟩
        · have := q147.ch (putL_same (H := H147) (l := H13.size + 1) (r := r)).ch (by simp; omega) (fun k hk => by have := q147.lo k hk; simp; omega)
          rw [take_snoc' hx]
          exact this
        · rcases Nat.lt_or_ge j i with h | h
          · exact q6 j h
          · obtain rfl : j = i := by omega
            exact he
        · exact (c132.trans c147 fun k hk => .inl (by simp at hk ⊢; rcases hk with h | h; exact .inr (.inl h); exact .inr (.inr h))).trans putL_same.ch (by simp)
        · intro k hk
          simp at hk ⊢
          rcases hk with h | h | h
          · exact .inl (.inl h)
          · exact .inl (.inr (.inl h))
          · rcases f147 k h with h | h
            · exact .inl (.inr (.inr h))
            · omega
    · rintro G H' ⟨q1, ⟨u, q2, rfl⟩, q4, q5, q6⟩
      have lb12 := l12.bk.lt
      refine .inl ⟨q4, Up_s q4 fun H149 s149 _ => hJ _ _ ⟨u, q1.ch s149.ch (by simp; omega), ?_, Dfr.ch s149.ch q5 (by simp), fun D hD => ?_⟩⟩
      · have el : lim a2 l.length = l.length := by
          unfold lim
          split
          · rename_i h
            exact absurd (show ((a2.toNat : Nat) : Int) = a2 by omega) (q6 _ (by omega))
          · rfl
        rw [el]
        exact q2.ch s149.ch (by simp; omega) (fun k hk => by have := q2.lo k hk; simp; omega)
      · simp at hD
        exact ⟨by omega, fun hh => by have := q2.lo D hh; omega⟩
    · rintro H' ⟨q1, ⟨u, q2⟩, q4, q5⟩
      have lb12 := l12.bk.lt
      refine .inr ⟨q4, Up_s q4 fun H149 s149 _ => hJ _ _ ⟨u, q1.ch s149.ch (by simp; omega), q2.ch s149.ch (by simp; omega) (fun k hk => by have := q2.lo k hk; simp; omega), Dfr.ch s149.ch q5 (by simp), fun D hD => ?_⟩⟩
      simp at hD
      exact ⟨by omega, fun hh => by have := q2.lo D hh; omega⟩
  -- the second walk, one within it
  have lb12 := l12.bk.lt
  rintro Ds H16 ⟨u, cb16, lu16, df16, hDs⟩
  have hlim : lim a2 l.length ≤ l.length := by unfold lim; split <;> omega
  refine Join.intro (fun x H' => x = (lim a2 l.length : Int) ∧ H16 = H') ?_ fun J hJ => ?_
  rotate_left
  · refine Join.intro (fun b H' => b = decide (0 ≤ a2 ∧ a2 < (l.length : Int)) ∧ H16 = H') ?_ fun J2 hJ2 => ?_
    · rintro _ _ ⟨rfl, rfl⟩
      by_cases h : 0 ≤ a2 ∧ a2 < (l.length : Int)
      · refine ite_t (dect h) (ldI_i cb16.k1 rfl (hJ _ _ ⟨?_, rfl⟩))
        unfold lim
        rw [if_pos h]; omega
      · refine ite_f (decf h) (hJ _ _ ⟨?_, rfl⟩)
        unfold lim
        rw [if_neg h, ctn]
    · refine ldI_i cb16.k1 rfl ?_
      by_cases h : 0 ≤ a2
      · refine ite_t (dect h) (ldI_i cb16.k1 rfl (hJ2 _ _ ⟨?_, rfl⟩))
        rw [ctn]
        by_cases h' : a2 < (l.length : Int)
        · exact (dect h').trans (dect ⟨h, h'⟩).symm
        · exact (decf h').trans (decf fun x => h' x.2).symm
      · exact ite_f (decf h) (hJ2 _ _ ⟨(decf fun x => h x.1).symm, rfl⟩)
  rintro _ _ ⟨rfl, rfl⟩
  intro b20 H21 c21 g20 g20' b22 H23 c23 g22 g22'
  have k23 : Keep H16 H23 := (c21.keep (by simp)).trans (c23.keep (by simp))
  have y21 := c21.size
  have y23 := c23.size
  have cb23 := (cb16.keep k23).up (M := b20) (by have := lu16.bk.lt; omega)
  have lu23 := lu16.keep k23
  have hul := lu16.ow.fp_lt
  have hbl := lu16.bk.lt
  have df23 := df16.keep k23
  have hdl := df16.lt
  clear hul
  have hul := lu16.ow.fp_lt
  refine ⟨_, by rw [cb23.k9.cell]; rfl, fun hb20 hb22 => ⟨⟨pa, 0, none⟩, ⟨ps, 0, none⟩, efv, Rg_i fun r H32 hr k32 s32 hD hlp => ?_⟩⟩
  have ssch : ∀ {A B : Hp} {G : List Nat}, CB W.heap b20 s a a2 t l b1 ps pa b9 T9 fv A ∧ Lst A b12 u (l.take (lim a2 l.length)) (H13.size + 2) → Ch G A B → (∀ k ∈ G, b20 ≤ k) → CB W.heap b20 s a a2 t l b1 ps pa b9 T9 fv B ∧ Lst B b12 u (l.take (lim a2 l.length)) (H13.size + 2) := fun {A B G} h c hG =>
    ⟨h.1.ch c hG, h.2.ch c (fun hh => by have := hG _ hh; omega) fun k hk hh => by have := hG _ hh; have := hul k hk; omega⟩
  have dfch : ∀ {A B : Hp} {G : List Nat}, Dfr (H23.size :: Ds) A → Ch G A B → (∀ k ∈ G, b20 ≤ k ∧ k ≠ H23.size) → Dfr (H23.size :: Ds) B := fun {A B G} h c hG => Dfr.ch c h fun D hD hh => by
    have h1 := hG D hh
    rcases List.mem_cons.1 hD with rfl | hD
    · exact h1.2 rfl
    · have := hdl D hD; omega
  have ss32 : CB W.heap b20 s a a2 t l b1 ps pa b9 T9 fv H32 ∧ Lst H32 b12 u (l.take (lim a2 l.length)) (H13.size + 2) := ⟨cb23.keep k32, lu23.keep k32⟩
  have lv32 : Lst H32 b20 ⟨none, 0, 0⟩ (l.take 0) (H23.size + 2) := ⟨hb20.keep k32, Own.nil _ _ _, by simp [fp], by omega⟩
  have lw32 : Lst H32 b22 ⟨none, 0, 0⟩ (if 0 = 0 then [] else l) (H23.size + 2) := ⟨hb22.keep k32, Own.nil _ _ _, by simp [fp], by omega⟩
  have df32 : Dfr (H23.size :: Ds) H32 := ⟨hD, fun hh => by have := df23.lt _ hh; omega, df23.keep k32⟩
  refine Each_seq (by omega) hfl hl ss32.1.ka ss32.1.ks _ _ (fun i G H' => (CB W.heap b20 s a a2 t l b1 ps pa b9 T9 fv H' ∧ Lst H' b12 u (l.take (lim a2 l.length)) (H13.size + 2)) ∧ (∃ v w, Lst H' b20 v (l.take i) (H23.size + 2) ∧ Lst H' b22 w (if i = 0 then [] else l) (H23.size + 2) ∧ (∀ k ∈ fp v, k ∉ fp w) ∧ (i = 0 → w = ⟨none, 0, 0⟩) ∧ G = (H23.size + 1) :: b20 :: b22 :: (fp v ++ fp w)) ∧ Lp H' (H23.size + 1) r ∧ Dfr (H23.size :: Ds) H') (fun _ => False)
    [H23.size + 1, b20, b22] ?_ ?_ ?_ ?_ ?_ ?_ (fun _ h => h.elim)
  · intro k hk
    have := cb16.lt
    simp at hk ⊢
    omega
  · exact ⟨ss32, ⟨_, _, lv32, lw32, by simp [fp], fun _ => rfl, rfl⟩, hlp, df32⟩
  · rintro i G A B ⟨q1, ⟨v, w, q2, q3, q4, q5, q6⟩, q7, q8⟩ k
    exact ⟨⟨q1.1.keep k, q1.2.keep k⟩, ⟨v, w, q2.keep k, q3.keep k, q4, q5, q6⟩, q7.kp k, q8.keep k⟩
  · rintro i G A ⟨q1, ⟨v, w, q2, q3, q4, q5, rfl⟩, q7, q8⟩ k hk
    rcases List.mem_cons.1 hk with rfl | hk
    · exact q7.lt
    rcases List.mem_cons.1 hk with rfl | hk
    · exact q2.bk.lt
    rcases List.mem_cons.1 hk with rfl | hk
    · exact q3.bk.lt
    rcases List.mem_append.1 hk with hk | hk
    · exact q2.ow.fp_lt k hk
    · exact q3.ow.fp_lt k hk
  · rintro i G x H35 K hx ⟨q1, ⟨v, w, q2, q3, q4, q5, rfl⟩, q7, q8⟩ hT hZ
    have hil := (List.getElem?_eq_some_iff.1 hx).1
    have z7 := q7.lt
    refine ⟨q7, ?_⟩
    intro b38 H40 c40 g40 g40'
    have k40 : Keep H35 H40 := c40.keep (by simp)
    refine ⟨q7.kp k40, Up_s (q7.kp k40) fun H41 s41 l41 => ⟨fun j hj => s41.block j (by simp at hj; omega), ?_⟩⟩
    have y40 := k40.size
    have y41 := s41.size
    have r1 := ssch ⟨q1.1.keep k40, q1.2.keep k40⟩ s41.ch (by simp; omega)
    have r2 := (q2.keep k40).ch s41.ch (by simp; omega) (fun k hk => by have := q2.lo k hk; simp; omega)
    have r3 := (q3.keep k40).ch s41.ch (by simp; omega) (fun k hk => by have := q3.lo k hk; simp; omega)
    have r8 := dfch (q8.keep k40) s41.ch (by simp; omega)
    have c41 : Ch ((H23.size + 1) :: b20 :: b22 :: (fp v ++ fp w)) H35 H41 := (k40.ch (F := _)).trans s41.ch (by simp)
    have hvl := r2.ow.fp_lt
    have hwl := r3.ow.fp_lt
    refine ldL_i r2.bk rfl (r2.push (x := x) (by omega) (by simp; omega) fun v' H52 t2 c52 f52 => ?_)
    have y52 := c52.size
    have hv52 : ∀ k ∈ b20 :: fp v, b20 ≤ k ∧ k ≠ H23.size ∧ k ≠ H23.size + 1 ∧ k ≠ b22 := fun k hk => by
      rcases List.mem_cons.1 hk with rfl | hk
      · omega
      · have := q2.lo k hk; omega
    have t1 := ssch r1 c52 fun k hk => (hv52 k hk).1
    have t3 := r3.ch c52 (fun hh => (hv52 _ hh).2.2.2 rfl) fun k hk hh => by
      rcases List.mem_cons.1 hh with rfl | hh
      · have := q3.lo _ hk; omega
      · exact q4 k hh hk
    have t7 := l41.ch c52 fun hh => (hv52 _ hh).2.2.1 rfl
    have t8 := dfch r8 c52 fun k hk => ⟨(hv52 k hk).1, (hv52 k hk).2.1⟩
    have c52' : Ch ((H23.size + 1) :: b20 :: b22 :: (fp v ++ fp w)) H35 H52 := c41.trans c52 fun k hk => .inl (by
      simp at hk ⊢
      rcases hk with h | h
      · exact .inr (.inl h)
      · exact .inr (.inr (.inr (.inl h))))
    have t2' : Lst H52 b20 v' (l.take (i + 1)) (H23.size + 2) := by rw [take_snoc' hx]; exact t2
    have vn : v'.n = i + 1 := by have := t2'.view.n; simp at this; omega
    have hvl' := t2.ow.fp_lt
    have dj' : ∀ k ∈ fp v', k ∉ fp w := fun k hk hh => by
      rcases f52 k hk with h | h
      · exact q4 k h hh
      · have := hwl k hh; omega
    refine ldL_i t2.bk rfl ?_
    rw [vn]
    by_cases hi0 : i = 0
    rotate_left
    · refine ite_f (beqf (by omega)) ⟨t7, hT ((H23.size + 1) :: b20 :: b22 :: (fp v' ++ fp w)) _ ⟨ssch t1 putL_same.ch (by simp; omega), ⟨v', w, ?_, ?_, dj', fun h => by omega, rfl⟩, putL_lp t7, dfch t8 putL_same.ch (by simp; omega)⟩ (c52'.trans putL_same.ch (by simp)) ?_⟩
      · exact t2'.ch putL_same.ch (by simp; omega) (fun k hk => by have := t2.lo k hk; simp; omega)
      · rw [if_neg hi0] at t3
        rw [if_neg (by omega)]
        exact t3.ch putL_same.ch (by simp; omega) (fun k hk => by have := t3.lo k hk; simp; omega)
      · intro k hk
        simp at hk ⊢
        rcases hk with h | h | h | h | h
        · exact .inl (.inl h)
        · exact .inl (.inr (.inl h))
        · exact .inl (.inr (.inr (.inl h)))
        · rcases f52 k h with h | h
          · exact .inl (.inr (.inr (.inr (.inl h))))
          · omega
        · exact .inl (.inr (.inr (.inr (.inr h))))
    subst hi0
    have ew := q5 rfl
    subst ew
    rw [if_pos rfl] at t3
    refine ite_t (beqi rfl) ⟨_, by rw [t1.1.k9.cell]; rfl, ⟨pa, 0, none⟩, ⟨ps, 0, none⟩, efv, Rg1_i t7 fun r60 H63 hr60 k63 s63 lp60 => ?_⟩
    have u1 : CB W.heap b20 s a a2 t l b1 ps pa b9 T9 fv H63 ∧ Lst H63 b12 u (l.take (lim a2 l.length)) (H13.size + 2) := ⟨t1.1.keep k63, t1.2.keep k63⟩
    refine Each_seq (by omega) hfl hl u1.1.ka u1.1.ks _ _ (fun j G H' => (CB W.heap b20 s a a2 t l b1 ps pa b9 T9 fv H' ∧ Lst H' b12 u (l.take (lim a2 l.length)) (H13.size + 2)) ∧ Lst H' b20 v' (l.take 1) (H23.size + 2) ∧ (∃ w, Lst H' b22 w (l.take j) (H63.size) ∧ G = H52.size :: b22 :: fp w) ∧ Lp H' (H23.size + 1) (bsy r) ∧ Lp H' H52.size r60 ∧ Dfr (H23.size :: Ds) H' ∧ Ch [H52.size, b22] H63 H') (fun _ => False)
      [H52.size, b22] ?_ ?_ ?_ ?_ ?_ ?_ (fun _ h => h.elim)
    · intro k hk
      have := cb16.lt
      simp at hk ⊢
      omega
    · exact ⟨u1, t2'.keep k63, ⟨⟨none, 0, 0⟩, ⟨t3.bk.keep k63, Own.nil _ _ _, by simp [fp], by omega⟩, rfl⟩, t7.kp k63, lp60, t8.keep k63, Ch.refl _ _⟩
    · rintro j G A B ⟨p1, p2, ⟨w, p3, p4⟩, p5, p6, p7, p8⟩ k
      exact ⟨⟨p1.1.keep k, p1.2.keep k⟩, p2.keep k, ⟨w, p3.keep k, p4⟩, p5.kp k, p6.kp k, p7.keep k, p8.trans (k.ch (F := [])) (by simp)⟩
    · rintro j G A ⟨p1, p2, ⟨w, p3, rfl⟩, p5, p6, p7, p8⟩ k hk
      rcases List.mem_cons.1 hk with rfl | hk
      · exact p6.lt
      rcases List.mem_cons.1 hk with rfl | hk
      · exact p3.bk.lt
      · exact p3.ow.fp_lt k hk
    · rintro j G x' H66 K' hx' ⟨p1, p2, ⟨w, p3, rfl⟩, p5, p6, p7, p8⟩ hT' hZ'
      have hjl := (List.getElem?_eq_some_iff.1 hx').1
      have z6 := p6.lt
      refine ⟨p6, ?_⟩
      intro b69 H71 c71 g71 g71'
      have k71 : Keep H66 H71 := c71.keep (by simp)
      refine ⟨p6.kp k71, Up_s (p6.kp k71) fun H72 s72 l72 => ⟨fun j hj => s72.block j (by simp at hj; omega), ?_⟩⟩
      have y66 := p8.size
      have y71 := k71.size
      have y72 := s72.size
      have r1 := ssch ⟨p1.1.keep k71, p1.2.keep k71⟩ s72.ch (by simp; omega)
      have r2 := (p2.keep k71).ch s72.ch (by simp; omega) (fun k hk => by have := hvl' k hk; simp; omega)
      have r3 := (p3.keep k71).ch s72.ch (by simp; omega) (fun k hk => by have := p3.lo k hk; simp; omega)
      have r5 := (p5.kp k71).ch s72.ch (by simp; omega)
      have r7 := dfch (p7.keep k71) s72.ch (by simp; omega)
      have d72 : Ch (H52.size :: b22 :: fp w) H66 H72 := (k71.ch (F := _)).trans s72.ch (by simp)
      refine ldL_i r3.bk rfl (r3.push (x := x') (by omega) (by simp; omega) fun w' H83 o3 c83 f83 => ?_)
      have hw83 : ∀ k ∈ b22 :: fp w, b20 ≤ k ∧ k ≠ H23.size ∧ k ≠ H23.size + 1 ∧ k ≠ b20 ∧ k ≠ H52.size := fun k hk => by
        rcases List.mem_cons.1 hk with rfl | hk
        · omega
        · have := p3.lo k hk; omega
      have o1 := ssch r1 c83 fun k hk => (hw83 k hk).1
      have o2 := r2.ch c83 (fun hh => (hw83 _ hh).2.2.2.1 rfl) fun k hk hh => by
        have := hvl' k hk
        have := t2.lo k hk
        rcases List.mem_cons.1 hh with rfl | hh
        · omega
        · have := p3.lo k hh; omega
      have o5 := r5.ch c83 fun hh => (hw83 _ hh).2.2.1 rfl
      have o6 := l72.ch c83 fun hh => (hw83 _ hh).2.2.2.2 rfl
      have o7 := dfch r7 c83 fun k hk => ⟨(hw83 k hk).1, (hw83 k hk).2.1⟩
      have e83 : Ch (H52.size :: b22 :: fp w) H66 H83 := d72.trans c83 fun k hk => .inl (by simp at hk ⊢; rcases hk with h | h; exact .inr (.inl h); exact .inr (.inr h))
      refine ⟨o6, hT' (H52.size :: b22 :: fp w') _ ⟨ssch o1 putL_same.ch (by simp; omega), o2.ch putL_same.ch (by simp; omega) (fun k hk => by have := hvl' k hk; simp; omega), ⟨w', ?_, rfl⟩, o5.ch putL_same.ch (by simp; omega), putL_lp o6, dfch o7 putL_same.ch (by simp; omega), ?_⟩ (e83.trans putL_same.ch (by simp)) ?_⟩
      · rw [take_snoc' hx']
        exact o3.ch putL_same.ch (by simp; omega) (fun k hk => by have := o3.lo k hk; simp; omega)
      · refine p8.trans (e83.trans (putL_same (r := r60)).ch (by simp)) fun k hk => ?_
        simp at hk ⊢
        rcases hk with h | h | h
        · exact .inl (.inl h)
        · exact .inl (.inr h)
        · have := p3.lo k h; omega
      · intro k hk
        simp at hk ⊢
        rcases hk with h | h | h
        · exact .inl (.inl h)
        · exact .inl (.inr (.inl h))
        · rcases f83 k h with h | h
          · exact .inl (.inr (.inr h))
          · omega
    · rintro G H67 ⟨p1, p2, ⟨w, p3, rfl⟩, p5, p6, p7, p8⟩
      have z6 := p6.lt
      have y67 := p8.size
      refine ⟨p6, Up_s p6 fun H85 s85 _ => ⟨p5.ch s85.ch (by simp; omega), ?_⟩⟩
      have o1 := ssch p1 s85.ch (by simp; omega)
      have o2 := p2.ch s85.ch (by simp; omega) (fun k hk => by have := hvl' k hk; simp; omega)
      have o3 := p3.ch s85.ch (by simp; omega) (fun k hk => by have := p3.lo k hk; simp; omega)
      have o5 := p5.ch s85.ch (by simp; omega)
      have o7 := dfch p7 s85.ch (by simp; omega)
      rw [List.take_of_length_le (Nat.le_refl _)] at o3
      refine hT ((H23.size + 1) :: b20 :: b22 :: (fp v' ++ fp w)) _ ⟨ssch o1 putL_same.ch (by simp; omega), ⟨v', w, ?_, ?_, fun k hk hh => ?_, fun h => by omega, rfl⟩, putL_lp o5, dfch o7 putL_same.ch (by simp; omega)⟩ ?_ ?_
      · exact o2.ch putL_same.ch (by simp; omega) (fun k hk => by have := t2.lo k hk; simp; omega)
      · rw [if_neg (by omega)]
        have := o3.ch (putL_same (H := H85) (l := H23.size + 1) (r := r)).ch (by simp; omega) (fun k hk => by have := o3.lo k hk; simp; omega)
        exact ⟨this.bk, this.ow, fun k hk => by have := this.lo k hk; omega, by omega⟩
      · have := hvl' k hk
        have := p3.lo k hh
        omega
      · have c1 : Ch ((H23.size + 1) :: b20 :: b22 :: (fp v ++ fp ⟨none, 0, 0⟩)) H35 H67 := (c52'.trans (k63.ch (F := [])) (by simp)).trans p8 fun k hk => by
          simp at hk ⊢
          rcases hk with h | h
          · omega
          · exact .inl (.inr (.inr (.inl h)))
        exact (c1.trans s85.ch (by simp; omega)).trans putL_same.ch (by simp)
      · intro k hk
        simp at hk ⊢
        rcases hk with h | h | h | h | h
        · exact .inl (.inl h)
        · exact .inl (.inr (.inl h))
        · exact .inl (.inr (.inr (.inl h)))
        · rcases f52 k h with h | h
          · exact .inl (.inr (.inr (.inr (.inl h))))
          · omega
        · have := p3.lo k h; omega
  · rintro G H36 ⟨q1, ⟨v, w, q2, q3, q4, q5, rfl⟩, q7, q8⟩
    have z7 := q7.lt
    refine ⟨q7, Up_s q7 fun H87 s87 _ => ?_⟩
    have r1 := ssch q1 s87.ch (by simp; omega)
    have r2 := q2.ch s87.ch (by simp; omega) (fun k hk => by have := q2.lo k hk; simp; omega)
    have r3 := q3.ch s87.ch (by simp; omega) (fun k hk => by have := q3.lo k hk; simp; omega)
    have r8 := dfch q8 s87.ch (by simp; omega)
    rw [List.take_of_length_le (Nat.le_refl _)] at r2
    rw [if_neg (by omega)] at r3
    have vt := r1.1.ow.view cP_len (by omega)
    have vtc := vt.c
    refine ⟨by omega, by omega, ldL_i r1.2.bk rfl (Same_ok r1.2.view (vt.take hlim) (by simp; omega) fun b hb => ite_t (hb.2 rfl) (ldL_i r2.bk rfl (Same_ok r2.view vt (by omega) fun b hb => ite_t (hb.2 rfl) (ldL_i r3.bk rfl (Same_ok r3.view vt (by omega) fun b hb => tkD_ok r8 fun H103 c103 _ => ⟨hb.2 rfl, ?_⟩)))))⟩
    refine ((r1.1.kp.ch (F := [])).trans c103 fun k hk => .inr ?_).keep (by simp)
    rcases List.mem_cons.1 hk with rfl | hk
    · omega
    · have := (hDs k hk).1
      omega
end Go.Proofs.Ytdcjjoihlnjpnaa.G
