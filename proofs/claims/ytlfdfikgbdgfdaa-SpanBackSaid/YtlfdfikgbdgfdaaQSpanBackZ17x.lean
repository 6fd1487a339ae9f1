/- Of this text what the row needs. -/
import Derived.Test.YtlfdfikgbdgfdaaQSpanBackZ17w
import Derived.Test.YtlfdfikgbdgfdaaQSpanBackKSpanBack
namespace Go.Proofs.Ytlfdfikgbdgfdaa.G
open Go.RowKit
set_option linter.unusedVariables false
set_option linter.unusedSimpArgs false
set_option maxRecDepth 20000
structure DW (W H : Hp) (j : Jb) (a1 : Sl) (BL : List (Ints 64)) (k b1 b3 b12 : Nat) : Prop where
  j1 : Bk H b1 32 j.cells
  f3 : Bk H b3 38 [.slice a1.a a1.n a1.c]
  f12 : Bk H b12 82 [.pointer (some ⟨k, 0, none⟩)]
  hb : SlV H a1 64 cBl BL
  kp : Keep W H
theorem DW.ch {W H H' : Hp} {j : Jb} {a1 : Sl} {BL : List (Ints 64)} {k b1 b3 b12 : Nat} {F : List Nat} (a : DW W H j a1 BL k b1 b3 b12) (c : Ch F H H') (h0 : SlV W a1 64 cBl BL) (h1 : ∀ b ∈ F, W.size ≤ b) (h2 : ∀ b ∈ [b1, b3, b12], b ∉ F) : DW W H' j a1 BL k b1 b3 b12 :=
  have kk : Keep W H' := (a.kp.ch (F := [])).trans c (fun b hb => .inr (h1 b hb)) |>.keep (by simp)
  ⟨a.j1.ch c (h2 _ (by simp)), a.f3.ch c (h2 _ (by simp)), a.f12.ch c (h2 _ (by simp)), h0.keep kk, kk⟩
structure DV (W H : Hp) (j : Jb) (cs : List Cp) (ps : List Pa) (TV : Nat → List Nat) (L : List Nat) (BL : List (Ints 64)) (k b5 b7 b18 b20 i : Nat) (sk : Sl) (lk : List Bool) (P4 : List Int) : Prop where
  sn : Snk H k sk lk
  f5 : Bk H b5 9 [.string ByteArray.empty]
  f7 : Bk H b7 4 [.bool false]
  f18 : Bk H b18 84 (ints .i16 P4)
  f20 : Bk H b20 3 [.int .i64 (i : Int)]
  pl : P4.length = 4
  pv : ∀ v ∈ P4, -32768 ≤ v ∧ v ≤ 32767
  wr : Wr j cs ps TV (L.take i) lk P4 ((BL.take i).map (·.1))
  ll : lk.length ≤ 2048 * i
  ib : i ≤ BL.length
  fr : ∀ b ∈ fp sk, W.size ≤ b
theorem DV.ch {W H H' : Hp} {j : Jb} {cs : List Cp} {ps : List Pa} {TV : Nat → List Nat} {L : List Nat} {BL : List (Ints 64)} {k b5 b7 b18 b20 i : Nat} {sk : Sl} {lk : List Bool} {P4 : List Int} {F : List Nat} (a : DV W H j cs ps TV L BL k b5 b7 b18 b20 i sk lk P4) (c : Ch F H H') (h : ∀ b ∈ k :: b5 :: b7 :: b18 :: b20 :: fp sk, b ∉ F) : DV W H' j cs ps TV L BL k b5 b7 b18 b20 i sk lk P4 :=
  ⟨a.sn.ch c (fun b hb => h b (by rcases List.mem_cons.1 hb with rfl | hb; simp; simp [hb])), a.f5.ch c (h _ (by simp)), a.f7.ch c (h _ (by simp)), a.f18.ch c (h _ (by simp)), a.f20.ch c (h _ (by simp)), a.pl, a.pv, a.wr, a.ll, a.ib, a.fr⟩
theorem DV.lts {W H : Hp} {j : Jb} {cs : List Cp} {ps : List Pa} {TV : Nat → List Nat} {L : List Nat} {BL : List (Ints 64)} {k b5 b7 b18 b20 i : Nat} {sk : Sl} {lk : List Bool} {P4 : List Int} (a : DV W H j cs ps TV L BL k b5 b7 b18 b20 i sk lk P4) : ∀ b ∈ k :: b5 :: b7 :: b18 :: b20 :: fp sk, b < H.size := fun b hb => by
  rcases List.mem_cons.1 hb with rfl | hb
  · exact a.sn.lts _ (by simp)
  rcases List.mem_cons.1 hb with rfl | hb
  · exact a.f5.lt
  rcases List.mem_cons.1 hb with rfl | hb
  · exact a.f7.lt
  rcases List.mem_cons.1 hb with rfl | hb
  · exact a.f18.lt
  rcases List.mem_cons.1 hb with rfl | hb
  · exact a.f20.lt
  exact a.sn.lts b (by simp [hb])
theorem Symbols_one {H : Hp} {B : Ints 64} {pred : Int} {Q : Sl × Int → Hp → Prop} (hp : -32768 ≤ pred ∧ pred ≤ 32767)
    (h : ∀ (tl : Sl) (er : Int) (ys : List Sy) (H' : Hp), Own H' 93 3 tl (ys.flatMap cS) → (er = 0 → mayB B.1 ∧ bln (B.1.getD 0 0 - pred).natAbs ≤ 11 ∧ ys = syF B.1 pred) → Keep H H' → (∀ b ∈ fp tl, H.size ≤ b) → Q (tl, er) H') : runs_Symbols.s B pred H Q :=
  Symbols_ok hp (fun _ H' k => h _ 3 [] H' (Own.nil _ _ _) (fun q => by cases q) k (by simp [fp])) (fun _ _ H' k => h _ 60 [] H' (Own.nil _ _ _) (fun q => by cases q) k (by simp [fp])) fun hm hd t H' o k f => h t 0 _ H' o (fun _ => ⟨hm, hd, rfl⟩) k f
theorem Write_one {H : Hp} {c : Cn} {vs : List Nat} {t k v : Nat} {s sk : Sl} {l : List Bool} {Q : Bool → Hp → Prop} (T : Tab H t s c vs) (hm : May4 c vs) (K : Snk H k sk l) (hv : v < 256) (hl : l.length ≤ 562949953420000)
    (h : ∀ (w : Bool) s' l' H', Snk H' k s' l' → Ch (k :: fp sk) H H' → (∀ b ∈ fp s', b ∈ fp sk ∨ H.size ≤ b) → l'.length ≤ l.length + 16 → (w = true → v ∈ vs ∧ l' = l ++ codB c vs v) → Q w H') : huff_Table_Write.s (some ⟨t, 0, none⟩) (some ⟨k, 0, none⟩) (v : Int) H Q := by
  obtain ⟨f1, f2, f3⟩ := lkp_fit hm v
  refine Write_ok4 T hm K hv hl (fun _ => h false sk l H K (Ch.refl _ _) (fun b hb => .inl hb) (by omega) (fun q => by cases q)) fun hne s' H' K' c' f' => h true s' _ H' K' c' f' (by rw [List.length_append, bl_len]; omega) fun _ => ⟨?_, rfl⟩
  exact Classical.byContradiction fun q => hne (f3.2 q)
theorem Put_one {H : Hp} {k : Nat} {s : Sl} {l : List Bool} {v n : Int} {Q : Bool → Hp → Prop} (hs : Snk H k s l) (hl : l.length ≤ 562949953420000)
    (h : ∀ (w : Bool) s' l' H', Snk H' k s' l' → Ch (k :: fp s) H H' → (∀ b ∈ fp s', b ∈ fp s ∨ H.size ≤ b) → l'.length ≤ l.length + 16 → (w = true → l' = l ++ bl n.toNat (low v n.toNat)) → Q w H') : bits_Sink_Put.s (some ⟨k, 0, none⟩) v n H Q :=
  Put_ok hs hl (fun _ => h false s l H hs (Ch.refl _ _) (fun b hb => .inl hb) (by omega) (fun q => by cases q)) fun h0 h16 s' H' K' c' f' => h true s' _ H' K' c' f' (by rw [List.length_append, bl_len]; omega) fun _ => rfl
theorem snk_octs {H : Hp} {k : Nat} {s : Sl} {m : List Bool} (hs : Snk H k s m) (h8 : m.length % 8 = 0) : ∃ bs : List Nat, (∀ b ∈ bs, b < 256) ∧ m = bs.flatMap (bl 8) ∧ text m = bytesOf (stuff bs) := by
  obtain ⟨bs, v, n, R, hn, hmb⟩ := hs
  have hoc : octs m = bs := by rw [hmb]; exact octs_eq R.byte hn
  have hn0 : n = 0 := by
    have := congrArg List.length hmb
    rw [List.length_append, fm8, bl_len] at this
    omega
  subst hn0
  exact ⟨bs, R.byte, by rw [hmb]; simp [bl], by unfold text; rw [hoc]⟩
theorem Has_of {D A : TB} : ∀ {l : List Sy}, (∀ i y, l[i]? = some y → y.1 ∈ (if i = 0 then D else A).2) → Has D A l
  | [], _ => trivial
  | x :: r, h => ⟨by simpa using h 0 x rfl, fun y hy => by
      obtain ⟨i, hi⟩ := List.getElem?_of_mem hy
      simpa using h (i + 1) y (by simpa using hi)⟩
section
variable {H : Hp} {j : Jb} {cs : List Cp} {ps : List Pa} {TV : Nat → List Nat}
set_option maxHeartbeats 4000000 in
theorem written_ok {a1 : Sl} {BL : List (Ints 64)} {Q : ByteArray × Bool → Hp → Prop} (J : JV H j cs ps TV) (hz : jChk j cs ps TV = 0) (hu3 : j.u ≤ 3000) (hb : SlV H a1 64 cBl BL) (hbl : BL.length ≤ 1099511627776) (hbv : ∀ X ∈ BL, ∀ v ∈ X.1, -32768 ≤ v ∧ v ≤ 32767)
    (h0 : ∀ s H', Keep H H' → Q (s, false) H')
    (h1 : ∀ (l : List Bool) H', Keep H H' → l.length ≤ 61440000 → (∀ Z, ∃ P, rdL (jT j TV ps) (jR0 ps (l ++ Z)) (cat (jL j cs ps) j.u.toNat) = ⟨0, P, Z, BL.map (·.1), l.length⟩) → (∃ bs : List Nat, (∀ b ∈ bs, b < 256) ∧ l ++ List.replicate ((8 - l.length % 8) % 8) true = bs.flatMap (bl 8) ∧ text (l ++ List.replicate ((8 - l.length % 8) % 8) true) = bytesOf (stuff bs)) → Q (text (l ++ List.replicate ((8 - l.length % 8) % 8) true), true) H') :
    mosaiclaw17_written.s j.g j.w j.h j.s j.t j.d0.1 j.d0.2 j.d1.1 j.d1.2 j.d2.1 j.d2.2 j.d3.1 j.d3.2 j.a0.1 j.a0.2 j.a1.1 j.a1.2 j.a2.1 j.a2.2 j.a3.1 j.a3.2 j.f j.u a1 H Q := by
  have hjf := J.hf
  have hju := J.hu
  have hl4 := J.hl
  have hm4 := J.hm
  have hn4 := hb.n
  obtain ⟨hP, hE, ff0, uu0, fT, uT⟩ := jchk_no hz
  have each := each_le hP
  obtain ⟨hC, frC, hL, hBd, hUs⟩ := prt_fr hP
  have hTok : ∀ q, q < ps.length → TbOk (jT j TV ps q).1 ∧ TbOk (jT j TV ps q).2 := fun q hq => jT_ok J hz hq
  unfold mosaiclaw17_written.s
  intro b1 H2 c2 g1 g1' b3 H4 c4 g3 g3' b5 H6 c6 g5 g5' b7 H8 c8 g7 g7'
  have y2 := c2.size
  have y4 := c4.size
  have y6 := c6.size
  have y8 := c8.size
  have k8 : Keep H H8 := (((c2.keep (by simp)).trans (c4.keep (by simp))).trans (c6.keep (by simp))).trans (c8.keep (by simp))
  refine bits_New_ok fun k H10 S10 k10 gk => ⟨Pv.keep k10 (by simp; omega), ?_⟩
  have y10 := k10.size
  have kl := S10.lts k (by simp)
  intro b12 H14 c14 g12 g12'
  have y14 := c14.size
  refine ite_f rfl ?_
  intro b18 H19 c19 g18 g18' b20 H22 c22 g20 g20'
  have y19 := c19.size
  have y22 := c22.size
  have kB : Keep H10 H22 := ((c14.keep (by simp)).trans (c19.keep (by simp))).trans (c22.keep (by simp))
  have kA : Keep H H22 := (k8.trans k10).trans kB
  have J22 := J.keep kA
  refine Walk_ok J22.hs J22.hok (by omega) J22.ht J22.hpk (by omega) (by omega) (by omega) fun p5 p40 p1 p3 p26 l8 m8 H24 wb k24 lo => ⟨Pv.keep k24 (by simp; omega), fun q1 q3 q5 q7 q12 q18 q20 => ?_⟩
  have y24 := k24.size
  obtain ⟨wf, we⟩ := wEnd_at (f := j.f) (u := j.u) (T := (Uni j.w j.h cs ps).1 * (Uni j.w j.h cs ps).2) ff0 uu0 fT
  have we' : wEnd j.f j.u ((Uni j.w j.h cs ps).1 * (Uni j.w j.h cs ps).2) = j.f + j.u := by rw [we]; omega
  rw [wf, we'] at wb
  have kC := kA.trans k24
  refine Rg_i fun rr H29 hrr k29 z29 hD hlp => ?_
  have y29 := k29.size
  have sq := walk_seq (wb.keep k29) J.hok (by omega) (by omega) (.func (.yield (H24.size + 1)) #[] #[])
  have hWn := walk_len (w := j.w) (h := j.h) hP j.f.toNat ((j.f + j.u).toNat - j.f.toNat)
  rw [show (j.f + j.u).toNat - j.f.toNat = j.u.toNat from by omega] at sq hWn
  have hWm := walk_map (j := j) (cs := cs) (ps := ps) j.u.toNat
  have hin : ∀ {x : Sp}, x ∈ walkL j.w j.h cs ps j.f.toNat j.u.toNat → 0 ≤ x.1 ∧ x.1 < ps.length := fun {x} hx => walkIn hx
  generalize walkL j.w j.h cs ps j.f.toNat j.u.toNat = WL at sq hWn hWm hin
  have hW30 : WL.length ≤ 30000 := by
    rw [hWn]
    have := Nat.mul_le_mul (show j.u.toNat ≤ 3000 by omega) each.2
    omega
  generalize hLL : cat (jL j cs ps) j.u.toNat = L at hWm h1
  have hLn : L.length = WL.length := by rw [← hWm, List.length_map]
  have hord : H.size ≤ b1 ∧ b1 < b3 ∧ b3 < b5 ∧ b5 < b7 ∧ b7 < k ∧ k < b12 ∧ b12 < b18 ∧ b18 < b20 ∧ b20 < H24.size := by omega
  have nL3 : H24.size + 1 ∉ [b1, b3, b12] := by simp; omega
  have dw29 : DW H H29 j a1 BL k b1 b3 b12 := ⟨q1.keep k29, q3.keep k29, q12.keep k29, hb.keep (kC.trans k29), kC.trans k29⟩
  have dv29 : DV H H29 j cs ps TV L BL k b5 b7 b18 b20 0 ⟨none, 0, 0⟩ [] (zInts 4).1 := ⟨(S10.ch (kB.ch (F := [])) (by simp)).ch ((k24.trans k29).ch (F := [])) (by simp), q5.keep k29, q7.keep k29, q18.keep k29, q20.keep k29, (zInts 4).2, by decide,
    by simpa using Wr.nil (j := j) (cs := cs) (ps := ps) (TV := TV) (fun p => by
      show (List.replicate 4 (0 : Int)).getD p 0 = 0
      rw [List.getD_eq_getElem?_getD, List.getElem?_replicate]; split <;> rfl), by simp, by simp, by simp [fp]⟩
  refine sq _ _ (fun i G H' => ∃ (sk : Sl) (lk : List Bool) (P4 : List Int), G = (H24.size + 1) :: k :: b5 :: b7 :: b18 :: b20 :: fp sk ∧ DW H H' j a1 BL k b1 b3 b12 ∧ DV H H' j cs ps TV L BL k b5 b7 b18 b20 i sk lk P4 ∧ Lp H' (H24.size + 1) rr ∧ Dfr [H24.size] H' ∧ (∀ b ∈ fp sk, H24.size + 2 ≤ b))
    (fun G H' => (∀ b ∈ H24.size :: b5 :: b7 :: [H24.size + 1], b < H24.size + 2) ∧ (∃ sk : Sl, G = (H24.size + 1) :: k :: b5 :: b7 :: b18 :: b20 :: fp sk ∧ ∀ b ∈ fp sk, H24.size + 2 ≤ b) ∧ Bk H' b5 9 [.string (⟨#[]⟩ : ByteArray)] ∧ Bk H' b7 4 [.bool false] ∧ Lp H' (H24.size + 1) (dn rr .ret) ∧ Dfr [H24.size] H' ∧ Keep H H') ((H24.size + 1) :: k :: b5 :: b7 :: b18 :: b20 :: []) ?_ ?_ ?_ ?_ ?_ ?_ ?_ ?_
  · intro b hb hh
    have r1 := lo b hh
    have r2 := wb.lts b hh
    simp at hb; omega
  · exact ⟨⟨none, 0, 0⟩, [], (zInts 4).1, rfl, dw29, dv29, hlp, ⟨hD, by simp, trivial⟩, by simp [fp]⟩
  · rintro i G A B F ⟨sk, lk, P4, rfl, a2, a3, a4, a5, a6⟩ kk hF
    have nF : ∀ {y}, y < H29.size → y ∉ F := fun {y} hy hh => by have := (hF y hh).1; omega
    refine ⟨sk, lk, P4, rfl, a2.ch kk hb (fun b hb => by have := (hF b hb).1; have := kC.size; omega) (fun b hb => nF (by simp at hb; omega)), a3.ch kk (fun b hb hh => (hF b hh).2 (List.mem_cons_of_mem _ hb)), a4.ch kk (nF (by omega)), Dfr.ch kk a5 (fun D hD' => nF (by simp at hD'; omega)), a6⟩
  · rintro G A B F ⟨a1', a2, a3, a4, a5, a6, a7⟩ kk hF
    have nF : ∀ {y}, y < H29.size → y ∉ F := fun {y} hy hh => by have := (hF y hh).1; omega
    exact ⟨a1', a2, a3.ch kk (nF (by omega)), a4.ch kk (nF (by omega)), a5.ch kk (nF (by omega)), Dfr.ch kk a6 (fun D hD' => nF (by simp at hD'; omega)), (a7.ch (F := [])).trans kk (fun b hb => .inr (by have := (hF b hb).1; have := kC.size; omega)) |>.keep (by simp)⟩
  · rintro i G A ⟨sk, lk, P4, rfl, a2, a3, a4, a5, a6⟩ b hb
    rcases List.mem_cons.1 hb with rfl | hb
    · exact a4.lt
    · exact a3.lts b hb
  · rintro i G x H32 K hx ⟨sk, lk, P4, rfl, dw, dv, lp, dfr, frk⟩ hT' hF'
    have hil := (List.getElem?_eq_some_iff.1 hx).1
    obtain ⟨x0, x1⟩ := hin (List.mem_of_getElem? hx)
    have hLi : L[i]? = some x.1.toNat := by rw [← hWm, List.getElem?_map, hx]; rfl
    have lts := dv.lts
    refine ⟨lp, ?_⟩
    intro b35 H37 c37 g35 g35'
    have k37 : Keep H32 H37 := c37.keep (by simp)
    have y37 := k37.size
    have l37 := lp.ch c37 (by simp)
    have lpl := lp.lt
    refine ⟨l37, Up_s l37 fun H38 s38 l38 => ⟨Pv.ch s38.ch (by simp; omega), ?_⟩⟩
    have y38 := s38.size
    have cg : Ch ((H24.size + 1) :: k :: b5 :: b7 :: b18 :: b20 :: fp sk) H32 H38 := (k37.ch (F := (H24.size + 1) :: k :: b5 :: b7 :: b18 :: b20 :: fp sk)).trans s38.ch (by simp)
    have hWL : H.size ≤ H24.size := kC.size
    have nLf : H24.size + 1 ∉ k :: b5 :: b7 :: b18 :: b20 :: fp sk := fun hh => by
      simp only [List.mem_cons] at hh
      rcases hh with q | q | q | q | q | q
      · omega
      · omega
      · omega
      · omega
      · omega
      · have := frk _ q; omega
    have dw38 := (dw.ch (k37.ch (F := [])) hb (by simp) (by simp)).ch s38.ch hb (by simp; omega) (fun b hb' hh => by simp at hh; subst hh; exact nL3 hb')
    have dv38 := (dv.ch (k37.ch (F := [])) (by simp)).ch s38.ch (fun b hb' hh => by simp at hh; subst hh; exact nLf hb')
    have dfr38 : Dfr [H24.size] H38 := Dfr.ch s38.ch (dfr.keep k37) (by simp)
    -- a stop
    have stop : ∀ {A : Hp} {sk' : Sl}, Ch ((H24.size + 1) :: k :: b5 :: b7 :: b18 :: b20 :: fp sk) H32 A → Bk A b5 9 [.string ByteArray.empty] → Bk A b7 4 [.bool false] → Lp A (H24.size + 1) (bsy rr) → Dfr [H24.size] A → Keep H A → (∀ b ∈ fp sk', b ∈ fp sk ∨ H32.size ≤ b) →
        st A (⟨b5, 0, none⟩ : Addr) (.string (⟨#[]⟩ : ByteArray)) (fun H44 => st H44 (⟨b7, 0, none⟩ : Addr) (.bool false) (fun H45 => Lp H45 (H24.size + 1) (bsy rr) ∧ K false (putL H45 (H24.size + 1) (dn rr .ret)))) := fun {A sk'} cA f5 f7 lA dA kA' fsk => by
      refine st_i f5 (by simp) fun H44 b44 s44 => st_i (f7.same s44 (by omega)) (by simp) fun H45 b45 s45 => ?_
      have l45 := (lA.ch s44.ch (by simp; omega)).ch s45.ch (by simp; omega)
      have cc : Ch [b5, b7, H24.size + 1] A (putL H45 (H24.size + 1) (dn rr .ret)) := ((s44.ch.mono (G := [b5, b7, H24.size + 1]) (by simp)).trans s45.ch (by simp)).trans putL_same.ch (by simp)
      refine ⟨l45, hF' ((H24.size + 1) :: k :: b5 :: b7 :: b18 :: b20 :: fp sk') _ ⟨fun b hb' => by simp at hb'; omega, ⟨sk', rfl, fun b hb' => ?_⟩, (b44.same s45 (by omega)).same putL_same (by omega), b45.same putL_same (by omega), putL_lp l45, Dfr.ch cc dA (by simp; omega), ?_⟩ (cA.trans cc (by simp)) fun b hb' => ?_⟩
      · rcases fsk b hb' with q | q
        · exact frk b q
        · omega
      · exact ((kA'.ch (F := [])).trans cc (by simp; omega)).keep (by simp)
      · simp only [List.mem_cons] at hb' ⊢
        rcases hb' with q | q | q | q | q | q | q
        · exact .inl (.inl q)
        · exact .inl (.inr (.inl q))
        · exact .inl (.inr (.inr (.inl q)))
        · exact .inl (.inr (.inr (.inr (.inl q))))
        · exact .inl (.inr (.inr (.inr (.inr (.inl q)))))
        · exact .inl (.inr (.inr (.inr (.inr (.inr (.inl q))))))
        · rcases fsk b q with q | q
          · exact .inl (.inr (.inr (.inr (.inr (.inr (.inr q))))))
          · exact .inr q
    refine ldI_i dv38.f20 rfl (ldL_i (v := a1) dw38.f3 rfl ?_)
    by_cases hib : i < BL.length
    rotate_left
    · exact ite_t (dect (by omega)) (stop (sk' := sk) cg dv38.f5 dv38.f7 l38 dfr38 dw38.kp fun b hb' => .inl hb')
    obtain ⟨X, hX⟩ : ∃ X, BL[i]? = some X := ⟨_, get_some hib⟩
    obtain ⟨ba, oa, haa, hA⟩ := dw38.hb.get hX
    have hXv := hbv X (List.mem_of_getElem? hX)
    have p4l := dv.pl
    have hp4 : x.1.toNat < P4.length := by omega
    have hpv : -32768 ≤ P4.getD x.1.toNat 0 ∧ P4.getD x.1.toNat 0 ≤ 32767 := by
      rw [List.getD_eq_getElem?_getD, List.getElem?_eq_getElem (by omega)]
      exact dv.pv _ (List.getElem_mem _)
    refine ite_f (decf (by omega)) (ldL_i (v := a1) dw38.f3 rfl (ldI_i dv38.f20 rfl ⟨by omega, by omega, _, haa, X, ?_, x0, by omega, ldI_a dv38.f18 (v := P4.getD x.1.toNat 0) (by rw [Nat.mul_one]; exact ints_get hp4) ?_⟩))
    · rw [Int.toNat_natCast]; exact hA
    refine Symbols_one hpv fun tl er ys H63 otl her k63 ftl => ⟨Pv.keep k63 (by simp; omega), ?_⟩
    have y63 := k63.size
    dsimp only
    obtain ⟨p, hp⟩ : ∃ p, ps[x.1.toNat]? = some p := ⟨_, get_some (by omega)⟩
    obtain ⟨pd, pa, ⟨xd, hxd⟩, ⟨xa, hxa⟩⟩ := part_tabs hP J hp
    have tokP := hTok x.1.toNat (by omega)
    have hTp := jT_at (j := j) (TV := TV) hp
    rw [hTp] at tokP
    obtain ⟨tok, tok'⟩ := tokP
    obtain ⟨ck1, ck2⟩ := rdE_all hE p (List.mem_of_getElem? hp)
    have ckd : Chk4 xd.1 (TV p.dc.toNat) = 0 := by have := ck1; rw [tbl_at hxd] at this; exact this
    have cka : Chk4 xa.1 (TV (4 + p.ac.toNat)) = 0 := by have := ck2; rw [tbl_at hxa] at this; exact this
    have kH63 : Keep H H63 := dw38.kp.trans k63
    have J63 := J.keep kH63
    obtain ⟨bp, op, hap, hAp⟩ := J63.ht.get hp
    have n63 := J63.ht.n
    have j63 := dw38.j1.keep k63
    refine job_parts j63 ⟨x0, by omega, _, hap, ldI_of hAp (j := 1) rfl ⟨by omega, by omega, xd.1, xd.2, ?_, ?_⟩⟩
    · rw [add_mk]; exact job_sp j63 hxd
    obtain ⟨dv1, dv2, dv3, dv4⟩ := J63.sp _ xd hxd
    refine New_ok4 dv3 dv1 dv2 (by omega) (fun hne => absurd ckd hne) fun _ t tv H79 T79 k79 ft => ⟨Pv.keep k79 (by simp; omega), ?_⟩
    have y79 := k79.size
    have J79 := J63.keep k79
    have j79 := j63.keep k79
    obtain ⟨bp', op', hap', hAp'⟩ := J79.ht.get hp
    refine job_parts j79 ⟨x0, by omega, _, hap', ldI_of hAp' (j := 2) rfl ⟨by omega, by omega, xa.1, xa.2, ?_, ?_⟩⟩
    · rw [add_mk, show 73 + Int.toNat p.ac * 17 = 5 + (4 + Int.toNat p.ac) * 17 from by omega]; exact job_sp j79 hxa
    obtain ⟨av1, av2, av3, av4⟩ := J79.sp _ xa hxa
    refine New_ok4 av3 av1 av2 (by omega) (fun hne => absurd cka hne) fun _ t' tv' H95 T95 k95 ft' => ⟨Pv.keep k95 (by simp; omega), ?_⟩
    have y95 := k95.size
    have kX : Keep H38 H95 := (k63.trans k79).trans k95
    have kx95 := kX.ch (F := [])
    have dw95 := dw38.ch kx95 hb (by simp) (by simp)
    have dv95 := dv38.ch kx95 (by simp)
    have l95 := l38.ch kx95 (by simp)
    have dfr95 : Dfr [H24.size] H95 := dfr38.keep kX
    have cg95 : Ch ((H24.size + 1) :: k :: b5 :: b7 :: b18 :: b20 :: fp sk) H32 H95 := cg.trans kx95 (by simp)
    have otl95 := otl.kp (k79.trans k95)
    have T95' := T79.keep k95
    have lT := T79.lts
    have lT' := T95.lts
    have lkk := dv.sn.lts
    have tlf := otl.fp_lt
    refine Join.intro (fun (b : Bool) H' => b = (er != 0) ∧ H95 = H') ?_ fun J97 hJ97 => ?_
    rotate_left
    · cases her0 : (er != 0) with
      | true => exact ite_t rfl (hJ97 _ _ ⟨her0.symm, rfl⟩)
      | false => exact ite_f rfl (ite_f rfl (hJ97 _ _ ⟨her0.symm, rfl⟩))
    rintro _ _ ⟨rfl, rfl⟩
    by_cases her0 : er = 0
    rotate_left
    · exact ite_t (bnet her0) (stop (sk' := sk) cg95 dv95.f5 dv95.f7 l95 dfr95 dw95.kp fun b hb' => .inl hb')
    obtain ⟨hm, hd, rfl⟩ := her her0
    refine ite_f (bnei her0) ?_
    have hyl := syF_len (pred := P4.getD x.1.toNat 0) X.2
    have hsm := syF_ok (pred := P4.getD x.1.toNat 0) X.2 hm hpv hd
    generalize hys : syF X.1 (P4.getD x.1.toNat 0) = ys at hyl hsm otl95
    have cty := otl95.count cS_len (by omega)
    have hll := dv.ll
    have hDt : tbl j TV p.dc.toNat = (xd.1, TV p.dc.toNat) := tbl_at hxd
    have hAt : tbl j TV (4 + p.ac.toNat) = (xa.1, TV (4 + p.ac.toNat)) := tbl_at hxa
    -- the symbols are written
    refine Fix.intro (fun (s : Int) H' => ∃ (q : Nat) (sk' : Sl), s = (q : Int) ∧ q ≤ ys.length ∧ Snk H' k sk' (lk ++ encS (tbl j TV p.dc.toNat) (tbl j TV (4 + p.ac.toNat)) (ys.take q)) ∧ (lk ++ encS (tbl j TV p.dc.toNat) (tbl j TV (4 + p.ac.toNat)) (ys.take q)).length ≤ lk.length + 32 * q ∧ Ch (k :: fp sk) H95 H' ∧ (∀ b ∈ fp sk', b ∈ fp sk ∨ H95.size ≤ b) ∧ ∀ i y, i < q → ys[i]? = some y → y.1 ∈ (if i = 0 then tbl j TV p.dc.toNat else tbl j TV (4 + p.ac.toNat)).2) (fun s _ => ys.length - s.toNat)
      ⟨0, sk, rfl, by omega, by simpa [encS] using dv95.sn, by simp [encS], Ch.refl _ _, fun b hb' => .inl hb', fun i y hi => by omega⟩ ?_
    rintro _ H105 ⟨q, sk5, rfl, hq, sn5, ll5, c5, f5', hc5⟩ rec hrec
    have y105 := c5.size
    have nk : ∀ {y : Nat}, y < b12 → y ≠ k → y ∉ k :: fp sk := fun {y} h1 h2 hh => by
      rcases List.mem_cons.1 hh with q | hh
      · exact h2 q
      · have := frk y hh; omega
    have nk' : ∀ {y : Nat}, b12 ≤ y → y < H24.size + 2 → y ∉ k :: fp sk := fun {y} h1 h2 hh => by
      rcases List.mem_cons.1 hh with q | hh
      · omega
      · have := frk y hh; omega
    have dw5 := dw95.ch c5 hb (fun b hb' => by
      rcases List.mem_cons.1 hb' with rfl | hb'
      · omega
      · have := dv.fr b hb'; omega) (fun b hb' => by
      simp only [List.mem_cons, List.mem_nil_iff, or_false] at hb'
      rcases hb' with rfl | rfl | rfl
      · exact nk (by omega) (by omega)
      · exact nk (by omega) (by omega)
      · exact nk' (by omega) (by omega))
    have f55 := dv95.f5.ch c5 (nk (by omega) (by omega))
    have f75 := dv95.f7.ch c5 (nk (by omega) (by omega))
    have f185 := dv95.f18.ch c5 (nk' (by omega) (by omega))
    have f205 := dv95.f20.ch c5 (nk' (by omega) (by omega))
    have l5 := l95.ch c5 (nk' (by omega) (by omega))
    have dfr5 : Dfr [H24.size] H105 := Dfr.ch c5 dfr95 (fun D hD' => by rw [List.mem_singleton] at hD'; subst hD'; exact nk' (by omega) (by omega))
    have cg5 : Ch ((H24.size + 1) :: k :: b5 :: b7 :: b18 :: b20 :: fp sk) H32 H105 := cg95.trans c5 (fun b hb' => .inl (by
      simp only [List.mem_cons] at hb' ⊢
      rcases hb' with q | q
      · exact .inr (.inl q)
      · exact .inr (.inr (.inr (.inr (.inr (.inr q)))))))
    have tnk : ∀ {b : Nat}, H38.size ≤ b → b ∉ k :: fp sk := fun {b} h1 hh => by have := lkk b hh; omega
    by_cases hql : q < ys.length
    rotate_left
    · -- the block is written
      obtain rfl : q = ys.length := by omega
      rw [List.take_length] at sn5 ll5
      have hA5 : ldA H105 ((⟨ba, oa, none⟩ : Addr).add (i * 64)) (cBl X) := by
        obtain ⟨b', o', h1', h2'⟩ := dw5.hb.get hX
        rw [haa] at h1'
        injection h1' with h1'
        rw [← h1'] at h2'
        exact h2'
      refine ite_f (decf (by omega)) (ldL_i (v := a1) dw5.f3 rfl (ldI_i f205 rfl ⟨by omega, by omega, _, haa, by decide, by decide, ?_⟩))
      have hv0 : (cBl X)[0 * 1]? = some (.int .i16 (X.1.getD 0 0)) := ints_get (by rw [X.2]; decide)
      rw [Int.toNat_natCast]
      refine ldI_of hA5 hv0 ⟨x0, by omega, st_a f185 (by rw [ints_length]; omega) fun H158 b158 s158 => ⟨Pv.ch s158.ch (by simp; omega), ?_⟩⟩
      rw [Nat.mul_one, ints_set] at b158
      have f208 := f205.same s158 (by omega)
      refine ldI_i f208 rfl (st_i f208 (by simp) fun H162 b162 s162 => ?_)
      rw [show (i : Int) + 1 = ((i + 1 : Nat) : Int) from by omega, w64n (by omega)] at b162
      have y158 := s158.size
      have y162 := s162.size
      have cE : Ch [b18, b20, H24.size + 1] H105 (putL H162 (H24.size + 1) rr) := ((s158.ch.mono (G := [b18, b20, H24.size + 1]) (by simp)).trans s162.ch (by simp)).trans putL_same.ch (by simp)
      have nE : ∀ {y}, y ≠ b18 → y ≠ b20 → y ≠ H24.size + 1 → y ∉ [b18, b20, H24.size + 1] := fun {y} h1 h2 h3 hh => by simp at hh; omega
      have fr5 : ∀ b ∈ fp sk5, H24.size + 2 ≤ b := fun b hb' => by
        rcases f5' b hb' with q | q
        · exact frk b q
        · omega
      have l162 := (l5.ch s158.ch (by simp; omega)).ch s162.ch (by simp; omega)
      have hh : Has (tbl j TV p.dc.toNat) (tbl j TV (4 + p.ac.toNat)) (syF X.1 (P4.getD x.1.toNat 0)) := by rw [hys]; exact Has_of fun i y hy => hc5 i y (List.getElem?_eq_some_iff.1 hy).1 hy
      have hws := Wr.step dv.wr (by omega : x.1.toNat < ps.length) hp4 hTp tok tok' X.2 hm hd hh
      rw [hys, ← take_snoc' hLi] at hws
      refine ⟨l162, hT' ((H24.size + 1) :: k :: b5 :: b7 :: b18 :: b20 :: fp sk5) _ ⟨sk5, lk ++ encS (tbl j TV p.dc.toNat) (tbl j TV (4 + p.ac.toNat)) ys, P4.set x.1.toNat (X.1.getD 0 0), rfl, dw5.ch cE hb (by simp; omega) (fun b hb' => nE (by simp at hb'; omega) (by simp at hb'; omega) (by simp at hb'; omega)), ⟨sn5.ch cE (fun b hb' => ?_), f55.ch cE (nE (by omega) (by omega) (by omega)), f75.ch cE (nE (by omega) (by omega) (by omega)), (b158.same s162 (by omega)).same putL_same (by omega), b162.same putL_same (by omega), by rw [List.length_set]; exact p4l, fun v hv => ?_, ?_, by omega, by omega, fun b hb' => ?_⟩, putL_lp l162, Dfr.ch cE dfr5 (fun D hD' => by rw [List.mem_singleton] at hD'; subst hD'; exact nE (by omega) (by omega) (by omega)), fr5⟩ (cg5.trans cE (by simp)) fun b hb' => ?_⟩
      · rcases List.mem_cons.1 hb' with rfl | hb'
        · exact nE (by omega) (by omega) (by omega)
        · have := fr5 b hb'; exact nE (by omega) (by omega) (by omega)
      · rcases List.mem_or_eq_of_mem_set hv with hv | rfl
        · exact dv.pv v hv
        · have := hm.1; omega
      · rw [take_snoc' hX, List.map_append]
        exact hws
      · rcases f5' b hb' with q | q
        · exact dv.fr b q
        · omega
      · simp only [List.mem_cons] at hb' ⊢
        rcases hb' with q | q | q | q | q | q | q
        · exact .inl (.inl q)
        · exact .inl (.inr (.inl q))
        · exact .inl (.inr (.inr (.inl q)))
        · exact .inl (.inr (.inr (.inr (.inl q))))
        · exact .inl (.inr (.inr (.inr (.inr (.inl q)))))
        · exact .inl (.inr (.inr (.inr (.inr (.inr (.inl q))))))
        · rcases f5' b q with q | q
          · exact .inl (.inr (.inr (.inr (.inr (.inr (.inr q))))))
          · exact .inr (by omega)
    obtain ⟨y, hy⟩ : ∃ y, ys[q]? = some y := ⟨_, get_some hql⟩
    have hys5 := hsm y (List.mem_of_getElem? hy)
    obtain ⟨sm1, sm2, sm3⟩ := hys5
    have otl5 := otl95.ch c5 (fun b hb' => tnk (ftl b hb'))
    obtain ⟨bt, hta, htA⟩ := otl5.at cS_len (by omega) hy
    have n35 : ∀ {s' : Sl}, (∀ b ∈ fp s', b ∈ fp sk ∨ H95.size ≤ b) → b35 ∉ k :: fp s' := fun {s'} hf hh => by
      rcases List.mem_cons.1 hh with q | q
      · omega
      · rcases hf _ q with q | q
        · have := lts b35 (by simp [q]); omega
        · omega
    have Ttab : ∀ {A : Hp}, Ch (k :: fp sk) H95 A → Tab A (if q = 0 then t else t') (if q = 0 then tv else tv') (if q = 0 then tbl j TV p.dc.toNat else tbl j TV (4 + p.ac.toNat)).1 (if q = 0 then tbl j TV p.dc.toNat else tbl j TV (4 + p.ac.toNat)).2 := fun {A} cA => by
      by_cases h0q : q = 0
      · rw [if_pos h0q, if_pos h0q, if_pos h0q, hDt]; exact T95'.ch cA fun b hb' => tnk (by have := ft b hb'; omega)
      · rw [if_neg h0q, if_neg h0q, if_neg h0q, hAt]; exact T95.ch cA fun b hb' => tnk (by have := ft' b hb'; omega)
    have Tok : TbOk (if q = 0 then tbl j TV p.dc.toNat else tbl j TV (4 + p.ac.toNat)) := by split <;> assumption
    have hen := encS_take (D := tbl j TV p.dc.toNat) (A := tbl j TV (4 + p.ac.toNat)) hy
    refine ite_t (dect (by omega)) (Join.intro (fun (s : Option Addr) H' => s = some ⟨if q = 0 then t else t', 0, none⟩ ∧ H105 = H') ?_ fun J108 hJ108 => ?_)
    rotate_left
    · by_cases h0q : q = 0
      · exact ite_t (beqi (by omega)) (hJ108 _ _ ⟨by rw [if_pos h0q], rfl⟩)
      · exact ite_f (beqf (by omega)) (hJ108 _ _ ⟨by rw [if_neg h0q], rfl⟩)
    rintro _ _ ⟨rfl, rfl⟩
    rw [Int.toNat_natCast]
    refine ⟨by omega, by omega, _, hta, ldP_i dw5.f12 rfl (ldI_of htA (j := 0) rfl ?_)⟩
    generalize hTq : (if q = 0 then tbl j TV p.dc.toNat else tbl j TV (4 + p.ac.toNat)) = Tq at *
    generalize (if q = 0 then t else t') = tq at *
    generalize (if q = 0 then tv else tv') = tvq at *
    refine Write_one (Ttab c5) Tok.may sn5 sm1 (by omega) fun w1 s1 l1 H121 n1 c1 f1 ll1 hw1 => ⟨Pv.ch c1 (fun b hb' => by rw [List.mem_singleton] at hb'; subst hb'; exact ⟨by omega, n35 f5'⟩), by omega, by omega, by omega, by omega, ?_⟩
    have y121 := c1.size
    have f51 : ∀ b ∈ fp s1, b ∈ fp sk ∨ H95.size ≤ b := fun b hb' => by
      rcases f1 b hb' with q | q
      · exact f5' b q
      · exact .inr (by omega)
    have c51 : Ch (k :: fp sk) H95 H121 := c5.trans c1 (fun b hb' => by
      rcases List.mem_cons.1 hb' with rfl | hb'
      · exact .inl (by simp)
      · rcases f5' b hb' with q | q
        · exact .inl (by simp [q])
        · exact .inr q)
    obtain ⟨bt', hta', htA'⟩ := (otl95.ch c51 (fun b hb' => tnk (ftl b hb'))).at cS_len (by omega) hy
    rw [hta] at hta'
    obtain rfl : bt = bt' := by injection hta' with h; injection h
    have f12' := dw95.f12.ch c51 (nk' (by omega) (by omega))
    have sz1 : IntKind.wrap .i64 y.2.1 = y.2.1 := w64 (by omega)
    have sz2 : IntKind.wrap .i64 (y.2.2 : Int) = (y.2.2 : Int) := w64 (by omega)
    refine ldP_i f12' rfl (ldI_of htA' (j := 2) rfl (ldI_of htA' (j := 1) rfl ?_))
    rw [sz1, sz2]
    refine Put_one n1 (by omega) fun w2 s2 l2 H135 n2 c2' f2 ll2 hw2 => ⟨Pv.ch c2' (fun b hb' => by rw [List.mem_singleton] at hb'; subst hb'; exact ⟨by omega, n35 f51⟩), ?_⟩
    have y135 := c2'.size
    have f52 : ∀ b ∈ fp s2, b ∈ fp sk ∨ H95.size ≤ b := fun b hb' => by
      rcases f2 b hb' with q | q
      · exact f51 b q
      · exact .inr (by omega)
    have c52 : Ch (k :: fp sk) H95 H135 := c51.trans c2' (fun b hb' => by
      rcases List.mem_cons.1 hb' with rfl | hb'
      · exact .inl (by simp)
      · rcases f51 b hb' with q | q
        · exact .inl (by simp [q])
        · exact .inr q)
    refine Join.intro (fun (b : Bool) H' => b = (!w1 || !w2) ∧ H135 = H') ?_ fun J137 hJ137 => ?_
    rotate_left
    · cases w1 with
      | false => exact ite_t rfl (hJ137 _ _ ⟨rfl, rfl⟩)
      | true => exact ite_f rfl (hJ137 _ _ ⟨by simp, rfl⟩)
    rintro _ _ ⟨rfl, rfl⟩
    by_cases hw : w1 = true ∧ w2 = true
    · obtain ⟨rfl, rfl⟩ := hw
      obtain ⟨hin1, hl1⟩ := hw1 rfl
      have hl2 := hw2 rfl
      refine ite_f rfl ?_
      rw [show (q : Int) + 1 = ((q + 1 : Nat) : Int) from by omega, w64n (by omega)]
      have hl3 : l2 = lk ++ encS (tbl j TV p.dc.toNat) (tbl j TV (4 + p.ac.toNat)) (ys.take (q + 1)) := by
        rw [hl2, hl1, hen]
        unfold oneS
        simp only [List.append_assoc]
      refine hrec _ _ ⟨q + 1, s2, rfl, by omega, by rw [← hl3]; exact n2, by rw [← hl3]; omega, c52, f52, fun i' y' hi' hy' => ?_⟩ (by simp; omega)
      by_cases hiq : i' < q
      · exact hc5 i' y' hiq hy'
      · obtain rfl : i' = q := by omega
        rw [hy] at hy'
        injection hy' with hy'
        subst hy'
        rw [hTq]
        exact hin1
    · have cgf : Ch ((H24.size + 1) :: k :: b5 :: b7 :: b18 :: b20 :: fp sk) H32 H135 := cg95.trans c52 (fun b hb' => .inl (by
        simp only [List.mem_cons] at hb' ⊢
        rcases hb' with q | q
        · exact .inr (.inl q)
        · exact .inr (.inr (.inr (.inr (.inr (.inr q)))))))
      refine ite_t (by cases w1 <;> cases w2 <;> simp at hw ⊢) (stop (sk' := s2) cgf (dv95.f5.ch c52 (nk (by omega) (by omega))) (dv95.f7.ch c52 (nk (by omega) (by omega))) (l95.ch c52 (nk' (by omega) (by omega))) (Dfr.ch c52 dfr95 (fun D hD' => by rw [List.mem_singleton] at hD'; subst hD'; exact nk' (by omega) (by omega))) ?_ fun b hb' => ?_)
      · refine ((dw95.kp.ch (F := [])).trans c52 fun b hb' => .inr ?_).keep (by simp)
        rcases List.mem_cons.1 hb' with rfl | hb'
        · omega
        · exact dv.fr b hb'
      · rcases f52 b hb' with q | q
        · exact .inl q
        · exact .inr (by omega)
  · rintro G H33 ⟨sk, lk, P4, rfl, dw, dv, lp, dfr, frk⟩
    refine .inl ⟨lp, Up_s lp fun H164 s164 l164 => ?_⟩
    have hWL : H.size ≤ H24.size := kC.size
    have y164 := s164.size
    have lts := dv.lts
    have nLf : H24.size + 1 ∉ k :: b5 :: b7 :: b18 :: b20 :: fp sk := fun hh => by
      simp only [List.mem_cons] at hh
      rcases hh with q | q | q | q | q | q
      · omega
      · omega
      · omega
      · omega
      · omega
      · have := frk _ q; omega
    have dw4 := dw.ch s164.ch hb (by simp; omega) (fun b hb' hh => by simp at hh; subst hh; exact nL3 hb')
    have dv4 := dv.ch s164.ch (fun b hb' hh => by simp at hh; subst hh; exact nLf hb')
    have dfr4 : Dfr [H24.size] H164 := Dfr.ch s164.ch dfr (by simp)
    have hll := dv.ll
    have nk : ∀ {y : Nat}, y < H24.size + 2 → y ≠ k → y ∉ k :: fp sk := fun {y} h1 h2 hh => by
      rcases List.mem_cons.1 hh with q | hh
      · exact h2 q
      · have := frk y hh; omega
    refine ldP_i dw4.f12 rfl (Pad_ok dv4.sn (by omega) fun s' H168 n168 c168 f168 => ?_)
    have y168 := c168.size
    have dw8 := dw4.ch c168 hb (fun b hb' => by
      rcases List.mem_cons.1 hb' with rfl | hb'
      · omega
      · exact dv.fr b hb') (fun b hb' => nk (by simp at hb'; omega) (by simp at hb'; omega))
    have f208 := dv4.f20.ch c168 (nk (by omega) (by omega))
    have f58 := dv4.f5.ch c168 (nk (by omega) (by omega))
    have f78 := dv4.f7.ch c168 (nk (by omega) (by omega))
    have dfr8 : Dfr [H24.size] H168 := Dfr.ch c168 dfr4 (fun D hD' => by rw [List.mem_singleton] at hD'; subst hD'; exact nk (by omega) (by omega))
    have hpad : (lk ++ List.replicate ((8 - lk.length % 8) % 8) true).length ≤ 61440100 := by rw [List.length_append, List.length_replicate]; omega
    have hp8 : (lk ++ List.replicate ((8 - lk.length % 8) % 8) true).length % 8 = 0 := by rw [List.length_append, List.length_replicate]; omega
    have hoct := snk_octs n168 hp8
    refine ldP_i dw8.f12 rfl (ldI_i f208 rfl (ldL_i (v := a1) dw8.f3 rfl (Text_ok n168 (by omega) fun H177 k177 => ⟨by rw [(dw8.f3.keep k177).cell]; rfl, by rw [(f208.keep k177).cell]; rfl, st_i (f58.keep k177) (by simp) fun H180 b180 s180 => ⟨by rw [((dw8.f3.keep k177).same s180 (by omega)).cell]; rfl, by rw [((f208.keep k177).same s180 (by omega)).cell]; rfl, st_i ((f78.keep k177).same s180 (by omega)) (by simp) fun H183 b183 s183 => ?_⟩⟩)))
    have y177 := k177.size
    have y180 := s180.size
    have y183 := s183.size
    have dfr83 : Dfr [H24.size] H183 := Dfr.ch s183.ch (Dfr.ch s180.ch (dfr8.keep k177) (by simp; omega)) (by simp; omega)
    refine tkD_ok dfr83 fun H184 c184 z184 => ldS_i ((b180.same s183 (by omega)).ch c184 (by simp; omega)) rfl (ldB_i (b183.ch c184 (by simp; omega)) rfl ?_)
    have kF : Keep H H184 := ((((dw8.kp.trans k177).ch (F := [])).trans s180.ch (by simp; omega)).trans s183.ch (by simp; omega)).trans c184 (by simp; omega) |>.keep (by simp)
    by_cases heq : WL.length = BL.length
    · have e : ((WL.length : Int) == ((a1.n : Nat) : Int)) = true := beqi (by omega)
      rw [e]
      refine h1 lk H184 kF (by omega) (fun Z => ?_) hoct
      obtain ⟨P, _, _, hPZ⟩ := dv.wr
      refine ⟨P, ?_⟩
      have := hPZ Z
      rw [List.take_of_length_le (by omega), List.take_of_length_le (by omega)] at this
      exact this
    · have e : ((WL.length : Int) == ((a1.n : Nat) : Int)) = false := beqf (by omega)
      rw [e]
      exact h0 _ H184 kF
  · rintro G H33 ⟨a1', ⟨sk, rfl, a2⟩, a3, a4, a5, a6, a7⟩
    refine .inr ⟨a5, Up_s a5 fun H189 s189 l189 => tkD_ok (Dfr.ch s189.ch a6 (by simp)) fun H190 c190 z190 => ?_⟩
    have hWL : H.size ≤ H24.size := kC.size
    refine ldS_i ((a3.same s189 (by omega)).ch c190 (by simp; omega)) rfl (ldB_i ((a4.same s189 (by omega)).ch c190 (by simp; omega)) rfl (h0 _ H190 ?_))
    exact ((a7.ch (F := [])).trans s189.ch (by simp; omega)).trans c190 (by simp; omega) |>.keep (by simp)
end
end Go.Proofs.Ytlfdfikgbdgfdaa.G
