/- Layer 4: HuffPrefix. -/
import Derived.Test.YtbefacccdaafeaaZ04x
import Derived.Test.YtbefacccdaafeaaKHuffPrefix
namespace Go.Proofs.Ytbefacccdaafeaa.G
open Go.RowKit
set_option linter.unusedVariables false
set_option linter.unusedSimpArgs false
set_option maxRecDepth 20000

/-- What the asker keeps: the table, the list of codes so far, their weights. -/
structure CP (W : Hp) (c : Cn) (a : Sl) (t : Nat) (tv : Sl) (vs : List Nat) (L : List (Nat × Nat)) (b1 b3 b14 b36 b38 pa top : Nat) (l : Sl) (H : Hp) : Prop where
  tab : Tab H t tv c vs
  k1 : Bk H b1 25 (c25 c a)
  k3 : Bk H b3 4 [.bool false]
  k14 : Bk H b14 32 [.pointer (some ⟨t, 0, none⟩)]
  k36 : Bk H b36 59 [.slice l.a l.n l.c]
  k38 : Bk H b38 3 [.int .i64 (smw L : Int)]
  own : Own H 9 1 l (L.flatMap cW)
  fr : ∀ b ∈ fp l, top ≤ b
  kp : Keep W H
  lt : W.size ≤ b1 ∧ b1 < b3 ∧ b3 < b14 ∧ b14 < b36 ∧ b36 < b38 ∧ b38 < pa ∧ pa < top ∧ (∀ b ∈ t :: fp tv, b < b14)
theorem CP.ch {W H H' : Hp} {c : Cn} {a : Sl} {t : Nat} {tv : Sl} {vs : List Nat} {L : List (Nat × Nat)} {b1 b3 b14 b36 b38 pa top : Nat} {l : Sl} {G : List Nat} (h : CP W c a t tv vs L b1 b3 b14 b36 b38 pa top l H) (k : Ch G H H') (hG : ∀ b ∈ G, pa < b ∧ b ∉ fp l)
    (hT : ∀ b ∈ t :: fp tv, b < pa) : CP W c a t tv vs L b1 b3 b14 b36 b38 pa top l H' := by
  have lt := h.lt
  have nf : ∀ {x}, x < pa → x ∉ G := fun {x} h1 hh => by have := hG x hh; omega
  exact ⟨h.tab.ch k fun b hb hh => nf (hT b hb) hh, h.k1.ch k (nf (by omega)), h.k3.ch k (nf (by omega)), h.k14.ch k (nf (by omega)), h.k36.ch k (nf (by omega)), h.k38.ch k (nf (by omega)), h.own.ch k fun b hb hh => (hG b hh).2 hb, h.fr, (h.kp.ch (F := [])).trans k (fun b hb => .inr (by have := hG b hb; have := h.kp.size; omega)) |>.keep (by simp), lt⟩
set_option maxHeartbeats 2000000 in
theorem HuffPrefix_row (c : Cn) (s : Sl) (W : World) (hc : ∀ v ∈ c.1, 0 ≤ v ∧ v ≤ 255) (hs : SlH W.heap none 1 1 (X5 none W.heap) s) :
    mosaiclaw04_HuffPrefix.s c s W.heap (fun r H' => r = true ∧ Keep W.heap H') := by
  obtain ⟨vs, v0, hv, z0⟩ := bytes_view hs
  have n0 := v0.n
  have c0 := v0.c
  have hl : vs.length ≤ 140737488351232 := by
    rcases z0 with z | z
    · omega
    · have : s.c * 1 ≤ 140737488351232 := z
      omega
  unfold mosaiclaw04_HuffPrefix.s
  intro b1 H2 c2 g1 g1' b3 H4 c4 g3 g3'
  have k4 : Keep W.heap H4 := (c2.keep (by simp)).trans (c4.keep (by simp))
  have y2 := c2.size
  have y4 := c4.size
  refine alive_ok4 fun H6 k6 => ⟨Pv.keep k6 (by simp; omega), twin_ok (v0.keep (k4.trans k6)) (by omega) fun full m H9 T9 k9 q9 => ⟨Pv.keep k9 (by have := k6.size; simp; omega), ?_⟩⟩
  have y6 := k6.size
  have y9 := k9.size
  refine New_x4 hc T9.view hv (by omega) fun p H12 P12 k12 => ⟨Pv.keep k12 (by simp; omega), ?_⟩
  have y12 := k12.size
  have kA : Keep W.heap H12 := ((k4.trans k6).trans k9).trans k12
  intro b14 H16 c16 g14 g14'
  have k16 : Keep H12 H16 := c16.keep (by simp)
  have y16 := k16.size
  have kB := kA.trans k16
  have hp2 : p.2 = Chk4 c vs := by rcases P12 with ⟨e, t, tv, rfl, _⟩ | ⟨e, rfl⟩ <;> simp [e]
  refine Join.intro (fun b H' => b = !(Chk4 c vs == 0) ∧ Keep H16 H') ?_ fun J hJ => ?_
  rotate_left
  · refine twin_ok (v0.keep kB) (by omega) fun full' m' H31 T31 k31 q31 => ⟨Pv.keep k31 (by simp; omega), Check_ok hc T31.view hv (by omega) fun H34 k34 => ⟨Pv.keep k34 (by have := k31.size; simp; omega), ?_⟩⟩
    rw [hp2]
    refine ite_f (bnei rfl) (hJ _ _ ⟨rfl, k31.trans k34⟩)
  rintro _ H19 ⟨rfl, k19⟩
  have y19 := k19.size
  have kC := kB.trans k19
  rcases P12 with ⟨hzz, t, tv, rfl, T12, fT⟩ | ⟨hzz, rfl⟩
  rotate_left
  · refine ite_t (by simpa using hzz) fun hb3 => Join.intro (fun (_ : Unit) H' => Bk H' b3 4 [.bool true] ∧ Keep W.heap H') ?_ fun J hJ => ?_
    · rintro _ H22 ⟨b22, k22⟩
      exact ldB_i b22 rfl ⟨rfl, k22⟩
    · refine ite_t rfl (ite_t (bnet hzz) (ite_t rfl (twin_ok (v0.keep kC) (by omega) fun full' m' H27 T27 k27 q27 => Room_ok hc T27.view hv (by omega) fun H29 k29 => ?_)))
      have er : Room4 c vs = 0 := by unfold Room4; rw [if_pos hzz]
      rw [er]
      refine st_i (hb3.keep (k27.trans k29)) (by simp) fun H30 b30 s30 => hJ _ _ ⟨b30, ?_⟩
      exact ((kC.trans k27).trans k29).same s30 (by omega)
  replace T12 : Tab H12 t tv c vs := T12
  have hm : May4 c vs := may4 hzz
  have lT := T12.lts
  refine ite_f (by simpa using hzz) (ite_f rfl ?_)
  intro b36 H37 c37 g36 g36' b38 H40 c40 g38 g38'
  have k40 : Keep H19 H40 := (c37.keep (by simp)).trans (c40.keep (by simp))
  have y37 := c37.size
  have y40 := c40.size
  unfold huff_Table_All.s
  intro pa H42 c42 ga ga' hpa
  have k42 : Keep H40 H42 := c42.keep (by simp)
  have y42 := k42.size
  refine ⟨Pv.keep k42 (by simp; omega), ?_⟩
  intro j1 j3 j14 j36 j38
  have kD : Keep H12 H42 := ((k16.trans k19).trans k40).trans k42
  have T42 := T12.keep kD
  have kE : Keep W.heap H42 := kA.trans kD
  have hpl := prs_len hm
  have hmost := hm.most
  have hcl : (cds (cnt c) 16).length = vs.length := by rw [cds_len, hm.len]
  refine Rg_i fun rr H47 hrr k47 s47 hDf hlp => ?_
  have y47 := k47.size
  have lp := hpa.lt
  have hTpa : ∀ b ∈ t :: fp tv, b < pa := fun b hb => by have := lT b hb; omega
  have cp : CP W.heap c s t tv vs ((cds (cnt c) 16).take 0) b1 b3 b14 b36 b38 pa (H42.size + 2) ⟨none, 0, 0⟩ H47 :=
    ⟨T42.keep k47, j1.keep k47, j3.keep k47, j14.keep k47, j36.keep k47, by simpa [smw] using j38.keep k47, by simpa using Own.nil _ _ _, by simp [fp], kE.trans k47, by omega, by omega, by omega, by omega, by omega, by omega, by omega, fun b hb => by have := lT b hb; omega⟩
  refine All_seqG4 (T42.keep k47) hm hv (hpa.keep k47) _ _ (fun i G H' => ∃ l, G = (H42.size + 1) :: b36 :: b38 :: fp l ∧ CP W.heap c s t tv vs ((cds (cnt c) 16).take i) b1 b3 b14 b36 b38 pa (H42.size + 2) l H' ∧ Lp H' (H42.size + 1) rr ∧ Dfr [H42.size] H') (fun _ => False) ((H42.size + 1) :: b36 :: b38 :: fp ⟨none, 0, 0⟩) ?_ ⟨_, rfl, cp, hlp, hDf, by simp, trivial⟩ ?_ ?_ ?_ ?_ (fun _ h => h.elim)
  · intro x hx hh
    have h0 : x = pa ∨ x ∈ t :: fp tv := List.mem_cons.1 hh
    simp [fp] at hx
    rcases h0 with rfl | h0
    · omega
    · have := lT x h0; omega
  · rintro i G H H' ⟨l, rfl, h1, h2, h3⟩ kk
    exact ⟨l, rfl, h1.ch (kk.ch (F := [])) (by simp) hTpa, h2.ch (kk.ch (F := [])) (by simp), h3.keep kk⟩
  · rintro i G H ⟨l, rfl, h1, h2, h3⟩ x hx
    have := h1.k36.lt
    have := h1.k38.lt
    have := h2.lt
    rcases List.mem_cons.1 hx with rfl | hx
    · omega
    rcases List.mem_cons.1 hx with rfl | hx
    · omega
    rcases List.mem_cons.1 hx with rfl | hx
    · omega
    exact h1.own.fp_lt x hx
  · rintro i G x H50 K hx ⟨l, rfl, h1, h2, h3⟩ hT hF
    rw [List.getElem?_map] at hx
    cases hp : (prs c vs)[i]? with
    | none => rw [hp] at hx; cases hx
    | some q =>
      obtain ⟨v, n, w⟩ := q
      rw [hp] at hx
      injection hx with hx
      subst hx
      obtain ⟨q1, q2⟩ := prs_of hp
      have hil := (List.getElem?_eq_some_iff.1 q1).1
      have hlk := lkp_at (P := prs c vs) (by rw [prs_keys hm]; exact hm.nodup) hp
      obtain ⟨f1, f2, f3⟩ := cds_fit hm.fit q2
      have hp16 := pow_lt f2
      have p16 : (2 : Nat) ^ 16 = 65536 := rfl
      have z2 := h2.lt
      have lt := h1.lt
      have tln : ((cds (cnt c) 16).take i).length = i := by rw [List.length_take]; omega
      refine ⟨h2, h2, Up_s h2 fun H53 s53 l53 => ?_⟩
      have f0 := h1.fr
      have cp1 := h1.ch s53.ch (fun b hb => by simp at hb; subst hb; exact ⟨by omega, fun hh => by have := f0 _ hh; omega⟩) hTpa
      have d53 : Dfr [H42.size] H53 := Dfr.ch s53.ch h3 (by simp)
      have ol := cp1.own.view cW_len (by omega)
      have ln := ol.n
      rw [tln] at ln
      have hv1 := hv v (List.mem_of_getElem? q1)
      refine ldP_i cp1.k14 rfl (Code_ok cp1.tab hm hv1 ?_)
      rw [hlk]
      refine Join.intro (fun b H' => b = false ∧ H53 = H') ?_ fun J hJ => ?_
      rotate_left
      · have esz : (itm (v, n, w)).2.size = n := by show (tx (bl n w)).size = n; rw [tx_size, bl_len]
        rw [esz]
        refine ite_f (decf (by omega)) (ite_f (decf (by omega)) (ite_f (bnei rfl) (ldL_i cp1.k36 rfl (ldL_i (v := s) cp1.k1 ?_ (ite_f (decf (by omega)) (ldL_i (v := s) cp1.k1 ?_ (ldL_i cp1.k36 rfl ?_)))))))
        · show (c25 c s)[16]? = _
          unfold c25
          rw [List.getElem?_append_right (by rw [ints_length, c.2]; omega), ints_length, c.2]
          rfl
        · show (c25 c s)[16]? = _
          unfold c25
          rw [List.getElem?_append_right (by rw [ints_length, c.2]; omega), ints_length, c.2]
          rfl
        · obtain ⟨b, o, ha, hA⟩ := (v0.keep cp1.kp).get q1
          refine ⟨by omega, by omega, _, ha, ?_⟩
          rw [Int.toNat_natCast, ln]
          exact ldI_of0 hA rfl (hJ _ _ ⟨bnei rfl, rfl⟩)
      rintro _ _ ⟨rfl, rfl⟩
      have ebl : (bl n w).length = n := bl_len n w
      have esz : (itm (v, n, w)).2.size = n := by show (tx (bl n w)).size = n; rw [tx_size, bl_len]
      refine ite_f rfl (Fix.intro (fun (z : Bool × Int × Int) H' => ∃ j : Nat, z = (((bl n w).take j).all id, (num ((bl n w).take j) : Int), (j : Int)) ∧ j ≤ n ∧ H53 = H') (fun z _ => n - z.2.2.toNat) ⟨0, rfl, by omega, rfl⟩ ?_)
      rintro _ _ ⟨j, rfl, hj, rfl⟩ rec hrec
      simp only
      rw [esz] at *
      by_cases hjn : j < n
      · obtain ⟨b, hb⟩ : ∃ b, (bl n w)[j]? = some b := ⟨_, List.getElem?_eq_getElem (by omega)⟩
        have ebt : bt (itm (v, n, w)).2 (j : Int) = ((48 + b.toNat : Nat) : Int) := bt_tx hb
        have hnl := num_lt ((bl n w).take j)
        have hnp := pow_lt (show ((bl n w).take j).length ≤ 16 by rw [List.length_take]; omega)
        have hnum := num_take hb
        have hall : ((bl n w).take (j + 1)).all id = (((bl n w).take j).all id && b) := by
          rw [List.take_add_one, hb, List.all_append]
          simp
        rw [ebt]
        have e49 : (((48 + b.toNat : Nat) : Int) == 49) = b := by cases b <;> rfl
        rw [e49]
        refine ite_t (dect (by omega)) (Join.intro (fun (z : Bool × Int) H' => z = (((bl n w).take (j + 1)).all id, (num ((bl n w).take (j + 1)) : Int)) ∧ H53 = H') ?_ fun J hJ => ?_)
        · rintro _ _ ⟨rfl, rfl⟩
          simp only
          rw [show (j : Int) + 1 = ((j + 1 : Nat) : Int) from by omega, w64n (by omega)]
          exact hrec _ _ ⟨j + 1, rfl, by omega, rfl⟩ (by simp; omega)
        · refine Join.intro (fun z H' => z = ((bl n w).take (j + 1)).all id ∧ H53 = H') ?_ fun J2 hJ2 => ?_
          · rintro _ _ ⟨rfl, rfl⟩
            refine ⟨by omega, by omega, ?_⟩
            rw [show (2 : Int) * ((num ((bl n w).take j) : Nat) : Int) = ((2 * num ((bl n w).take j) : Nat) : Int) from by omega, w64n (by omega)]
            cases b with
            | true =>
              refine ite_t rfl (Lt.of (hJ _ _ ⟨?_, rfl⟩))
              rw [hnum, show (((2 * num ((bl n w).take j) : Nat) : Int) + 1) = ((2 * num ((bl n w).take j) + 1 : Nat) : Int) from by omega, w64n (by omega)]
              rfl
            | false =>
              refine ite_f rfl (hJ _ _ ⟨?_, rfl⟩)
              rw [hnum]
              rfl
          · by_cases ha : ((bl n w).take j).all id = true
            · exact ite_t ha ⟨by omega, by omega, hJ2 _ _ ⟨by rw [hall, ha, Bool.true_and], rfl⟩⟩
            · have ha' : ((bl n w).take j).all id = false := by simpa using ha
              exact ite_f ha' (hJ2 _ _ ⟨by rw [hall, ha', Bool.false_and], rfl⟩)
      obtain rfl : j = n := by omega
      refine ite_f (decf (by omega)) ?_
      rw [List.take_of_length_le (by omega), num_bl, Nat.mod_eq_of_lt (show w < 2 ^ j by omega), some_no f3]
      clear hrec rec
      -- every other code splits from this one
      have hsp : ∀ {k : Nat} {u : Nat × Nat}, k < i → ((cds (cnt c) 16).take i)[k]? = some u → Spl (bl u.1 u.2) (bl j w) := fun {k u} hk hu => by
        rw [List.getElem?_take, if_pos hk] at hu
        exact cds_spl hm.fit hu q2 hk
      refine Join.intro (fun b H' => b = false ∧ H53 = H') ?_ fun J hJ => ?_
      rotate_left
      · refine ite_f rfl (ite_f (bnei (w64n (by omega)).symm) (ldL_i cp1.k36 rfl ?_))
        by_cases hi0 : 0 < i
        · obtain ⟨u, hu⟩ : ∃ u, ((cds (cnt c) 16).take i)[i - 1]? = some u := ⟨_, List.getElem?_eq_getElem (by omega)⟩
          obtain ⟨b, o, ha, hA⟩ := ol.get hu
          refine ite_t (dect (by omega)) (ldL_i cp1.k36 rfl (ldL_i cp1.k36 rfl ?_))
          rw [ln, show (i : Int) - 1 = ((i - 1 : Nat) : Int) from by omega, w64n (by omega)]
          refine ⟨by omega, by omega, _, ha, ?_⟩
          rw [Int.toNat_natCast]
          have := hA.2 0 _ rfl
          rw [Addr.add, if_pos rfl] at this
          refine ⟨_, this, hJ _ _ ⟨?_, rfl⟩⟩
          show (!(Op.bytesLess (tx (bl u.1 u.2)).toList (tx (bl j w)).toList)) = false
          rw [(hsp (by omega) hu).less]
          rfl
        · exact ite_f (decf (by omega)) (hJ _ _ ⟨rfl, rfl⟩)
      rintro _ _ ⟨rfl, rfl⟩
      refine ite_f rfl (Fix.intro (fun (z : Int) H' => ∃ k : Nat, z = (k : Int) ∧ k ≤ i ∧ H53 = H') (fun z _ => i - z.toNat) ⟨0, rfl, by omega, rfl⟩ ?_)
      rintro _ _ ⟨k, rfl, hk, rfl⟩ rec hrec
      refine ldL_i cp1.k36 rfl ?_
      by_cases hki : k < i
      · obtain ⟨u, hu⟩ : ∃ u, ((cds (cnt c) 16).take i)[k]? = some u := ⟨_, List.getElem?_eq_getElem (by omega)⟩
        obtain ⟨b, o, ha, hA⟩ := ol.get hu
        have hc0 := hA.2 0 _ rfl
        rw [Addr.add, if_pos rfl] at hc0
        have sp := hsp hki hu
        refine ite_t (dect (by omega)) (Join.intro (fun b H' => b = false ∧ H53 = H') ?_ fun J hJ => ?_)
        · rintro _ _ ⟨rfl, rfl⟩
          refine ite_f rfl ?_
          rw [show (k : Int) + 1 = ((k + 1 : Nat) : Int) from by omega, w64n (by omega)]
          exact hrec _ _ ⟨k + 1, rfl, by omega, rfl⟩ (by simp; omega)
        · refine ldL_i cp1.k36 rfl ⟨by omega, by omega, _, ha, ?_⟩
          rw [Int.toNat_natCast]
          refine ⟨_, hc0, lbegins_okx (a := bl u.1 u.2) (b := bl j w) (ite_f (decf sp.no1) (ldL_i cp1.k36 rfl ⟨by omega, by omega, _, ha, _, hc0, lbegins_okx (a := bl j w) (b := bl u.1 u.2) (hJ _ _ ⟨decf sp.no2, rfl⟩)⟩))⟩
      obtain rfl : k = i := by omega
      refine ite_f (decf (by omega)) ?_
      clear hrec rec
      rw [show (16 : Int) - (j : Int) = ((16 - j : Nat) : Int) from by omega, w64n (by omega)]
      have tsn := take_snocq q2
      have hsle : smw ((cds (cnt c) 16).take (k + 1)) ≤ 65535 := by
        have h1 := smw_app ((cds (cnt c) 16).take (k + 1)) ((cds (cnt c) 16).drop (k + 1))
        rw [List.take_append_drop, smw_cds c 16 (Nat.le_refl _)] at h1
        have := hm.sum
        omega
      have hss : smw ((cds (cnt c) 16).take (k + 1)) = smw ((cds (cnt c) 16).take k) + 2 ^ (16 - j) := by rw [tsn, smw_snoc]
      have esh : shlI .i64 1 ((16 - j : Nat) : Int) = ((2 ^ (16 - j) : Nat) : Int) := by
        have h1 := pow_lt (show 16 - j ≤ 16 by omega)
        have := shln (k := .i64) (x := 1) (n := 16 - j) (by show 16 - j ≤ 64; omega) (w64n (by omega))
        rw [show ((1 : Nat) : Int) = (1 : Int) from rfl, Nat.one_mul] at this
        exact this
      refine ⟨by omega, ldI_i cp1.k38 rfl ?_⟩
      rw [esh, show ((smw ((cds (cnt c) 16).take k) : Nat) : Int) + ((2 ^ (16 - j) : Nat) : Int) = ((smw ((cds (cnt c) 16).take (k + 1)) : Nat) : Int) from by rw [hss]; omega, w64n (by omega)]
      have fl := cp1.fr
      refine st_i cp1.k38 (by simp) fun H120 b120 s120 => ?_
      have k36' := cp1.k36.same s120 (by omega)
      refine ldL_i k36' rfl ?_
      have o120 := cp1.own.ch s120.ch (fun b hb => by have := fl b hb; simp; omega)
      refine nw_i fun H124 b124 k124 z124 => ?_
      refine apS_list (f := cW) (ys := [((j, w) : Nat × Nat)]) (o120.kpx k124) cW_len cW_ones rfl (by omega) rfl (by rw [tln]; simp; omega) (by omega) fun l' H129 o129 c129 f129 => ?_
      have k36'' := (k36'.keep k124).ch c129 (fun hh => by have := fl _ hh; omega)
      refine st_i k36'' (by simp) fun H130 b130 s130 => ?_
      have y53 := s53.size
      have y120 := s120.size
      have y124 := k124.size
      have y129 := c129.size
      -- all that moved
      have cAll : Ch (b38 :: b36 :: fp l) H53 H130 := ((s120.ch.mono (by simp)).trans (k124.ch (F := [])) (by simp)).trans c129 (fun b hb => .inl (by simp [hb])) |>.trans s130.ch (by simp)
      have nin : ∀ {y}, y < pa → y ≠ b38 → y ≠ b36 → y ∉ b38 :: b36 :: fp l := fun {y} h h' h'' hh => by
        rcases List.mem_cons.1 hh with e | hh
        · exact h' e
        rcases List.mem_cons.1 hh with e | hh
        · exact h'' e
        · have := fl y hh; omega
      have ninL : ∀ {y}, pa < y → y < H42.size + 2 → y ∉ b38 :: b36 :: fp l := fun {y} h h' hh => by
        rcases List.mem_cons.1 hh with e | hh
        · omega
        rcases List.mem_cons.1 hh with e | hh
        · omega
        · have := fl y hh; omega
      have l130 : Lp H130 (H42.size + 1) (bsy rr) := l53.ch cAll (ninL (by omega) (by omega))
      have d130 : Dfr [H42.size] H130 := Dfr.ch cAll d53 (fun D hD => by simp at hD; subst hD; exact ninL (by omega) (by omega))
      have fr' : ∀ b ∈ fp l', H42.size + 2 ≤ b := fun b hb => by
        rcases f129 b hb with h | h
        · exact fl b h
        · have := h2.lt; have := cp1.k38.lt; have := l53.lt; omega
      have kp130 : Keep W.heap H130 := (cp1.kp.ch (F := [])).trans cAll (fun b hb => .inr (by
        rcases List.mem_cons.1 hb with rfl | hb
        · omega
        rcases List.mem_cons.1 hb with rfl | hb
        · omega
        have := fl b hb; omega)) |>.keep (by simp)
      have cpN : CP W.heap c s t tv vs ((cds (cnt c) 16).take (k + 1)) b1 b3 b14 b36 b38 pa (H42.size + 2) l' H130 := by
        refine ⟨cp1.tab.ch cAll fun b hb => ?_, cp1.k1.ch cAll (nin (by omega) (by omega) (by omega)), cp1.k3.ch cAll (nin (by omega) (by omega) (by omega)), cp1.k14.ch cAll (nin (by omega) (by omega) (by omega)), b130, ?_, ?_, fr', kp130, lt⟩
        · have := lt.2.2.2.2.2.2.2 b hb
          exact nin (by omega) (by omega) (by omega)
        · exact ((b120.keep k124).ch c129 (fun hh => by have := fl _ hh; omega)).same s130 (by omega)
        · rw [tsn]
          exact o129.ch s130.ch (fun b hb => by have := fr' b hb; simp; omega)
      refine ⟨l130, hT _ _ ⟨l', rfl, cpN.ch putL_same.ch (fun b hb => by simp at hb; subst hb; exact ⟨by omega, fun hh => by have := fr' _ hh; omega⟩) hTpa, putL_lp l130, Dfr.ch putL_same.ch d130 (by simp)⟩ ?_ fun b hb => ?_⟩
      · refine ((s53.ch.mono (by simp)).trans cAll fun b hb => ?_).trans putL_same.ch (by simp)
        refine .inl ?_
        rcases List.mem_cons.1 hb with rfl | hb
        · simp
        rcases List.mem_cons.1 hb with rfl | hb
        · simp
        · simp [hb]
      · rcases List.mem_cons.1 hb with rfl | hb
        · simp
        rcases List.mem_cons.1 hb with rfl | hb
        · simp
        rcases List.mem_cons.1 hb with rfl | hb
        · simp
        rcases f129 b hb with h | h
        · exact .inl (by simp [h])
        · exact .inr (by omega)
  · rintro G H51 ⟨l, rfl, h1, h2, h3⟩
    have lt := h1.lt
    have f0 := h1.fr
    rw [List.length_map, hpl, List.take_of_length_le (by omega)] at h1
    refine .inl ⟨h2, Up_s h2 fun H158 s158 l158 => ?_⟩
    have cp1 := h1.ch s158.ch (fun b hb => by simp at hb; subst hb; exact ⟨by omega, fun hh => by have := f0 _ hh; omega⟩) hTpa
    have d158 : Dfr [H42.size] H158 := Dfr.ch s158.ch h3 (by simp)
    intro b159 H160 c160 g159 g159' hb159
    have k160 : Keep H158 H160 := c160.keep (by simp)
    have y160 := k160.size
    have y158 := s158.size
    have zl := l158.lt
    have cp2 := cp1.ch (k160.ch (F := [])) (by simp) hTpa
    have d160 := d158.keep k160
    have llt : ∀ b ∈ fp l, b < b159 := fun b hb => by have := cp1.own.fp_lt b hb; omega
    refine Fix.intro (fun (z : Int) H' => ∃ k : Nat, z = (k : Int) ∧ k ≤ vs.length ∧ Bk H' b159 22 (ints .u8 (kk ((cds (cnt c) 16).take k))) ∧ CP W.heap c s t tv vs (cds (cnt c) 16) b1 b3 b14 b36 b38 pa (H42.size + 2) l H' ∧ Dfr [H42.size] H') (fun z _ => vs.length - z.toNat) ⟨0, rfl, by omega, hb159, cp2, d160⟩ ?_
    rintro _ H164 ⟨k, rfl, hk, b164, cp3, d164⟩ rec hrec
    have ol := cp3.own.view cW_len (by omega)
    have ln := ol.n
    rw [hcl] at ln
    have ht := cp3.tab
    refine ldL_i cp3.k36 rfl ?_
    by_cases hki : k < vs.length
    · obtain ⟨⟨n, w⟩, hu⟩ : ∃ u, (cds (cnt c) 16)[k]? = some u := ⟨_, List.getElem?_eq_getElem (by omega)⟩
      obtain ⟨f1, f2, f3⟩ := cds_fit hm.fit hu
      obtain ⟨b, o, ha, hA⟩ := ol.get hu
      have hc0 := hA.2 0 _ rfl
      rw [Addr.add, if_pos rfl] at hc0
      have tsn := take_snocq hu
      have hle := hml_take (cds (cnt c) 16) (k + 1) (n - 1)
      rw [tsn, hml_snoc, if_pos (show n = n - 1 + 1 by omega), hml_cds, if_pos (by omega)] at hle
      have h255 := (cnt_ok hc (n - 1)).2
      refine ite_t (dect (by omega)) (ldL_i cp3.k36 rfl ⟨by omega, by omega, _, ha, ?_⟩)
      rw [Int.toNat_natCast]
      refine ⟨_, hc0, ?_⟩
      dsimp only
      rw [tx_size, bl_len, show ((n : Nat) : Int) - 1 = ((n - 1 : Nat) : Int) from by omega, w64n (by omega), Int.toNat_natCast, Nat.mul_one]
      refine ⟨by omega, by omega, ldI_a b164 (v := (hml ((cds (cnt c) 16).take k) (n - 1) : Int)) ?_ ⟨by omega, by omega, st_a b164 (by rw [ints_length, kk_len]; omega) fun H183 b183 s183 => ?_⟩⟩
      · unfold ints
        rw [List.getElem?_map, kk_get _ (by omega)]
        rfl
      rw [show (k : Int) + 1 = ((k + 1 : Nat) : Int) from by omega, w64n (by omega)]
      refine hrec _ _ ⟨k + 1, rfl, by omega, ?_, cp3.ch s183.ch (fun b hb => by simp at hb; subst hb; exact ⟨by omega, fun hh => by have := llt _ hh; omega⟩) hTpa, Dfr.ch s183.ch d164 (by simp; omega)⟩ (by simp; omega)
      rw [tsn, kk_snoc (l := n - 1) (by show n = n - 1 + 1; omega) (by omega)]
      rw [show ((hml ((cds (cnt c) 16).take k) (n - 1) : Nat) : Int) + 1 = ((hml ((cds (cnt c) 16).take k) (n - 1) + 1 : Nat) : Int) from by omega, wu8n (by omega)] at b183
      unfold ints at b183 ⊢
      rw [List.map_set]
      exact b183
    obtain rfl : k = vs.length := by omega
    refine ite_f (decf (by omega)) ?_
    clear hrec rec
    rw [List.take_of_length_le (by omega), kk_all hc] at b164
    have hsm : smw (cds (cnt c) 16) = wS c 16 := smw_cds c 16 (Nat.le_refl _)
    have hws := hm.sum
    have cS16 : ∀ (j : Nat) (v : Value), (ints .u8 c.1)[j]? = some v → (c25 c s)[0 + j]? = some v := fun j v hv => by
      rw [Nat.zero_add]
      unfold c25
      rw [List.getElem?_append_left (List.getElem?_eq_some_iff.1 hv).1]
      exact hv
    have eSl : ∀ {H : Hp} {K : Sl → Prop}, Bk H b1 25 (c25 c s) → K s → ldL H (⟨b1, 16, none⟩ : Addr) K := fun {H K} hb hK => ldL_i hb (by
      unfold c25
      rw [List.getElem?_append_right (by rw [ints_length, c.2]; omega), ints_length, c.2]
      rfl) hK
    refine (ite_t rfl (ldL_i cp3.k36 rfl (eSl cp3.k1 (ite_t (beqi (by omega)) ⟨c, s, ldA_full cp3.k1, ldI_i cp3.k38 rfl ?_⟩))))
    refine twin_ok (v0.keep cp3.kp) (by omega) fun full' m' H195 T195 k195 q195 => ⟨by rw [(cp3.k38.keep k195).cell]; rfl, Room_ok hc T195.view hv (by omega) fun H198 k198 => ⟨by rw [((cp3.k38.keep k195).keep k198).cell]; rfl, ?_⟩⟩
    have er : Room4 c vs = 65536 - (wS c 16 : Int) := by unfold Room4; rw [if_neg (by omega)]
    have kk2 := k195.trans k198
    have cp4 := cp3.ch (kk2.ch (F := [])) (by simp) hTpa
    rw [er, hsm, w64 (by omega)]
    refine ite_t (beqi rfl) (ldI_i cp4.k38 rfl ?_)
    rw [hsm]
    have h65 : ((wS c 16 : Nat) : Int) < 65536 := by omega
    rw [dect h65, if_pos rfl]
    refine ⟨c, ldA_full (b164.keep kk2), c, ldA_i cp4.k1 cS16, st_i cp4.k3 (by simp) fun H206 b206 s206 => tkD_one (H := H206) ?_ fun H207 s207 => ldB_i (b206.same s207 (by omega)) rfl ⟨beq_self_eq_true _, ?_⟩⟩
    · have := (Dfr.ch s206.ch (d164.keep kk2) (by simp; omega) : Dfr [H42.size] H206)
      exact this.1
    · exact (cp4.kp.same s206 (by omega)).same s207 (by have := kE.size; omega)
end Go.Proofs.Ytbefacccdaafeaa.G
