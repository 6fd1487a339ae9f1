/- Layer 2: all markers, one by one. -/
import Derived.Test.YtkplpbnifinlbaaZ02
import Derived.Test.YtkplpbnifinlbaaGI
namespace Go.Proofs.Ytkplpbnifinlbaa.G
open Go.RowKit
set_option linter.unusedVariables false

abbrev Mk := Int × Int × Int
def markOf (s : ByteArray) (k : Nat) : Mk := ((k : Int), ((k + 2 : Nat) : Int), bt s ((k + 1 : Nat) : Int))
/-- The marks that begin ahead of place i. -/
def marksTo (s : ByteArray) : Nat → List Mk
  | 0 => []
  | i + 1 => if isMark s i then marksTo s i ++ [markOf s i] else marksTo s i
def marks (s : ByteArray) : List Mk := marksTo s s.size
def cM (m : Mk) : List Value := c23 m.1 m.2.1 m.2.2
theorem cM_len (m : Mk) : (cM m).length = 3 := rfl
theorem marksTo_len (s : ByteArray) : ∀ i, (marksTo s i).length ≤ i
  | 0 => Nat.le_refl _
  | i + 1 => by
    have := marksTo_len s i
    unfold marksTo
    split <;> simp <;> omega
theorem marksTo_no (s : ByteArray) {i : Nat} : ∀ j, i ≤ j → (∀ k, i ≤ k → k < j → ¬ isMark s k) → marksTo s j = marksTo s i
  | 0, h, _ => by obtain rfl : i = 0 := by omega
                  rfl
  | j + 1, h, hn => by
    rcases Nat.eq_or_lt_of_le h with h1 | h1
    · subst h1; rfl
    · rw [marksTo, if_neg (hn j (by omega) (by omega)), marksTo_no s j (by omega) fun k h2 h3 => hn k h2 (by omega)]
theorem marksTo_big (s : ByteArray) {i : Nat} (h : s.size ≤ i + 1) : marksTo s i = marks s := by
  unfold marks
  rcases Nat.lt_or_ge i s.size with h1 | h1
  · exact (marksTo_no s _ (by omega) fun k h2 h3 h4 => by have := h4.1; omega).symm
  · exact marksTo_no s i h1 fun k h2 h3 h4 => by have := h4.1; omega
/-- What is found next is the mark that comes next. -/
theorem marks_next {s : ByteArray} {i j : Nat} (hi : i ≤ j) (hm : isMark s j) (hn : ∀ k, i ≤ k → k < j → ¬ isMark s k) : (marks s)[(marksTo s i).length]? = some (markOf s j) ∧ (marksTo s (j + 2)).length = (marksTo s i).length + 1 := by
  have h1 : marksTo s (j + 1) = marksTo s i ++ [markOf s j] := by rw [marksTo, if_pos hm, marksTo_no s j hi hn]
  have h2 : ¬ isMark s (j + 1) := fun h => by
    have := hm.2.2.2
    exact this h.2.1
  have h3 : marksTo s (j + 2) = marksTo s (j + 1) := by rw [marksTo, if_neg h2]
  have pre : ∀ a b, a ≤ b → ∃ l, marksTo s b = marksTo s a ++ l := by
    intro a b
    induction b with
    | zero => intro h; obtain rfl : a = 0 := by omega
              exact ⟨[], by simp⟩
    | succ b ih =>
      intro h
      rcases Nat.eq_or_lt_of_le h with h4 | h4
      · subst h4; exact ⟨[], by simp⟩
      · obtain ⟨l, hl⟩ := ih (by omega)
        rw [marksTo]
        split
        · exact ⟨l ++ [markOf s b], by rw [hl, List.append_assoc]⟩
        · exact ⟨l, hl⟩
  obtain ⟨l, hl⟩ := pre (j + 1) s.size (by have := hm.1; omega)
  refine ⟨?_, by rw [h3, h1]; simp⟩
  unfold marks
  rw [hl, h1, List.append_assoc, List.getElem?_append_right (Nat.le_refl _)]
  simp
theorem marks_end {s : ByteArray} {i : Nat} (hn : ∀ k, i ≤ k → ¬ isMark s k) : (marksTo s i).length = (marks s).length := by
  unfold marks
  rcases Nat.le_total i s.size with h | h
  · rw [marksTo_no s s.size h fun k h1 _ => hn k h1]
  · rw [marksTo_no s i h fun k h1 h2 h3 => by have := h3.1; omega]

theorem All_seq {s : ByteArray} {p : Nat} {H : Hp} (hs : s.size < 140737488355328) (hp : Bk H p 9 [.string s]) : SeqOk (fun Y H Q => marker_All_1.s Y ⟨p, 0, none⟩ H Q) H [p] (marks s) := by
  intro Y Q F I Z hF h0 hk hY hQ hZ
  unfold marker_All_1.s
  refine Fix.intro (fun (x : Int) H' => ∃ i : Nat, x = (i : Int) ∧ i ≤ s.size ∧ I (marksTo s i).length H' ∧ Ch F H H') (fun (x : Int) _ => s.size - x.toNat) ⟨0, rfl, by omega, h0, Ch.refl _ _⟩ ?_
  rintro _ H1 ⟨i, rfl, hi, hI, c1⟩ rec hrec
  have hp1 := hp.ch c1 fun h => (hF p h).2 (by simp)
  refine ldS_i hp1 rfl (Next_ok hs (by omega) fun r H2 hr k2 => nw_i fun H3 b3 k3 s3 => stA_full b3 rfl fun H4 b4 s4 => ?_)
  have k4 : Keep H1 H4 := (k2.trans k3).same s4 k2.size
  have c4 : Ch F H H4 := c1.trans (k4.ch (F := [])) (by simp)
  rw [Int.toNat_natCast] at hr
  have hI4 := hk _ _ _ hI k4
  have hsz : H.size ≤ H2.size := Nat.le_trans c1.size k2.size
  refine Join.intro (fun b H' => if b = true then (I (marks s).length H' ∨ Z H') ∧ Ch F H H' else ∃ j, i ≤ j ∧ isMark s j ∧ (∀ k, i ≤ k → k < j → ¬ isMark s k) ∧ r = ((j : Int), ((j + 2 : Nat) : Int), bt s ((j + 1 : Nat) : Int), true) ∧ I ((marksTo s i).length + 1) H' ∧ Ch F H4 H') ?_ ?_
  · intro b H' hb
    cases b with
    | true =>
      simp only [if_true] at hb
      refine ite_t rfl ?_
      rcases hb with ⟨hb | hb, c⟩
      · exact hQ _ hb c
      · exact hZ _ hb c
    | false =>
      simp only [Bool.false_eq_true, if_false] at hb
      obtain ⟨j, h1, h2, h3, rfl, h5, c5⟩ := hb
      refine ite_f rfl ?_
      have hb' : H2.size ∉ F := fun h => by have := (hF _ h).1; omega
      have b5 := b4.ch c5 hb'
      rw [add_mk]
      refine ldI_i b5 rfl (hrec _ _ ⟨j + 2, rfl, by have := h2.1; omega, ?_, c4.same c5⟩ ?_)
      · rw [(marks_next h1 h2 h3).2]; exact h5
      · have := h2.1
        simp only [Int.toNat_natCast]
        omega
  · intro J hJ
    rcases hr with ⟨j, h1, h2, h3, rfl⟩ | ⟨hn, rfl⟩
    · refine ite_f rfl ⟨_, _, _, ldA_full b4, ?_⟩
      refine hY _ _ _ _ (marks_next h1 h2 h3).1 hI4 c4 ?_ ?_
      · exact fun H5 h5 c5 => hJ _ _ (by simp; exact ⟨j, h1, h2, h3, by simp, h5, c5⟩)
      · exact fun H5 h5 c5 => hJ _ _ (by simp; exact ⟨.inr h5, c4.same c5⟩)
    · refine ite_t rfl (hJ _ _ (by simp; exact ⟨.inl (by rw [marks_end hn] at hI4; exact hI4), c4⟩))

theorem cM_ones (l : List Mk) : ∀ u ∈ l.flatMap cM, u.oneCell' = true := fun u hu => by
  obtain ⟨m, _, h⟩ := List.mem_flatMap.1 hu
  exact one23 _ _ _ u h
theorem rAll_ok {s : ByteArray} {H : Hp} {Q : Sl → Hp → Prop} (hs : s.size ≤ 1099511627776)
    (h : ∀ l H', Own H' 23 3 l ((marks s).flatMap cM) → Keep H H' → (∀ k ∈ fp l, H.size ≤ k) → Q l H') : mosaicref02_All.s s H Q := by
  unfold mosaicref02_All.s
  refine Fix.intro (fun (x : Sl × Int) H' => ∃ i : Nat, x.2 = (i : Int) ∧ i ≤ s.size ∧ Own H' 23 3 x.1 ((marksTo s i).flatMap cM) ∧ Keep H H' ∧ ∀ k ∈ fp x.1, H.size ≤ k) (fun x _ => s.size - x.2.toNat) ⟨0, rfl, by omega, Own.nil _ _ _, Keep.refl _, by simp [fp]⟩ ?_
  rintro ⟨l, _⟩ H1 ⟨i, rfl, hi, ho, hk, hf⟩ rec hrec
  replace ho : Own H1 23 3 l ((marksTo s i).flatMap cM) := ho
  replace hf : ∀ k ∈ fp l, H.size ≤ k := hf
  simp only
  have e1 : IntKind.wrap .i64 ((i : Int) + 1) = ((i + 1 : Nat) : Int) := by rw [w64 (by omega)]; omega
  have e2 : IntKind.wrap .i64 ((i : Int) + 2) = ((i + 2 : Nat) : Int) := by rw [w64 (by omega)]; omega
  rw [e1, e2]
  by_cases hc : i + 1 < s.size
  · refine ite_t (by simp; omega) ?_
    refine Join.intro (fun l' H' => Own H' 23 3 l' ((marksTo s (i + 1)).flatMap cM) ∧ Keep H H' ∧ ∀ k ∈ fp l', H.size ≤ k) ?_ ?_
    · exact fun l' H' ⟨h1, h2, h3⟩ => hrec _ _ ⟨i + 1, rfl, by omega, h1, h2, h3⟩ (by simp only [Int.toNat_natCast]; omega)
    · intro J hJ
      refine Join.intro (fun b H' => (b = true ↔ isMark s i) ∧ H1 = H') ?_ ?_
      · rintro b _ ⟨hb, rfl⟩
        by_cases hm : isMark s i
        · refine ite_t (hb.2 hm) ⟨by omega, by omega, nw_i fun H2 b2 k2 s2 => ?_⟩
          have hcnt := ho.count cM_len (by decide)
          have hlen := marksTo_len s i
          refine apS_own (ho.ch (k2.ch (F := [])) (by simp)) (cM_ones _) rfl rfl (by decide) (by decide) (by omega) (by decide) fun l' H3 h3 c3 f3 n3 => hJ _ _ ⟨?_, ?_, ?_⟩
          · rw [marksTo, if_pos hm, List.flatMap_append]
            simpa [cM, markOf] using h3
          · exact (((hk.trans k2).ch (F := [])).trans c3 fun k hk' => .inr (hf k hk')).keep (by simp)
          · intro k hk'
            have := hk.size
            have := k2.size
            rcases f3 k hk' with h4 | h4
            · exact hf k h4
            · omega
        · have hf' : b = false := by cases b with | false => rfl | true => exact absurd (hb.1 rfl) hm
          refine ite_f hf' (hJ _ _ ⟨?_, hk, hf⟩)
          rw [marksTo, if_neg hm]; exact ho
      · intro J2 hJ2
        refine ⟨by omega, by omega, ?_⟩
        by_cases h1 : bt s (i : Int) = 255
        · refine ite_t (by simpa using h1) ⟨by omega, by omega, ?_⟩
          by_cases h2 : bt s ((i + 1 : Nat) : Int) = 0
          · exact ite_f (bnei h2) (hJ2 _ _ ⟨⟨fun x => (by cases x), fun x => absurd h2 x.2.2.1⟩, rfl⟩)
          · refine ite_t (bnet h2) ⟨by omega, by omega, hJ2 _ _ ⟨?_, rfl⟩⟩
            rw [bne_iff_ne]
            exact ⟨fun x => ⟨hc, h1, h2, x⟩, fun x => x.2.2.2⟩
        · exact ite_f (beqf h1) (hJ2 _ _ ⟨⟨fun x => (by cases x), fun x => absurd x.2.1 h1⟩, rfl⟩)
  · refine ite_f (by simp; omega) (h _ _ ?_ hk hf)
    rw [marksTo_big s (by omega)] at ho
    exact ho

/-! ### the law -/
structure MA (W : Hp) (s : ByteArray) (a : Int) (w : Sl) (p1 p3 p7 pf p12 : Nat) (n : Int) (H : Hp) : Prop where
  b1 : Bk H p1 3 [.int .i64 a]
  b3 : ∃ v, Bk H p3 4 [.bool v]
  b7 : Bk H p7 28 [.slice w.a w.n w.c]
  bf : Bk H pf 9 [.string s]
  b12 : Bk H p12 3 [.int .i64 n]
  ow : Own H 23 3 w ((marks s).flatMap cM)
  kp : Keep W H
  lt : W.size ≤ p1 ∧ p1 < p3 ∧ p3 < p7 ∧ p7 < pf ∧ pf < p12
  lw : ∀ k ∈ fp w, p3 < k ∧ k < p7
theorem MA.keep {W : Hp} {s : ByteArray} {a : Int} {w : Sl} {p1 p3 p7 pf p12 : Nat} {n : Int} {H H' : Hp} (h : MA W s a w p1 p3 p7 pf p12 n H) (k : Keep H H') : MA W s a w p1 p3 p7 pf p12 n H' :=
  ⟨h.b1.keep k, h.b3.imp fun v b => b.keep k, h.b7.keep k, h.bf.keep k, h.b12.keep k, h.ow.ch (k.ch (F := [])) (by simp), h.kp.trans k, h.lt, h.lw⟩
/-- A block beyond them turns. -/
theorem MA.above {W : Hp} {s : ByteArray} {a : Int} {w : Sl} {p1 p3 p7 pf p12 : Nat} {n : Int} {H H' : Hp} {l : Nat} (h : MA W s a w p1 p3 p7 pf p12 n H) (k : Same H H' l) (hl : p12 < l) : MA W s a w p1 p3 p7 pf p12 n H' := by
  have := h.lt
  refine ⟨h.b1.same k (by omega), h.b3.imp fun v b => b.same k (by omega), h.b7.same k (by omega), h.bf.same k (by omega), h.b12.same k (by omega), h.ow.ch k.ch fun i hi => ?_, h.kp.same k (by omega), h.lt, h.lw⟩
  have := h.lw i hi
  simp; omega
theorem MA.set {W : Hp} {s : ByteArray} {a : Int} {w : Sl} {p1 p3 p7 pf p12 : Nat} {n m : Int} {H H' : Hp} (h : MA W s a w p1 p3 p7 pf p12 n H) (b : Bk H' p12 3 [.int .i64 m]) (k : Same H H' p12) : MA W s a w p1 p3 p7 pf p12 m H' := by
  have := h.lt
  refine ⟨h.b1.same k (by omega), h.b3.imp fun v b => b.same k (by omega), h.b7.same k (by omega), h.bf.same k (by omega), b, h.ow.ch k.ch fun i hi => ?_, h.kp.same k (by omega), h.lt, h.lw⟩
  have := h.lw i hi
  simp; omega
theorem mark_eq (m : Mk) : ((m.1 == m.1) && ((m.2.1 == m.2.1) && (m.2.2 == m.2.2))) = true := by simp
theorem MarkerAll_row (s : ByteArray) (a : Int) (W : World) (hs : s.size ≤ 1048576) (ha : -9223372036854775808 ≤ a ∧ a ≤ 9223372036854775807) :
    mosaiclaw02_MarkerAll.s s a W.heap (fun r H' => r = true ∧ Keep W.heap H') := by
  unfold mosaiclaw02_MarkerAll.s
  have hml := marksTo_len s s.size
  refine nw_i fun H2 b2 k2 s2 => nw_i fun H4 b4 k4 s4 => rAll_ok (by omega) fun w H6 o6 k6 f6 => nw_i fun H8 b8 k8 s8 => st_i b8 (by decide) fun H9 b9 s9 => ?_
  unfold marker_All.s
  refine nw_i fun H11 b11 k11 s11 => nw_i fun H13 b13 k13 s13 => st_i b13 (by decide) fun H14 b14 s14 => ?_
  have z2 := k2.size
  have z6 := k6.size
  have z9 := s9.size
  have hma : MA W.heap s a w W.heap.size H2.size H6.size H9.size H11.size 0 H14 := by
    have kk : Keep H9 H14 := (k11.trans k13).same s14 k11.size
    have b9' : Bk H9 H6.size 28 _ := b9
    have o9 : Own H9 23 3 w ((marks s).flatMap cM) := (o6.ch (k8.ch (F := [])) (by simp)).ch s9.ch fun k hk => by
      have := o6.fp_lt k hk
      simp; omega
    refine ⟨((((b2.keep k4).keep k6).keep k8).same s9 (by omega)).keep kk, ⟨_, (((b4.keep k6).keep k8).same s9 (by omega)).keep kk⟩, b9'.keep kk, (b11.keep k13).same s14 (by omega), b14, o9.ch (kk.ch (F := [])) (by simp), ?_, ⟨Nat.le_refl _, by omega, by omega, by omega, by omega⟩, fun k hk => ⟨?_, ?_⟩⟩
    · exact ((((k2.trans k4).trans k6).trans k8).same s9 (by omega)).trans kk
    · have := f6 k hk; omega
    · exact o6.fp_lt k hk
  clear b2 b4 b9 b11 b14 b13 b8 o6
  revert hma
  generalize W.heap.size = p1, H2.size = p3, H6.size = p7, H9.size = pf, H11.size = p12
  intro hma
  have hwn : w.n = (marks s).length := hma.ow.count cM_len (by decide)
  have hml' : (marks s).length ≤ s.size := hml
  have hs' : s.size < 140737488355328 := by omega
  have hlt := hma.lt
  -- a round's comparison: the mark that comes is the one that is wanted
  have cmp : ∀ {i : Nat} {x : Mk} {H p28 : _} {J : Bool → Hp → Prop}, (marks s)[i]? = some x → MA W.heap s a w p1 p3 p7 pf p12 i H → Bk H p28 23 (cM x) → J false H →
      ldI .i64 H ⟨p12, 0, none⟩ (fun x40 => ldL H ⟨p7, 0, none⟩ (fun x42 => if decide ((x42.n : Int) ≤ x40) = true then (J (true) H) else (∃ x44 : Int, ∃ x45 : Int, ∃ x46 : Int, ldA H ⟨p28, 0, none⟩ (c23 x44 x45 x46) ∧ (ldL H ⟨p7, 0, none⟩ (fun x48 => ldI .i64 H ⟨p12, 0, none⟩ (fun x50 => 0 ≤ x50 ∧ x50 < (x48.n : Int) ∧ someA x48.a (fun p54 => ∃ x56 : Int, ∃ x57 : Int, ∃ x58 : Int, ldA H (p54.add (Int.toNat x50 * 3)) (c23 x56 x57 x58) ∧ (J ((!((x44 == x56) && ((x45 == x57) && (x46 == x58))))) H)))))))) := by
    intro i x H p28 J hx hm hb hJ
    have hi := (List.getElem?_eq_some_iff.1 hx).1
    refine ldI_i hm.b12 rfl (ldL_i hm.b7 rfl (ite_f (decf (by omega)) ⟨_, _, _, ldA_full hb, ldL_i hm.b7 rfl (ldI_i hm.b12 rfl ⟨by omega, by omega, ?_⟩)⟩))
    obtain ⟨b, ha, hl⟩ := hm.ow.at cM_len (by decide) hx
    refine ⟨_, ha, _, _, _, by rw [Int.toNat_natCast]; exact hl, ?_⟩
    simpa using hJ
  refine Join.intro (fun Ds H' => (∃ n, MA W.heap s a w p1 p3 p7 pf p12 n H') ∧ Dfr Ds H' ∧ ∀ D ∈ Ds, p12 < D) ?_ ?_
  · rintro Ds H17 ⟨⟨n, hm⟩, hd, hd'⟩
    refine st_i hm.b12 (by simp) fun H18 b18 s18 => ?_
    have hm18 := hm.set b18 s18
    have hd18 : Dfr Ds H18 := Dfr.ch s18.ch hd fun D h => by have := hd' D h; simp; omega
    have hz := hm18.b12.lt
    refine Rg_i fun r H22 hr k22 s22 hD hl => ?_
    refine All_seq hs' (hm18.bf.keep k22) _ _ [H18.size + 1, p12] (fun i H' => MA W.heap s a w p1 p3 p7 pf p12 i H' ∧ Lp H' (H18.size + 1) r ∧ Dfr (H18.size :: Ds) H') (fun _ => False) ?_ ?_ ?_ ?_ ?_ (fun _ h => h.elim)
    · intro k hk
      simp at hk ⊢
      omega
    · refine ⟨by simpa using hm18.keep k22, hl, hD, fun h => by have := hd18.lt _ h; omega, hd18.keep k22⟩
    · exact fun i H H' ⟨h1, h2, h3⟩ k => ⟨h1.keep k, h2.ch (k.ch (F := [])) (by simp), h3.keep k⟩
    · rintro i x H25 K hx ⟨h1, h2, h3⟩ c25 hT hF
      refine ⟨h2, nw_i fun H29 b29 k29 s29 => stA_full b29 rfl fun H30 b30 s30 => ?_⟩
      have z1 := h1.b12.lt
      have z2 := h2.lt
      have h30 := (h1.keep k29).above s30 (by omega)
      have l30 : Lp H30 (H18.size + 1) r := (h2.ch (k29.ch (F := [])) (by simp)).ch s30.ch (by simp; omega)
      have d30 : Dfr (H18.size :: Ds) H30 := Dfr.ch s30.ch (h3.keep k29) fun D h => by have := h3.lt D h; simp; omega
      refine ⟨l30, Up_s l30 fun H31 s31 l31 => ?_⟩
      have d31 : ∀ {A B}, Same A B (H18.size + 1) → Dfr (H18.size :: Ds) A → Dfr (H18.size :: Ds) B := fun s h => Dfr.ch s.ch h fun D h' => by
        rcases List.mem_cons.1 h' with rfl | h'
        · simp
        · have := hd18.lt D h'
          simp; omega
      have h31 := h30.above s31 (by omega)
      have b31 := b30.same s31 (by omega)
      refine Join.intro (fun b H' => b = false ∧ H' = H31) ?_ ?_
      · rintro _ _ ⟨rfl, rfl⟩
        refine ite_f rfl (ldI_i h31.b12 rfl (st_i h31.b12 (by simp) fun H38 b38 s38 => ?_))
        have l38 := l31.ch s38.ch (by simp; omega)
        have hil := (List.getElem?_eq_some_iff.1 hx).1
        rw [w64 (by omega)] at b38
        have h38 := h31.set b38 s38
        refine ⟨l38, hT _ ⟨(h38.above putL_same (by omega)), putL_lp l38, d31 putL_same (Dfr.ch s38.ch (d31 s31 d30) fun D h' => ?_)⟩ ?_⟩
        · rcases List.mem_cons.1 h' with rfl | h'
          · simp; omega
          · have := hd' D h'
            simp; omega
        · have c1 : Ch [H18.size + 1, p12] H25 H30 := ((k29.ch (F := [])).trans s30.ch (by simp)).mono (by simp)
          exact ((c1.trans s31.ch (by simp)).trans s38.ch (by simp)).trans putL_same.ch (by simp)
      · exact fun J hJ => cmp hx h31 b31 (hJ _ _ ⟨rfl, rfl⟩)
    · rintro H26 ⟨h1, h2, h3⟩ c
      refine .inl ⟨h2, Up_s h2 fun H61 s61 _ => ?_⟩
      have d61 : Dfr (H18.size :: Ds) H61 := Dfr.ch s61.ch h3 fun D h' => by
        rcases List.mem_cons.1 h' with rfl | h'
        · simp
        · have := hd18.lt D h'
          simp; omega
      have h61 := h1.above s61 (by omega)
      obtain ⟨v, b3⟩ := h61.b3
      refine ldI_i h61.b12 rfl (ldL_i h61.b7 rfl (st_i b3 (by simp) fun H66 b66 s66 => ?_))
      rw [hwn, beqi rfl] at b66
      refine tkD_ok (Dfr.ch s66.ch d61 fun D h' => ?_) fun H67 c67 z67 => ?_
      · rcases List.mem_cons.1 h' with rfl | h'
        · simp; omega
        · have := hd' D h'
          simp; omega
      · have hDs : ∀ k ∈ H18.size :: Ds, p12 < k := fun k hk => by
          rcases List.mem_cons.1 hk with rfl | hk
          · omega
          · exact hd' k hk
        refine ldB_i (b66.ch c67 fun hk => by have := hDs _ hk; omega) rfl ⟨rfl, ?_⟩
        refine (((h61.kp.same s66 (by omega)).ch (F := [])).trans c67 fun k hk => .inr ?_).keep (by simp)
        have := hDs k hk
        omega
  · intro J hJ
    refine ldI_i hma.b1 rfl ?_
    by_cases hpos : 0 < a
    · refine ite_t (dect hpos) ?_
      refine Join.intro (fun Ds H' => (∃ n : Int, MA W.heap s a w p1 p3 p7 pf p12 n H' ∧ (n = a ∨ n = (marks s).length)) ∧ Dfr Ds H' ∧ ∀ D ∈ Ds, p12 < D) ?_ ?_
      · rintro Ds H78 ⟨⟨n, hm, hn⟩, hd, hd'⟩
        refine Join.intro (fun b H' => b = false ∧ H' = H78) ?_ ?_
        · rintro _ _ ⟨rfl, rfl⟩
          exact ite_f rfl (hJ _ _ ⟨⟨n, hm⟩, hd, hd'⟩)
        · intro J2 hJ2
          refine ldI_i hm.b12 rfl (ldI_i hm.b1 rfl ?_)
          by_cases hna : n = a
          · exact ite_f (bnei hna) (hJ2 _ _ ⟨rfl, rfl⟩)
          · refine ite_t (bnet hna) (ldI_i hm.b12 rfl (ldL_i hm.b7 rfl (hJ2 _ _ ⟨?_, rfl⟩)))
            rcases hn with h | h
            · exact absurd h hna
            · rw [hwn]; exact bnei h
      · intro J2 hJ2
        have hz := hma.b12.lt
        refine Rg_i fun r H22 hr k22 s22 hD hl => ?_
        refine All_seq hs' (hma.bf.keep k22) _ _ [H14.size + 1, p12] (fun i H' => MA W.heap s a w p1 p3 p7 pf p12 i H' ∧ Lp H' (H14.size + 1) r ∧ Dfr [H14.size] H' ∧ (i : Int) < a)
          (fun H' => MA W.heap s a w p1 p3 p7 pf p12 a H' ∧ Lp H' (H14.size + 1) (dn r (.exit 0)) ∧ Dfr [H14.size] H') ?_ ?_ ?_ ?_ ?_ ?_
        · intro k hk
          simp at hk ⊢
          omega
        · exact ⟨by simpa using hma.keep k22, hl, ⟨hD, by simp, trivial⟩, by omega⟩
        · exact fun i H H' ⟨h1, h2, h3, h4⟩ k => ⟨h1.keep k, h2.ch (k.ch (F := [])) (by simp), h3.keep k, h4⟩
        · rintro i x H25 K hx ⟨h1, h2, h3, h4⟩ c25 hT hF
          refine ⟨h2, nw_i fun H29 b29 k29 s29 => stA_full b29 rfl fun H30 b30 s30 => ?_⟩
          have z1 := h1.b12.lt
          have z2 := h2.lt
          have h30 := (h1.keep k29).above s30 (by omega)
          have l30 : Lp H30 (H14.size + 1) r := (h2.ch (k29.ch (F := [])) (by simp)).ch s30.ch (by simp; omega)
          have d30 : Dfr [H14.size] H30 := Dfr.ch s30.ch (h3.keep k29) fun D h => by have := h3.lt D h; simp; omega
          refine ⟨l30, Up_s l30 fun H31 s31 l31 => ?_⟩
          have d31 : ∀ {A B}, Same A B (H14.size + 1) → Dfr [H14.size] A → Dfr [H14.size] B := fun s h => Dfr.ch s.ch h (by simp)
          have h31 := h30.above s31 (by omega)
          have b31 := b30.same s31 (by omega)
          refine Join.intro (fun b H' => b = false ∧ H' = H31) ?_ ?_
          · rintro _ _ ⟨rfl, rfl⟩
            refine ite_f rfl (ldI_i h31.b12 rfl (st_i h31.b12 (by simp) fun H38 b38 s38 => ?_))
            have l38 := l31.ch s38.ch (by simp; omega)
            have hil := (List.getElem?_eq_some_iff.1 hx).1
            rw [w64 (by omega)] at b38
            have h38 := h31.set b38 s38
            have d38 : Dfr [H14.size] H38 := Dfr.ch s38.ch (d31 s31 d30) (by simp; omega)
            have c1 : Ch [H14.size + 1, p12] H25 H30 := ((k29.ch (F := [])).trans s30.ch (by simp)).mono (by simp)
            have c38 := (c1.trans s31.ch (by simp)).trans s38.ch (by simp)
            refine ldI_i h38.b12 rfl (ldI_i h38.b1 rfl ?_)
            by_cases hia : (i : Int) + 1 = a
            · refine ite_t (beqi hia) ⟨l38, hF _ ⟨?_, putL_lp l38, d31 putL_same d38⟩ (c38.trans putL_same.ch (by simp))⟩
              have h5 := h38.above (putL_same (r := dn r (.exit 0))) (show p12 < H14.size + 1 by omega)
              rw [hia] at h5
              exact h5
            · refine ite_f (beqf hia) ⟨l38, hT _ ⟨h38.above putL_same (by omega), putL_lp l38, d31 putL_same d38, by omega⟩ (c38.trans putL_same.ch (by simp))⟩
          · exact fun J hJ => cmp hx h31 b31 (hJ _ _ ⟨rfl, rfl⟩)
        · rintro H26 ⟨h1, h2, h3, h4⟩ c
          exact .inl ⟨h2, hJ2 _ _ ⟨⟨_, h1.above putL_same (by omega), .inr rfl⟩, Dfr.ch putL_same.ch h3 (by simp), by simp; omega⟩⟩
        · rintro H26 ⟨h1, h2, h3⟩ c
          exact .inr (.inr ⟨h2, hJ2 _ _ ⟨⟨_, h1.above putL_same (by omega), .inl rfl⟩, Dfr.ch putL_same.ch h3 (by simp), by simp; omega⟩⟩)
    · exact ite_f (decf hpos) (hJ _ _ ⟨⟨0, hma⟩, trivial, by simp⟩)
end Go.Proofs.Ytkplpbnifinlbaa.G
