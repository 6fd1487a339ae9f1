/- Layer 1: BitsRead. -/
import Derived.Test.YtcjmcmkohfaleaaZ01b
import Derived.Test.YtcjmcmkohfaleaaZRs
import Derived.Test.YtcjmcmkohfaleaaKBitsRead
namespace Go.Proofs.Ytcjmcmkohfaleaa.G
open Go.RowKit
set_option linter.unusedVariables false
set_option linter.unusedSimpArgs false

/-- A source and the document's, with the same bits left; F are their blocks. -/
def Pr (H : Hp) (F : List Nat) (p r : Nat) (l : List (Bool × Nat)) (e u : Nat) : Prop := ∃ s, Src H p l e u ∧ Rsc H r s l e u ∧ p ∉ r :: fp s ∧ F = p :: r :: fp s
theorem Pr.ch {H H' : Hp} {F G : List Nat} {p r : Nat} {l : List (Bool × Nat)} {e u : Nat} (h : Pr H F p r l e u) (c : Ch G H H') (hd : Dis F G) : Pr H' F p r l e u := by
  obtain ⟨s, h1, h2, h3, rfl⟩ := h
  exact ⟨s, h1.ch c (hd p (by simp)), h2.ch c fun b hb => hd b (List.mem_cons_of_mem _ hb), h3, rfl⟩
theorem Pr.keep {H H' : Hp} {F : List Nat} {p r : Nat} {l : List (Bool × Nat)} {e u : Nat} (h : Pr H F p r l e u) (c : Keep H H') : Pr H' F p r l e u := h.ch (c.ch (F := [])) fun b _ => by simp
theorem Pr.lts {H : Hp} {F : List Nat} {p r : Nat} {l : List (Bool × Nat)} {e u : Nat} (h : Pr H F p r l e u) : ∀ b ∈ F, b < H.size := by
  obtain ⟨s, h1, h2, h3, rfl⟩ := h
  intro b hb
  rcases List.mem_cons.1 hb with rfl | hb
  · exact h1.lt
  · exact h2.lts b hb
theorem read_ok {H : Hp} {F : List Nat} {p r : Nat} {l : List (Bool × Nat)} {e u : Nat} {d v n : Int} {Q : Bool → Hp → Prop} (h : Pr H F p r l e u)
    (hQ : ∀ H' F' m, Pr H' F' p r (l.drop m) e (u + m) → Ch F H H' → (∀ b ∈ F', b ∈ F) → ((d = 1 → n = 1 → 0 < l.length → m = 1) ∧ (d = 6 → m = 0)) → Q true H') : mosaiclaw01_read.s (some ⟨p, 0, none⟩) (some ⟨r, 0, none⟩) d v n H Q := by
  unfold mosaiclaw01_read.s
  intro b1 H2 c2 g1 g2
  have k2 : Keep H H2 := c2.keep (by simp)
  have hlt := h.lts
  obtain ⟨s, hs, hr, hd, rfl⟩ := h.keep k2
  replace hQ : ∀ H' F' m, Pr H' F' p r (l.drop m) e (u + m) → Ch (p :: r :: fp s) H2 H' → (∀ b ∈ F', b ∈ p :: r :: fp s) → ((d = 1 → n = 1 → 0 < l.length → m = 1) ∧ (d = 6 → m = 0)) → Q true H' := fun H' F' m a c f g => hQ H' F' m a ((k2.ch (F := p :: r :: fp s)).trans c fun i hi => .inl hi) f g
  have hp1 : b1 ≠ p := by have := hlt p (by simp); omega
  have hpr : p ≠ r := fun e => hd (by simp [e])
  have hpf : ∀ b ∈ r :: fp s, b ∉ [p] := fun b hb => by simp; exact fun e => hd (e ▸ hb)
  have same : ∀ H', Keep H2 H' → ¬ d = 1 → Q true H' := fun H' k' h1 => hQ H' _ 0 (show Pr H' _ p r l e u from ⟨s, hs.keep k', hr.keep k', hd, rfl⟩) k'.ch (fun b hb => hb) ⟨fun h => absurd h h1, fun _ => rfl⟩
  have turn : ∀ H3 H4 m s', Src H3 p (l.drop m) e (u + m) → Ch [p] H2 H3 → Rsc H4 r s' (l.drop m) e (u + m) → Same H3 H4 r → (∀ b ∈ fp s', b ∈ fp s) → ((d = 1 → n = 1 → 0 < l.length → m = 1) ∧ (d = 6 → m = 0)) → Q true H4 := fun H3 H4 m s' a b c d' f g => by
    refine hQ H4 _ m ⟨s', a.ch d'.ch (by simpa using hpr), c, fun hh => ?_, rfl⟩ ((b.mono (by simp)).trans d'.ch (by simp)) (fun b hb => ?_) g
    · rcases List.mem_cons.1 hh with hh | hh
      · exact hpr hh
      · exact hd (by simp [f p hh])
    · simp at hb ⊢
      rcases hb with h | h | h
      · exact .inl h
      · exact .inr (.inl h)
      · exact .inr (.inr (f b h))
  by_cases h1 : d = 1
  · refine ite_t (beqi h1) (Next_ok hs (fun hb H4 k4 => ⟨Pv.keep k4 (by simpa using g2), rNext_ok (hr.keep k4) (fun _ => ?_) fun _ _ _ => by omega⟩) fun q1 q2 q3 H4 S4 c4 => ⟨Pv.ch c4 (by simpa using ⟨g2, hp1⟩), rNext_ok (hr.ch c4 hpf) (by omega) fun _ _ _ s' H7 R7 s7 f7 => ?_⟩)
    · refine Join.intro (fun b H' => b = true ∧ H4 = H') ?_ fun J hJ => ite_t rfl (hJ _ _ ⟨rfl, rfl⟩)
      rintro _ _ ⟨rfl, rfl⟩
      exact hQ H4 _ 0 (show Pr H4 _ p r l e u from ⟨s, hs.keep k4, hr.keep k4, hd, rfl⟩) k4.ch (fun b hb => hb) ⟨by omega, by omega⟩
    · refine Join.intro (fun b H' => b = true ∧ H7 = H') ?_ fun J hJ => ite_t (by simp) (hJ _ _ ⟨rfl, rfl⟩)
      rintro _ _ ⟨rfl, rfl⟩
      exact turn H4 H7 _ s' S4 c4 R7 s7 f7 ⟨by omega, by omega⟩
  refine ite_f (beqf h1) ?_
  by_cases h2 : d = 2
  · refine ite_t (beqi h2) (Peek_ok hs (fun hb => ⟨fun b hb => rfl, rPeek_ok hr (fun _ => ?_) (by omega)⟩) fun _ _ H4 k4 => ⟨Pv.keep k4 (by simpa using g2), rPeek_ok (hr.keep k4) (by omega) fun _ _ => ?_⟩)
    · refine Join.intro (fun b H' => b = true ∧ H2 = H') ?_ fun J hJ => ite_t rfl (hJ _ _ ⟨rfl, rfl⟩)
      rintro _ _ ⟨rfl, rfl⟩
      exact same _ (Keep.refl _) h1
    · refine Join.intro (fun b H' => b = true ∧ H4 = H') ?_ fun J hJ => ite_t (by simp) (hJ _ _ ⟨rfl, rfl⟩)
      rintro _ _ ⟨rfl, rfl⟩
      exact same _ k4 h1
  refine ite_f (beqf h2) ?_
  by_cases h3 : d = 3
  · refine ite_t (beqi h3) (Skip_x hs fun H4 S4 s4 => ⟨Pv.ch s4.ch (by simpa using ⟨g2, hp1⟩), rSkip_x (hr.ch s4.ch hpf) fun s' H7 R7 s7 f7 => ?_⟩)
    rw [beq_self_eq_true]
    exact turn H4 H7 _ s' S4 s4.ch R7 s7 f7 ⟨by omega, by omega⟩
  refine ite_f (beqf h3) ?_
  by_cases h4 : d = 4
  · refine ite_t (beqi h4) (Left_ok hs (rLeft_ok hr ?_))
    rw [beq_self_eq_true]
    exact same _ (Keep.refl _) h1
  refine ite_f (beqf h4) ?_
  by_cases h5 : d = 5
  · refine ite_t (beqi h5) (Used_ok hs (rUsed_ok hr ?_))
    rw [beq_self_eq_true]
    exact same _ (Keep.refl _) h1
  refine ite_f (beqf h5) ?_
  by_cases h6 : d = 6
  · refine ite_t (beqi h6) (At_ok hs (rAt_ok hr ?_))
    rw [beq_self_eq_true]
    exact same _ (Keep.refl _) h1
  refine ite_f (beqf h6) ?_
  by_cases h7 : d = 7
  · refine ite_t (beqi h7) (Padded_ok hs fun H4 k4 => rPadded_ok (hr.keep k4) ?_)
    rw [beq_self_eq_true]
    exact same _ k4 h1
  · exact ite_f (beqf h7) (same _ (Keep.refl _) h1)
theorem rest_ok {H : Hp} {F : List Nat} {p r : Nat} {l : List (Bool × Nat)} {e u : Nat} {Q : Bool → Hp → Prop} (h : Pr H F p r l e u) (hQ : ∀ H', Ch F H H' → Q true H') : mosaiclaw01_rest.s (some ⟨p, 0, none⟩) (some ⟨r, 0, none⟩) H Q := by
  unfold mosaiclaw01_rest.s
  refine Join.intro (fun b H' => b = false ∧ Keep H H') ?_ ?_
  rotate_left
  · intro J hJ
    obtain ⟨s, hs, hr, hd, rfl⟩ := h
    refine Left_ok hs (rLeft_ok hr (ite_f (bnei rfl) (Used_ok hs (rUsed_ok hr (ite_f (bnei rfl) (At_ok hs (rAt_ok hr (ite_f (bnei rfl) (Padded_ok hs fun H4 k4 => rPadded_ok (hr.keep k4) (hJ _ _ ⟨by simp, k4⟩))))))))))
  rintro _ H3 ⟨rfl, k3⟩
  refine ite_f rfl ?_
  refine Fix.intro (fun (_ : Unit) H' => ∃ F' m, Pr H' F' p r (l.drop m) e (u + m) ∧ Ch F H H' ∧ ∀ b ∈ F', b ∈ F)
    (fun _ H' => match cellAt H' ⟨p, 4, none⟩ with | some (.int _ d) => d.toNat | _ => 0) ⟨F, 0, by simpa using h.keep k3, k3.ch, fun b hb => hb⟩ ?_
  rintro ⟨⟩ H7 ⟨F7, m, P7, c7, f7⟩ rec hrec
  have cell : ∀ {H' : Hp} {F'} {m}, Pr H' F' p r (l.drop m) e (u + m) → cellAt H' ⟨p, 4, none⟩ = some (.int .i64 ((l.drop m).length : Int)) := by
    rintro H' F' m ⟨s, ⟨f, q, b, xs, bk, _⟩, _⟩
    rw [bk.cell]; rfl
  have P7' := P7
  obtain ⟨s, hs, hr, hd, rfl⟩ := P7'
  refine rLeft_ok hr ?_
  by_cases hpos : 0 < (l.drop m).length
  · refine ite_t (dect (by omega)) (Join.intro (fun b H' => b = true ∧ ∃ F', Pr H' F' p r (l.drop (m + 1)) e (u + (m + 1)) ∧ Ch F H H' ∧ ∀ b ∈ F', b ∈ F) ?_ ?_)
    · rintro _ H14 ⟨rfl, F', a, b, c⟩
      refine ite_f rfl (hrec _ _ ⟨F', m + 1, a, b, c⟩ ?_)
      simp only [cell a, cell P7]
      simp only [List.length_drop] at hpos ⊢
      omega
    · intro J hJ
      refine read_ok P7 fun H16 F16 q P16 c16 f16 hq => ite_t rfl (read_ok P16 fun H18 F18 q' P18 c18 f18 hq' => ?_)
      have e1 : q = 1 := hq.1 rfl rfl hpos
      have e2 : q' = 0 := hq'.2 rfl
      subst e1 e2
      rw [List.drop_zero, List.drop_drop] at P18
      exact hJ _ _ ⟨rfl, F18, by simpa [Nat.add_assoc] using P18, (c7.trans c16 fun b hb => .inl (f7 b hb)).trans c18 fun b hb => .inl (f7 b (f16 b hb)), fun b hb => f7 b (f16 b (f18 b hb))⟩
  · have hl0 : l.drop m = [] := List.eq_nil_of_length_eq_zero (by omega)
    refine ite_f (decf (by omega)) (Left_ok hs (ite_t (beqi (by omega)) (Padded_ok hs fun H22 k22 => ?_)))
    rw [hl0]
    refine ite_t rfl (Used_ok (hs.keep k22) (rUsed_ok (hr.keep k22) ?_))
    rw [beq_self_eq_true]
    exact hQ _ (ch_keep c7 k22)
theorem BitsRead_row (fa : ByteArray) (xa ya : Int) (fb : ByteArray) (xb yb : Int) (a0 a1 : Sl) (W : World) (hfa : fa.size ≤ 1048576) (hxa : -9223372036854775808 ≤ xa ∧ xa ≤ 9223372036854775807) (hya : -9223372036854775808 ≤ ya ∧ ya ≤ 9223372036854775807)
    (hfb : fb.size ≤ 1048576) (hxb : -9223372036854775808 ≤ xb ∧ xb ≤ 9223372036854775807) (hyb : -9223372036854775808 ≤ yb ∧ yb ≤ 9223372036854775807) (h0 : SlH W.heap (some 1048576) 24 3 (X29 (some 1048576) W.heap) a0) (h1 : SlH W.heap (some 1048576) 24 3 (X29 (some 1048576) W.heap) a1) :
    mosaiclaw01_BitsRead.s fa xa ya fb xb yb a0 a1 W.heap (fun r H' => r = true ∧ Keep W.heap H') := by
  obtain ⟨xs, v0, z0⟩ := acts_view h0
  obtain ⟨ys, v1, z1⟩ := acts_view h1
  have n0 := v0.n
  have n1 := v1.n
  have c0 := v0.c
  have c1 := v1.c
  have b0 : a0.n ≤ 1048576 := by
    rcases z0 with z | z
    · omega
    · have : a0.c + 1 ≤ 1048576 := z
      omega
  have b1 : a1.n ≤ 1048576 := by
    rcases z1 with z | z
    · omega
    · have : a1.c + 1 ≤ 1048576 := z
      omega
  obtain ⟨la1, la2⟩ := lohi fa.size xa ya
  obtain ⟨za, ea, hca⟩ := Cut.ex (f := fa) (b := hiOf fa.size xa ya) _ (loOf fa.size xa) (Nat.le_refl _) la1
  obtain ⟨lb1, lb2⟩ := lohi fb.size xb yb
  obtain ⟨zb, eb, hcb⟩ := Cut.ex (f := fb) (b := hiOf fb.size xb yb) _ (loOf fb.size xb) (Nat.le_refl _) lb1
  unfold mosaiclaw01_BitsRead.s
  intro q1 H2 c2 g1 g1' q3 H4 c4 g3 g3'
  have k2 : Keep W.heap H2 := c2.keep (by simp)
  have k4 : Keep H2 H4 := c4.keep (by simp)
  have y2 := k2.size
  have y4 := k4.size
  refine Open_ok (by omega) hca fun p H6 S6 k6 g6 => ⟨Pv.keep k6 (by simp; omega), Open_ok (by omega) hcb fun t H9 S9 k9 g9 => ⟨Pv.keep k9 (by have := k6.size; simp; omega), ?_⟩⟩
  have y6 := k6.size
  have y9 := k9.size
  have z6 := S6.lt
  have z9 := S9.lt
  refine Join.intro (fun b H' => b = false ∧ H9 = H') ?_ fun J hJ => ite_f rfl (hJ _ _ ⟨rfl, rfl⟩)
  rintro _ _ ⟨rfl, rfl⟩
  refine ite_f rfl (rOpen_ok (by omega) hca fun r s H15 R15 k15 f15 => ⟨Pv.keep k15 (by simp; omega), rOpen_ok (by omega) hcb fun w s' H18 R18 k18 f18 => ?_⟩)
  have y15 := k15.size
  have y18 := k18.size
  have l15 := R15.lts
  have l18 := R18.lts
  have kW : Keep W.heap H18 := ((((k2.trans k4).trans k6).trans k9).trans k15).trans k18
  generalize remB (loOf fa.size xa) 7 za = l at *
  generalize remB (loOf fb.size xb) 7 zb = m at *
  have P1 : Pr H18 (p :: r :: fp s) p r l ea 0 := ⟨s, S6.keep ((k9.trans k15).trans k18), R15.keep k18, fun hh => by have := f15 p hh; omega, rfl⟩
  have P2 : Pr H18 (t :: w :: fp s') t w m eb 0 := ⟨s', S9.keep (k15.trans k18), R18, fun hh => by have := f18 t hh; omega, rfl⟩
  have dis : Dis (p :: r :: fp s) (t :: w :: fp s') := by
    intro b hb hb'
    rcases List.mem_cons.1 hb with rfl | hb
    · rcases List.mem_cons.1 hb' with h | hb'
      · omega
      · have := f18 b hb'; omega
    · have h1 := l15 b hb
      have h2 := f15 b hb
      rcases List.mem_cons.1 hb' with h | hb'
      · omega
      · have := f18 b hb'; omega
  have gA : ∀ b ∈ p :: r :: fp s, W.heap.size ≤ b := fun b hb => by
    rcases List.mem_cons.1 hb with rfl | hb
    · omega
    · have := f15 b hb; omega
  have gB : ∀ b ∈ t :: w :: fp s', W.heap.size ≤ b := fun b hb => by
    rcases List.mem_cons.1 hb with rfl | hb
    · omega
    · have := f18 b hb; omega
  generalize p :: r :: fp s = FA at *
  generalize t :: w :: fp s' = FB at *
  refine Fix.intro (fun (x : Int) H' => ∃ (i : Nat) (A B : List Nat) (u v : Nat), x = (i : Int) ∧ i ≤ max a0.n a1.n ∧ Pr H' A p r (l.drop u) ea (0 + u) ∧ Pr H' B t w (m.drop v) eb (0 + v) ∧ (∀ b ∈ A, b ∈ FA) ∧ (∀ b ∈ B, b ∈ FB) ∧ Keep W.heap H')
    (fun x _ => max a0.n a1.n - x.toNat) ⟨0, FA, FB, 0, 0, rfl, by omega, P1, P2, fun b hb => hb, fun b hb => hb, kW⟩ ?_
  rintro _ H22 ⟨i, A, B, u, v, rfl, hi, TA, TB, fA, fB, kk⟩ rec hrec
  have sub : ∀ {A B : List Nat}, (∀ b ∈ A, b ∈ FA) → (∀ b ∈ B, b ∈ FB) → Dis A B := fun h1 h2 b hb hb' => dis b (h1 b hb) (h2 b hb')
  refine Join.intro (fun b H' => b = decide (i < a0.n ∨ i < a1.n) ∧ H22 = H') ?_ ?_
  rotate_left
  · intro J hJ
    by_cases h : i < a0.n
    · exact ite_t (dect (by omega)) (hJ _ _ ⟨(dect (.inl h)).symm, rfl⟩)
    · exact ite_f (decf (by omega)) (hJ _ _ ⟨by simp [h], rfl⟩)
  rintro _ _ ⟨rfl, rfl⟩
  by_cases hlt : i < a0.n ∨ i < a1.n
  · refine ite_t (dect hlt) (Join.intro (fun _ H' => ∃ (A B : List Nat) (u v : Nat), Pr H' A p r (l.drop u) ea (0 + u) ∧ Pr H' B t w (m.drop v) eb (0 + v) ∧ (∀ b ∈ A, b ∈ FA) ∧ (∀ b ∈ B, b ∈ FB) ∧ Keep W.heap H') ?_ ?_)
    · rintro ⟨⟩ H30 ⟨A', B', u', v', a, b, c, d, e⟩
      rw [show (i : Int) + 1 = ((i + 1 : Nat) : Int) from by omega, w64n (by omega)]
      exact hrec _ _ ⟨i + 1, A', B', u', v', rfl, by omega, a, b, c, d, e⟩ (by simp; omega)
    · intro J hJ
      refine Join.intro (fun _ H' => ∃ (A : List Nat) (u : Nat), Pr H' A p r (l.drop u) ea (0 + u) ∧ Pr H' B t w (m.drop v) eb (0 + v) ∧ (∀ b ∈ A, b ∈ FA) ∧ Keep W.heap H') ?_ ?_
      · rintro ⟨⟩ H33 ⟨A', u', TA', TB', fA', k'⟩
        by_cases h : i < a1.n
        · obtain ⟨b, o, ha, hA⟩ := (v1.keep k').get (List.getElem?_eq_getElem (show i < ys.length by omega))
          refine ite_t (dect (by omega)) ⟨by omega, by omega, _, ha, _, _, _, hA, read_ok TB' fun H43 B' q p1 p2 p3 _ => ite_f rfl (hJ _ _ ⟨A', B', u', v + q, ?_, ?_, fA', fun b hb => fB b (p3 b hb), ?_⟩)⟩
          · exact TA'.ch p2 (sub fA' fB)
          · rwa [List.drop_drop, Nat.add_assoc] at p1
          · exact ((k'.ch (F := [])).trans p2 fun b hb => .inr (gB b (fB b hb))).keep (by simp)
        · exact ite_f (decf (by omega)) (hJ _ _ ⟨A', B, u', v, TA', TB', fA', fB, k'⟩)
      · intro J2 hJ2
        by_cases h : i < a0.n
        · obtain ⟨b, o, ha, hA⟩ := (v0.keep kk).get (List.getElem?_eq_getElem (show i < xs.length by omega))
          refine ite_t (dect (by omega)) ⟨by omega, by omega, _, ha, _, _, _, hA, read_ok TA fun H43 A' q p1 p2 p3 _ => ite_f rfl (hJ2 _ _ ⟨A', u + q, ?_, ?_, fun b hb => fA b (p3 b hb), ?_⟩)⟩
          · rwa [List.drop_drop, Nat.add_assoc] at p1
          · exact TB.ch p2 (sub fA fB).symm
          · exact ((kk.ch (F := [])).trans p2 fun b hb => .inr (gA b (fA b hb))).keep (by simp)
        · exact ite_f (decf (by omega)) (hJ2 _ _ ⟨A, u, TA, TB, fA, kk⟩)
  · refine ite_f (decf hlt) (rest_ok TA fun H55 c55 => ite_t rfl (rest_ok (TB.ch c55 (sub fA fB).symm) fun H57 c57 => ⟨rfl, ?_⟩))
    exact (((kk.ch (F := [])).trans c55 fun b hb => .inr (gA b (fA b hb))).trans c57 fun b hb => .inr (gB b (fB b hb))).keep (by simp)
end Go.Proofs.Ytcjmcmkohfaleaa.G
