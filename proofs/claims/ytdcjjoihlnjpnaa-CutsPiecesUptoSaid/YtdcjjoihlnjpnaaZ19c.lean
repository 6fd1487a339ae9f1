/- Layer 19: the pieces as a list, of the program. -/
import Derived.Test.YtdcjjoihlnjpnaaZ19b
namespace Go.Proofs.Ytdcjjoihlnjpnaa.G
open Go.RowKit
set_option linter.unusedVariables false
set_option linter.unusedSimpArgs false
set_option maxRecDepth 20000

/-- The last piece's end. -/
def lastN (l : List Pc) : Int := match l.getLast? with | some p => p.2.2.2 | none => 0
theorem lastN_take {l : List Pc} {i : Nat} {x : Pc} (h : l[i]? = some x) : lastN (l.take (i + 1)) = x.2.2.2 := by
  unfold lastN
  rw [take_snoc' h, List.getLast?_concat]
theorem Pieces_ok {s : ByteArray} {a a2 : Int} {l : List Pc} {H : Hp} {Q : Sl × Int × Int → Hp → Prop} (hs : s.size < 140737488355328) (hln : l.length ≤ 1048577) (hl : Pcs s (fromOf s.size a) l)
    (h0 : a2 < l.length → ∀ H', Keep H H' → Q (⟨none, 0, 0⟩, 0, 5) H') (h1 : l.length ≤ a2 → ∀ t H', Own H' 29 4 t (l.flatMap cP) → Keep H H' → (∀ k ∈ fp t, H.size ≤ k) → Q (t, lastN l, 0) H') : cuts_Pieces.s s a a2 H Q := by
  have hll := hl.len (fromOf_le _ _)
  have hfl := fromOf_le s.size a
  unfold cuts_Pieces.s
  intro b1 H2 c2 g1 g1' b3 H4 c4 g3 g3' b5 H6 c6 g5 g5' b7 H8 c8 g7 g7' b9 H10 c10 g9 g9' b11 H13 c13 g11 g11'
  have y2 := c2.size
  have y4 := c4.size
  have y6 := c6.size
  have y8 := c8.size
  have y10 := c10.size
  have y13 := c13.size
  have k13 : Keep H H13 := (((((c2.keep (by simp)).trans (c4.keep (by simp))).trans (c6.keep (by simp))).trans (c8.keep (by simp))).trans (c10.keep (by simp))).trans (c13.keep (by simp))
  refine Each_ok fun pa ps H15 bpa bps k15 gps gpa gpa' => ⟨Pv.keep k15 (by simp; omega), ?_⟩
  have y15 := k15.size
  intro q1 q3 q5 q7 q9 q11
  refine Rg_i fun r H20 hr k20 s20 hD hlp => ?_
  -- what stays, and the four cells that are written
  have hst : ∀ {A B : Hp} {G : List Nat}, (Bk A b1 3 [.int .i64 a2] ∧ Keep H A) → Ch G A B → (∀ k ∈ G, k ≠ b1 ∧ H.size ≤ k) → (Bk B b1 3 [.int .i64 a2] ∧ Keep H B) := fun {A B G} h c hG =>
    ⟨h.1.ch c fun hh => (hG _ hh).1 rfl, (h.2.ch (F := [])).trans c (fun k hk => .inr (hG k hk).2) |>.keep (by simp)⟩
  refine Each_seq (by omega) hfl hl (bpa.keep k20) (bps.keep k20) _ _ (fun i G A => (Bk A b1 3 [.int .i64 a2] ∧ Keep H A) ∧ (∃ t, Lst A b9 t (l.take i) (H15.size + 2) ∧ G = (H15.size + 1) :: b3 :: b5 :: b7 :: b9 :: b11 :: fp t) ∧ (∃ v, Bk A b3 22 [v]) ∧ (∃ v, Bk A b5 3 [v]) ∧ (∃ v, Bk A b7 32 [v]) ∧ Bk A b11 3 [.int .i64 (lastN (l.take i))] ∧ Lp A (H15.size + 1) r ∧ Dfr [H15.size] A ∧ (i : Int) ≤ max a2 0)
    (fun A => (Bk A b1 3 [.int .i64 a2] ∧ Keep H A) ∧ Bk A b3 22 [.slice none 0 0] ∧ Bk A b5 3 [.int .i64 0] ∧ Bk A b7 32 [.int .i64 5] ∧ Lp A (H15.size + 1) (dn r .ret) ∧ Dfr [H15.size] A ∧ a2 < l.length)
    [H15.size + 1, b3, b5, b7, b9, b11] ?_ ?_ ?_ ?_ ?_ ?_ ?_
  · intro k hk
    simp at hk ⊢
    omega
  · exact ⟨⟨q1.keep k20, (k13.trans k15).trans k20⟩, ⟨⟨none, 0, 0⟩, ⟨q9.keep k20, Own.nil _ _ _, by simp [fp], by omega⟩, by simp [fp]⟩, ⟨_, q3.keep k20⟩, ⟨_, q5.keep k20⟩, ⟨_, q7.keep k20⟩, q11.keep k20, hlp, ⟨hD, by simp, trivial⟩, by omega⟩
  · rintro i G A B ⟨p1, ⟨t, p2, p3⟩, ⟨v4, p4⟩, ⟨v5, p5⟩, ⟨v6, p6⟩, p7, p8, p9, p10⟩ k
    exact ⟨⟨p1.1.keep k, p1.2.trans k⟩, ⟨t, p2.keep k, p3⟩, ⟨v4, p4.keep k⟩, ⟨v5, p5.keep k⟩, ⟨v6, p6.keep k⟩, p7.keep k, p8.kp k, p9.keep k, p10⟩
  · rintro i G A ⟨p1, ⟨t, p2, rfl⟩, ⟨v4, p4⟩, ⟨v5, p5⟩, ⟨v6, p6⟩, p7, p8, p9, p10⟩ k hk
    have z4 := p4.lt
    have z5 := p5.lt
    have z6 := p6.lt
    have z7 := p7.lt
    have z8 := p8.lt
    have z2 := p2.bk.lt
    simp only [List.mem_cons] at hk
    rcases hk with rfl | rfl | rfl | rfl | rfl | rfl | hk
    · exact z8
    · exact z4
    · exact z5
    · exact z6
    · exact z2
    · exact z7
    · exact p2.ow.fp_lt k hk
  · rintro i G x A K hx ⟨p1, ⟨t, p2, rfl⟩, ⟨v4, p4⟩, ⟨v5, p5⟩, ⟨v6, p6⟩, p7, p8, p9, p10⟩ hT hZ
    have hil := (List.getElem?_eq_some_iff.1 hx).1
    have z8 := p8.lt
    refine ⟨p8, ?_⟩
    intro b26 H28 c28 g28 g28'
    have k28 : Keep A H28 := c28.keep (by simp)
    refine ⟨p8.kp k28, Up_s (p8.kp k28) fun H29 s29 l29 => ⟨fun j hj => s29.block j (by simp at hj; omega), ?_⟩⟩
    have y28 := k28.size
    have y29 := s29.size
    have hne : ∀ b, b < H15.size → b ∉ [H15.size + 1] := fun b hb => by simp; omega
    have m1 := hst ⟨p1.1.keep k28, p1.2.trans k28⟩ s29.ch (by simp; omega)
    have m2 := (p2.keep k28).ch s29.ch (hne _ (by omega)) (fun k hk => by have := p2.lo k hk; simp; omega)
    have m4 := (p4.keep k28).ch s29.ch (hne _ (by omega))
    have m5 := (p5.keep k28).ch s29.ch (hne _ (by omega))
    have m6 := (p6.keep k28).ch s29.ch (hne _ (by omega))
    have m7 := (p7.keep k28).ch s29.ch (hne _ (by omega))
    have m9 : Dfr [H15.size] H29 := Dfr.ch s29.ch (p9.keep k28) (by simp)
    have c29 : Ch ((H15.size + 1) :: b3 :: b5 :: b7 :: b9 :: b11 :: fp t) A H29 := (k28.ch (F := _)).trans s29.ch (by simp)
    have tn : t.n = i := by have := m2.view.n; simp at this; omega
    refine ldL_i m2.bk rfl (ldI_i m1.1 rfl ?_)
    rw [tn]
    by_cases he : a2 ≤ (i : Int)
    · refine ite_t (dect he) (st_i m4 (by simp) fun H35 b35 s35 => st_i (m5.same s35 (by omega)) (by simp) fun H36 b36 s36 => st_i ((m6.same s35 (by omega)).same s36 (by omega)) (by simp) fun H37 b37 s37 => ?_)
      have l37 := ((l29.ch s35.ch (by simp; omega)).ch s36.ch (by simp; omega)).ch s37.ch (by simp; omega)
      have d37 := ((m9.ch s35.ch (by simp; omega)).ch s36.ch (by simp; omega)).ch s37.ch (by simp; omega)
      have n1 := hst (hst (hst m1 s35.ch (by simp; omega)) s36.ch (by simp; omega)) s37.ch (by simp; omega)
      refine ⟨l37, hZ _ ⟨hst n1 putL_same.ch (by simp; omega), ((b35.same s36 (by omega)).same s37 (by omega)).same putL_same (by omega), (b36.same s37 (by omega)).same putL_same (by omega), b37.same putL_same (by omega), putL_lp l37, Dfr.ch putL_same.ch d37 (by simp), by omega⟩ ?_⟩
      exact (((c29.trans s35.ch (by simp)).trans s36.ch (by simp)).trans s37.ch (by simp)).trans putL_same.ch (by simp)
    · refine ite_f (decf he) (ldL_i m2.bk rfl ?_)
      have m2' := m2
      have hpv : ∀ {X Y : Hp} {G : List Nat}, Ch G X Y → (∀ k ∈ G, k ≠ b26) → b26 < X.size → Pv [b26] X Y := fun {X Y G} c hG hb j hj => c.block j (by simp at hj; omega) fun hh => hG j hh (by simpa using hj)
      -- appended with the marks told in between
      refine nw_i fun H41 b41 k41 z41 => ⟨hpv (k41.ch (F := [])) (by simp) (by omega), ?_⟩
      refine apS_list (ys := [x]) (f := cP) ((m2.ow).ch (k41.ch (F := [])) (by simp)) cP_len cP_ones rfl (by omega) rfl (by simp; omega) (by omega) fun t' H47 o47 c47 f47 => ⟨hpv c47 (fun k hk hh => by have := m2.lo k hk; subst hh; have := p2.ow.fp_lt k hk; omega) (by omega), ?_⟩
      have y41 := k41.size
      have y47 := c47.size
      have n2 := (m2.bk.keep k41).ch c47 (fun hh => by have := m2.lo _ hh; omega)
      refine st_i n2 (by simp) fun H49 b49 s49 => ⟨hpv s49.ch (by simp; omega) (by omega), ?_⟩
      have ft : ∀ k ∈ fp t, b11 < k ∧ k ≠ H15.size ∧ k ≠ H15.size + 1 ∧ k ≠ b1 ∧ k ≠ b3 ∧ k ≠ b5 ∧ k ≠ b7 ∧ k ≠ b9 ∧ H.size ≤ k := fun k hk => by have := m2.lo k hk; omega
      have mv : ∀ {b : Nat} {T : TypeId} {cs : List Value}, Bk H29 b T cs → b < H15.size → b ≠ b9 → Bk H49 b T cs := fun {b T cs} h1 h2 h3 => ((h1.keep k41).ch c47 (fun hh => by have := m2.lo _ hh; omega)).same s49 h3
      have n7 := mv m7 (by omega) (by omega)
      refine st_i n7 (by simp) fun H51 b51 s51 => ?_
      have l51 : Lp H51 (H15.size + 1) (bsy r) := (((l29.kp k41).ch c47 (fun hh => (ft _ hh).2.2.1 rfl)).ch s49.ch (by simp; omega)).ch s51.ch (by simp; omega)
      have d51 : Dfr [H15.size] H51 := Dfr.ch s51.ch (Dfr.ch s49.ch (Dfr.ch c47 (m9.keep k41) (by simp; exact fun hh => (ft _ hh).2.1 rfl)) (by simp; omega)) (by simp; omega)
      have n1 : Bk H51 b1 3 [.int .i64 a2] ∧ Keep H H51 := hst (hst (hst (hst m1 (k41.ch (F := [])) (by simp)) c47 fun k hk => ⟨(ft k hk).2.2.2.1, (ft k hk).2.2.2.2.2.2.2.2⟩) s49.ch (by simp; omega)) s51.ch (by simp; omega)
      have lo' : ∀ k ∈ fp t', H15.size + 2 ≤ k := fun k hk => by
        rcases f47 k hk with h | h
        · exact m2.lo k h
        · omega
      have o51 : Own H51 29 4 t' ((l.take (i + 1)).flatMap cP) := by
        rw [take_snoc' hx]
        exact (o47.ch s49.ch (ni fun hh => by have := lo' _ hh; omega)).ch s51.ch (ni fun hh => by have := lo' _ hh; omega)
      refine ⟨l51, hT ((H15.size + 1) :: b3 :: b5 :: b7 :: b9 :: b11 :: fp t') _ ⟨hst n1 putL_same.ch (by simp; omega), ⟨t', ⟨(b49.same s51 (by omega)).same putL_same (by omega), o51.ch putL_same.ch (ni fun hh => by have := lo' _ hh; omega), lo', by omega⟩, rfl⟩, ⟨v4, ((mv m4 (by omega) (by omega)).same s51 (by omega)).same putL_same (by omega)⟩, ⟨v5, ((mv m5 (by omega) (by omega)).same s51 (by omega)).same putL_same (by omega)⟩, ⟨v6, ((mv m6 (by omega) (by omega)).same s51 (by omega)).same putL_same (by omega)⟩, ?_, putL_lp l51, Dfr.ch putL_same.ch d51 (by simp), by omega⟩ ?_ ?_⟩
      · rw [lastN_take hx]
        exact b51.same putL_same (by omega)
      · have e1 := (c29.trans (k41.ch (F := [])) (by simp)).trans c47 fun k hk => .inl (by simp [hk])
        exact ((e1.trans s49.ch (by simp)).trans s51.ch (by simp)).trans putL_same.ch (by simp)
      · intro k hk
        simp only [List.mem_cons] at hk ⊢
        rcases hk with h | h | h | h | h | h | h
        · exact .inl (.inl h)
        · exact .inl (.inr (.inl h))
        · exact .inl (.inr (.inr (.inl h)))
        · exact .inl (.inr (.inr (.inr (.inl h))))
        · exact .inl (.inr (.inr (.inr (.inr (.inl h)))))
        · exact .inl (.inr (.inr (.inr (.inr (.inr (.inl h))))))
        · rcases f47 k h with h | h
          · exact .inl (.inr (.inr (.inr (.inr (.inr (.inr h))))))
          · exact .inr (by omega)
  · rintro G A ⟨p1, ⟨t, p2, rfl⟩, ⟨v4, p4⟩, ⟨v5, p5⟩, ⟨v6, p6⟩, p7, p8, p9, p10⟩
    have z8 := p8.lt
    rw [List.take_of_length_le (Nat.le_refl _)] at p2 p7
    refine .inl ⟨p8, Up_s p8 fun H53 s53 _ => ?_⟩
    have hne : ∀ b, b < H15.size → b ∉ [H15.size + 1] := fun b hb => by simp; omega
    have m1 := hst p1 s53.ch (by simp; omega)
    have m2 := p2.ch s53.ch (hne _ (by omega)) (fun k hk => by have := p2.lo k hk; simp; omega)
    have m4 := p4.ch s53.ch (hne _ (by omega))
    have m5 := p5.ch s53.ch (hne _ (by omega))
    have m6 := p6.ch s53.ch (hne _ (by omega))
    have m7 := p7.ch s53.ch (hne _ (by omega))
    have m9 : Dfr [H15.size] H53 := Dfr.ch s53.ch p9 (by simp)
    refine ldL_i m2.bk rfl (ldI_i m7 rfl (st_i m4 (by simp) fun H59 b59 s59 => ⟨by rw [(m7.same s59 (by omega)).cell]; rfl, st_i (m5.same s59 (by omega)) (by simp) fun H61 b61 s61 => st_i ((m6.same s59 (by omega)).same s61 (by omega)) (by simp) fun H62 b62 s62 => ?_⟩))
    have d62 : Dfr [H15.size] H62 := ((m9.ch s59.ch (by simp; omega)).ch s61.ch (by simp; omega)).ch s62.ch (by simp; omega)
    have lo := m2.lo
    have o62 := ((m2.ow.ch s59.ch (ni fun hh => by have := lo _ hh; omega)).ch s61.ch (ni fun hh => by have := lo _ hh; omega)).ch s62.ch (ni fun hh => by have := lo _ hh; omega)
    have n1 := hst (hst (hst m1 s59.ch (by simp; omega)) s61.ch (by simp; omega)) s62.ch (by simp; omega)
    refine tkD_ok d62 fun H63 c63 _ => ?_
    have n63 := hst n1 c63 (by simp; omega)
    have hnd : ∀ b, b < H15.size → b ∉ [H15.size] := fun b hb => by simp; omega
    refine ldL_i (((b59.same s61 (by omega)).same s62 (by omega)).ch c63 (hnd _ (by omega))) rfl (ldI_i ((b61.same s62 (by omega)).ch c63 (hnd _ (by omega))) rfl (ldI_i (b62.ch c63 (hnd _ (by omega))) rfl ?_))
    refine h1 (by omega) t H63 (o62.ch c63 fun k hk => by have := lo k hk; simp; omega) n63.2 fun k hk => by have := lo k hk; omega
  · rintro A ⟨p1, p3, p5, p7, p8, p9, p10⟩
    have z8 := p8.lt
    refine .inr ⟨p8, Up_s p8 fun H70 s70 _ => tkD_ok (Dfr.ch s70.ch p9 (by simp)) fun H71 c71 _ => ?_⟩
    have hnd : ∀ b, b < H15.size → b ∉ [H15.size] := fun b hb => by simp; omega
    have n1 := hst (hst p1 s70.ch (by simp; omega)) c71 (by simp; omega)
    refine ldL_i ((p3.same s70 (by omega)).ch c71 (hnd _ (by omega))) (v := ⟨none, 0, 0⟩) rfl (ldI_i ((p5.same s70 (by omega)).ch c71 (hnd _ (by omega))) rfl (ldI_i ((p7.same s70 (by omega)).ch c71 (hnd _ (by omega))) rfl ?_))
    exact h0 p10 _ n1.2
end Go.Proofs.Ytdcjjoihlnjpnaa.G
