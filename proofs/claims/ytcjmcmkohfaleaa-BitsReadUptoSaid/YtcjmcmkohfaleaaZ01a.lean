/- Layer 1: BitsWrite. -/
import Derived.Test.YtcjmcmkohfaleaaZ01
namespace Go.Proofs.Ytcjmcmkohfaleaa.G
open Go.RowKit
set_option linter.unusedVariables false
set_option linter.unusedSimpArgs false

abbrev Act1 := Int × Int × Int
def cA (x : Act1) : List Value := c29 x.1 x.2.1 x.2.2
theorem acts_view {H : Hp} {m : Option Nat} {s : Sl} (h : SlH H m 24 3 (X29 m H) s) : ∃ xs : List Act1, SlV H s 3 cA xs ∧ (s.c = 0 ∨ szL m 24 s.c) := by
  obtain ⟨xs, h1, _, h2⟩ := h.view (f := cA) (B := fun _ => True) fun cs ⟨a, b, c, e, _⟩ => ⟨(a, b, c), e, trivial⟩
  exact ⟨xs, h1, h2⟩
theorem Two.new {H : Hp} {k r : Nat} (hs : Snk H k ⟨none, 0, 0⟩ []) (hr : Rsn H r ⟨none, 0, 0⟩ []) (hne : k ≠ r) : Two H [k, r] k r [] :=
  ⟨_, _, hs, hr, fun b hb => by simp [fp] at hb ⊢; omega, fun b => by simp [fp]⟩
theorem Two.rest {H : Hp} {F : List Nat} {k r : Nat} {l : List Bool} (h : Two H F k r l) : ∃ s t, Snk H k s l ∧ Rsn H r t l := by
  obtain ⟨s, t, h1, h2, _⟩ := h
  exact ⟨s, t, h1, h2⟩
theorem BitsWrite_row (a0 a1 : Sl) (W : World) (h0 : SlH W.heap none 24 3 (X29 none W.heap) a0) (h1 : SlH W.heap none 24 3 (X29 none W.heap) a1) :
    mosaiclaw01_BitsWrite.s a0 a1 W.heap (fun r H' => r = true ∧ Keep W.heap H') := by
  obtain ⟨xs, v0, z0⟩ := acts_view h0
  obtain ⟨ys, v1, z1⟩ := acts_view h1
  have n0 := v0.n
  have n1 := v1.n
  have c0 := v0.c
  have c1 := v1.c
  have b0 : a0.n * 24 ≤ 140737488355328 := by
    rcases z0 with z | z
    · omega
    · have : a0.c * 24 ≤ 140737488351232 := z
      omega
  have b1 : a1.n * 24 ≤ 140737488355328 := by
    rcases z1 with z | z
    · omega
    · have : a1.c * 24 ≤ 140737488351232 := z
      omega
  have f0 : ∀ {H' : Hp}, Keep W.heap H' → SlV H' a0 3 cA xs := fun k => v0.keep k
  have f1 : ∀ {H' : Hp}, Keep W.heap H' → SlV H' a1 3 cA ys := fun k => v1.keep k
  unfold mosaiclaw01_BitsWrite.s
  refine bits_New_ok fun k H2 S2 k2 g2 => bits_New_ok fun l H4 S4 k4 g4 => Join.intro (fun b H' => b = false ∧ H4 = H') ?_ ?_
  rotate_left
  · exact fun J hJ => ite_f rfl (hJ _ _ ⟨rfl, rfl⟩)
  rintro _ _ ⟨rfl, rfl⟩
  refine ite_f rfl (rNew_ok fun r H9 S9 k9 g9 => rNew_ok fun u H11 S11 k11 g11 => ?_)
  have e2 := S2.lts k (by simp)
  have e4 := S4.lts l (by simp)
  have e9 := S9.lts r (by simp)
  have e11 := S11.lts u (by simp)
  have q2 := k2.size
  have q4 := k4.size
  have q9 := k9.size
  have q11 := k11.size
  have T1 : Two H11 [k, r] k r [] := Two.new (S2.ch (((k4.trans k9).trans k11).ch (F := [])) (by simp)) (S9.ch (k11.ch (F := [])) (by simp)) (by omega)
  have T2 : Two H11 [l, u] l u [] := Two.new (S4.ch ((k9.trans k11).ch (F := [])) (by simp)) S11 (by omega)
  have kW : Keep W.heap H11 := ((k2.trans k4).trans k9).trans k11
  refine Fix.intro (fun (x : Int) H' => ∃ (i : Nat) (A B : List Nat) (la lb : List Bool), x = (i : Int) ∧ i ≤ max a0.n a1.n ∧ Two H' A k r la ∧ Two H' B l u lb ∧ Dis A B ∧ (∀ b ∈ A, W.heap.size ≤ b) ∧ (∀ b ∈ B, W.heap.size ≤ b) ∧ Keep W.heap H' ∧ la.length ≤ 16 * min i a0.n ∧ lb.length ≤ 16 * min i a1.n)
    (fun x _ => max a0.n a1.n - x.toNat) ⟨0, _, _, _, _, rfl, by omega, T1, T2, fun b hb => by simp at hb ⊢; omega, fun b hb => by simp at hb; omega, fun b hb => by simp at hb; omega, kW, by simp, by simp⟩ ?_
  rintro _ H15 ⟨i, A, B, la, lb, rfl, hi, TA, TB, dAB, gA, gB, kk, la1, lb1⟩ rec hrec
  refine Join.intro (fun b H' => b = decide (i < a0.n ∨ i < a1.n) ∧ H15 = H') ?_ ?_
  rotate_left
  · intro J hJ
    by_cases h : i < a0.n
    · exact ite_t (dect (by omega)) (hJ _ _ ⟨(dect (.inl h)).symm, rfl⟩)
    · exact ite_f (decf (by omega)) (hJ _ _ ⟨by simp [h], rfl⟩)
  rintro _ _ ⟨rfl, rfl⟩
  by_cases hlt : i < a0.n ∨ i < a1.n
  · refine ite_t (dect hlt) (Join.intro (fun _ H' => ∃ (A B : List Nat) (la lb : List Bool), Two H' A k r la ∧ Two H' B l u lb ∧ Dis A B ∧ (∀ b ∈ A, W.heap.size ≤ b) ∧ (∀ b ∈ B, W.heap.size ≤ b) ∧ Keep W.heap H' ∧ la.length ≤ 16 * min (i + 1) a0.n ∧ lb.length ≤ 16 * min (i + 1) a1.n) ?_ ?_)
    · rintro ⟨⟩ H23 ⟨A', B', la', lb', a, b, c, d, e, f, g, hh⟩
      rw [show (i : Int) + 1 = ((i + 1 : Nat) : Int) from by omega, w64n (by omega)]
      exact hrec _ _ ⟨i + 1, A', B', la', lb', rfl, by omega, a, b, c, d, e, f, g, hh⟩ (by simp; omega)
    · intro J hJ
      refine Join.intro (fun _ H' => ∃ (A : List Nat) (la : List Bool), Two H' A k r la ∧ Two H' B l u lb ∧ Dis A B ∧ (∀ b ∈ A, W.heap.size ≤ b) ∧ Keep W.heap H' ∧ la.length ≤ 16 * min (i + 1) a0.n) ?_ ?_
      · rintro ⟨⟩ H26 ⟨A', la', TA', TB', d', gA', k', hla⟩
        by_cases h : i < a1.n
        · obtain ⟨b, o, ha, hA⟩ := (f1 k').get (List.getElem?_eq_getElem (show i < ys.length by omega))
          refine ite_t (dect (by omega)) ⟨by omega, by omega, _, ha, _, _, _, hA, write_ok TB' (by omega) fun H36 B' lb' q1 q2 q3 q4 => ite_f rfl (hJ _ _ ?_)⟩
          have lts := TA'.lts
          refine ⟨A', B', la', lb', TA'.ch q2 d', q1, (d'.symm.step lts q3).symm, gA', fun b hb => ?_, ?_, hla, by omega⟩
          · have := k'.size
            rcases q3 b hb with h | h
            · exact gB b h
            · omega
          · exact ((k'.ch (F := [])).trans q2 fun b hb => .inr (gB b hb)).keep (by simp)
        · exact ite_f (decf (by omega)) (hJ _ _ ⟨A', B, la', lb, TA', TB', d', gA', gB, k', hla, by omega⟩)
      · intro J2 hJ2
        by_cases h : i < a0.n
        · obtain ⟨b, o, ha, hA⟩ := (f0 kk).get (List.getElem?_eq_getElem (show i < xs.length by omega))
          refine ite_t (dect (by omega)) ⟨by omega, by omega, _, ha, _, _, _, hA, write_ok TA (by omega) fun H36 A' la' q1 q2 q3 q4 => ite_f rfl (hJ2 _ _ ?_)⟩
          have lts := TB.lts
          refine ⟨A', la', q1, TB.ch q2 dAB.symm, dAB.step lts q3, fun b hb => ?_, ?_, by omega⟩
          · have := kk.size
            rcases q3 b hb with h | h
            · exact gA b h
            · omega
          · exact ((kk.ch (F := [])).trans q2 fun b hb => .inr (gA b hb)).keep (by simp)
        · exact ite_f (decf (by omega)) (hJ2 _ _ ⟨A, la, TA, TB, dAB, gA, kk, by omega⟩)
  · refine ite_f (decf hlt) ?_
    obtain ⟨s1, t1, p1, r1⟩ := TA.rest
    obtain ⟨s2, t2, p2, r2⟩ := TB.rest
    have la2 : la.length ≤ 140737488355000 := by omega
    have lb2 : lb.length ≤ 140737488355000 := by omega
    refine Len_ok p1 (by omega) (rLen_ok r1 (ite_t (beqi rfl) (Len_ok p2 (by omega) (rLen_ok r2 (ite_t (beqi rfl) ?_)))))
    refine Text_ok p1 (by omega) fun H56 k56 => rText_ok (r1.ch (k56.ch (F := [])) (by simp)) (by omega) fun H58 k58 => ite_t (beq_self_eq_true _) ?_
    have kx := k56.trans k58
    refine Text_ok (p2.ch (kx.ch (F := [])) (by simp)) (by omega) fun H60 k60 => rText_ok (r2.ch ((kx.trans k60).ch (F := [])) (by simp)) (by omega) fun H62 k62 => ⟨beq_self_eq_true _, ((kk.trans kx).trans k60).trans k62⟩
end Go.Proofs.Ytcjmcmkohfaleaa.G
