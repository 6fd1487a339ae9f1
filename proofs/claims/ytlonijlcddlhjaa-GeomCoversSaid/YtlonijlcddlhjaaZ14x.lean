/- Layer 14: Walk; the example of the chapter. -/
import Derived.Test.YtlonijlcddlhjaaZ14w
import Derived.Test.YtlonijlcddlhjaaKmosaiclaw14
namespace Go.Proofs.Ytlonijlcddlhjaa.G
open Go.RowKit
set_option linter.unusedVariables false
set_option linter.unusedSimpArgs false

def wF0 (first : Int) : Int := if first < 0 then 0 else first
def wU0 (units : Int) : Int := if units < 0 then 0 else units
/-- So many units at most, from wF0 on. -/
def wU (first units : Int) : Int := if first < 0 then wU0 units + (if first < 0 - wU0 units then 0 - wU0 units else first) else wU0 units
def wFst (first T : Int) : Int := if T < wF0 first then T else wF0 first
def wEnd (first units T : Int) : Int := wFst first T + (if T - wFst first T < wU first units then T - wFst first T else wU first units)
theorem wU_le {first units : Int} (h1 : -9223372036854775808 ≤ first ∧ first ≤ 9223372036854775807) (h2 : -9223372036854775808 ≤ units ∧ units ≤ 9223372036854775807) : 0 ≤ wU0 units ∧ wU0 units ≤ 9223372036854775807 ∧ 0 ≤ wU first units ∧ wU first units ≤ 9223372036854775807 ∧ 0 ≤ wF0 first ∧ wF0 first ≤ 9223372036854775807 := by
  unfold wU wU0 wF0
  split <;> split <;> (try split) <;> omega
theorem wE_le {first units T : Int} (hT : 0 ≤ T) (hU : 0 ≤ wU first units) (hF : 0 ≤ wF0 first) : 0 ≤ wFst first T ∧ wFst first T ≤ T ∧ wFst first T ≤ wEnd first units T ∧ wEnd first units T ≤ T := by
  unfold wEnd wFst
  split <;> split <;> omega
/-- A unit is one of these. -/
theorem wE_iff {first units T : Int} {u : Int} (hT : 0 ≤ T) (hu : 0 ≤ u ∧ u < T) : (wFst first T ≤ u ∧ u < wEnd first units T) ↔ (0 < units ∧ first ≤ u ∧ (0 ≤ first ∧ u - first < units ∨ first < 0 ∧ u < units + first)) := by
  have e0 : wF0 first = if first < 0 then 0 else first := rfl
  have e1 : wU0 units = if units < 0 then 0 else units := rfl
  have e2 : wU first units = if first < 0 then wU0 units + (if first < 0 - wU0 units then 0 - wU0 units else first) else wU0 units := rfl
  have e3 : wFst first T = if T < wF0 first then T else wF0 first := rfl
  have e4 : wEnd first units T = wFst first T + (if T - wFst first T < wU first units then T - wFst first T else wU first units) := rfl
  by_cases a : first < 0
  · rw [if_pos a] at e0 e2
    by_cases b : units < 0
    · rw [if_pos b] at e1
      split at e2 <;> split at e3 <;> split at e4 <;> omega
    · rw [if_neg b] at e1
      split at e2 <;> split at e3 <;> split at e4 <;> omega
  · rw [if_neg a] at e0 e2
    by_cases b : units < 0
    · rw [if_pos b] at e1
      split at e3 <;> split at e4 <;> omega
    · rw [if_neg b] at e1
      split at e3 <;> split at e4 <;> omega
section
variable {w h g : Int} {s t : Sl} {cs : List Cp} {ps : List Pa} {H : Hp}
theorem Walk_ok {first units : Int} {Q : (Addr × Addr × Addr × Addr × Addr) → Hp → Prop} (hs : Cs H s cs) (hok : ∀ c ∈ cs, c.ok) (hl : cs.length * 4 ≤ 140737488355328) (ht : Ps H t ps) (hpk : ∀ p ∈ ps, p.ok) (hm : ps.length * 16 ≤ 140737488355328)
    (h1 : -9223372036854775808 ≤ first ∧ first ≤ 9223372036854775807) (h2 : -9223372036854775808 ≤ units ∧ units ≤ 9223372036854775807)
    (hQ : ∀ b5 b40 b1 b3 b26 l m H', WB H' g w h l m cs ps b5 b40 b1 b3 b26 (wFst first ((Uni w h cs ps).1 * (Uni w h cs ps).2)).toNat (wEnd first units ((Uni w h cs ps).1 * (Uni w h cs ps).2)).toNat → Keep H H' →
      (∀ b ∈ b5 :: b40 :: b1 :: b3 :: b26 :: (fp l ++ fp m), H.size ≤ b) → Q (⟨b5, 0, none⟩, ⟨b40, 0, none⟩, ⟨b1, 0, none⟩, ⟨b3, 0, none⟩, ⟨b26, 0, none⟩) H') : geom_Walk.s g w h s t first units H Q := by
  obtain ⟨u0, u1, u2, u3, u4, u5⟩ := wU_le h1 h2
  obtain ⟨a0, a1⟩ := uni_area (w := w) (h := h) (cs := cs) (ps := ps)
  unfold geom_Walk.s
  intro b1 H2 c2 g1 g1' b3 H4 c4 g3 g3' b5 H6 c6 g5 g5'
  have k6 : Keep H H6 := ((c2.keep (by simp)).trans (c4.keep (by simp))).trans (c6.keep (by simp))
  have y2 := c2.size
  have y4 := c4.size
  have y6 := c6.size
  have d1 := (hs.keep k6).cells cC_len cC_ones
  refine ⟨cs.flatMap cC, d1.1, d1.2, apS_list (xs := []) (ys := cs) (Own.nil _ _ _) cC_len cC_ones rfl (by omega) hs.n (by simp; omega) (by omega) fun l8 H9 o9 c9 f9 => ?_⟩
  have k9 : Keep H6 H9 := c9.keep (by simp [fp])
  have y9 := k9.size
  have f8 : ∀ b ∈ fp l8, H6.size ≤ b := fun b hb => by have := f9 b hb; simp [fp] at this; omega
  rw [List.nil_append] at o9
  refine ⟨Pv.keep k9 (by simp; omega), fun H14 c14 => ?_⟩
  have y14 := c14.size
  have k14 : Keep H H14 := ((k6.trans k9).ch (F := [])).trans c14 (by simp; omega) |>.keep (by simp)
  have o14 := o9.ch c14 fun b hb => by have := f8 b hb; simp; omega
  have d2 := (ht.keep k14).cells cP_len cP_ones
  refine ⟨ps.flatMap cP, d2.1, d2.2, apS_list (xs := []) (ys := ps) (Own.nil _ _ _) cP_len cP_ones rfl (by omega) ht.n (by simp; omega) (by omega) fun l16 H17 o17 c17 f17 => ?_⟩
  have k17 : Keep H14 H17 := c17.keep (by simp [fp])
  have y17 := k17.size
  have f16 : ∀ b ∈ fp l16, H14.size ≤ b := fun b hb => by have := f17 b hb; simp [fp] at this; omega
  rw [List.nil_append] at o17
  refine ⟨Pv.keep k17 (by simp; omega), fun H22 c22 => ?_⟩
  have y22 := c22.size
  have k22 : Keep H H22 := ((k14.trans k17).ch (F := [])).trans c22 (by simp; omega) |>.keep (by simp)
  have o22 := (o14.ch (k17.ch (F := [])) (by simp)).ch c22 fun b hb => by have := f8 b hb; simp; omega
  have p22 := o17.ch c22 fun b hb => by have := f16 b hb; simp; omega
  refine gUnits_ok (o22.view cC_len (by omega)) hok (by omega) (p22.view cP_len (by omega)) hpk fun H24 k24 => ⟨Pv.keep k24 (by simp; omega), ?_⟩
  have y24 := k24.size
  intro b26 H28 c28 g26 g26' hb5
  have k28 : Keep H22 H28 := k24.trans (c28.keep (by simp))
  have y28 := c28.size
  obtain ⟨r0, r1, r2, r3⟩ := wE_le (first := first) (units := units) a0 u2 u4
  generalize hT : (Uni w h cs ps).1 * (Uni w h cs ps).2 = T at *
  refine Join.intro (fun (x : Int) H' => x = wU first units ∧ Bk H' b5 3 [.int .i64 (wF0 first)] ∧ Ch [b5] H28 H') ?_ fun J hJ => ?_
  rotate_left
  · refine ldI_i hb5 rfl ?_
    by_cases hf : first < 0
    · refine ite_t (dect hf) (ldI_i hb5 rfl (Lt.of (st_i hb5 (by simp) fun H49 b49 s49 => ⟨Pv.ch s49.ch (by simp; omega), hJ _ _ ⟨?_, ?_, s49.ch⟩⟩)))
      · unfold wU wU0 at *
        rw [if_pos hf] at u2 u3 ⊢
        have e : IntKind.wrap .i64 (0 - (if units < 0 then 0 else units)) = 0 - (if units < 0 then 0 else units) := w64 (by omega)
        rw [e, w64 (by omega)]
      · unfold wF0
        rw [if_pos hf]
        exact b49
    · refine ite_f (decf hf) (hJ _ _ ⟨?_, ?_, Ch.refl _ _⟩)
      · unfold wU wU0
        rw [if_neg hf]
      · unfold wF0
        rw [if_neg hf]
        exact hb5
  rintro _ H31 ⟨rfl, b31, c31⟩
  have y31 := c31.size
  refine ldI_i b31 rfl (st_i b31 (by simp) fun H34 b34 s34 => ?_)
  have y34 := s34.size
  rw [w64 (x := T) (by omega)] at b34 ⊢
  have ef : (if T < wF0 first then T else wF0 first) = wFst first T := rfl
  rw [List.set_cons_zero, ef] at b34
  refine ⟨Pv.ch s34.ch (by simp; omega), ldI_i b34 rfl (ldI_i b34 rfl ?_)⟩
  intro b40 H42 c42 g40 g40' h40 q1 q3 q26
  have ee : IntKind.wrap .i64 (wFst first T + (if IntKind.wrap .i64 (T - wFst first T) < wU first units then IntKind.wrap .i64 (T - wFst first T) else wU first units)) = wEnd first units T := by
    rw [w64 (x := T - wFst first T) (by omega)]
    exact w64 (by show _ ≤ wEnd first units T ∧ wEnd first units T ≤ _; omega)
  rw [ee] at h40
  have c5 : Ch [b5] H28 H42 := (c31.same s34.ch).trans c42 (by simp)
  have kA : Keep H H42 := ((k22.trans k28).ch (F := [])).trans c5 (by simp; omega) |>.keep (by simp)
  have y42 := c42.size
  have oL := (o22.ch (k28.ch (F := [])) (by simp)).ch c5 fun b hb => by have := f8 b hb; simp; omega
  have oP := (p22.ch (k28.ch (F := [])) (by simp)).ch c5 fun b hb => by have := f16 b hb; simp; omega
  have b5' := b34.ch c42 (by simp)
  refine hQ b5 b40 b1 b3 b26 l8 l16 H42 ⟨?_, ?_, q1, q3, q26, oL.view cC_len (by omega), oP.view cP_len (by omega), fun b hb => ?_⟩ kA fun b hb => ?_
  · rw [show (((wFst first T).toNat : Nat) : Int) = wFst first T from Int.toNat_of_nonneg r0]
    exact b5'
  · rw [show (((wEnd first units T).toNat : Nat) : Int) = wEnd first units T from Int.toNat_of_nonneg (by omega)]
    exact h40
  · rcases List.mem_append.1 hb with hb | hb
    · exact oL.fp_lt b hb
    · exact oP.fp_lt b hb
  · rcases List.mem_cons.1 hb with rfl | hb
    · omega
    rcases List.mem_cons.1 hb with rfl | hb
    · omega
    rcases List.mem_cons.1 hb with rfl | hb
    · omega
    rcases List.mem_cons.1 hb with rfl | hb
    · omega
    rcases List.mem_cons.1 hb with rfl | hb
    · omega
    rcases List.mem_append.1 hb with hb | hb
    · have := f8 b hb; omega
    · have := f16 b hb; omega
end

/-! ### the example -/
def exC : List Cp := [⟨1, 2, 2, 0⟩, ⟨2, 1, 1, 0⟩, ⟨3, 1, 1, 0⟩]
def exP : List Pa := [⟨0, 0, 0⟩, ⟨1, 0, 0⟩, ⟨2, 0, 0⟩]
theorem exC_ok : ∀ c ∈ exC, c.ok := by simp [exC, Cp.ok]
theorem exP_ok : ∀ p ∈ exP, p.ok := by simp [exP, Pa.ok]
theorem exC_at {i : Nat} {c : Cp} (h : exC[i]? = some c) : (i = 0 ∧ c = ⟨1, 2, 2, 0⟩) ∨ (i = 1 ∧ c = ⟨2, 1, 1, 0⟩) ∨ (i = 2 ∧ c = ⟨3, 1, 1, 0⟩) := by
  match i with
  | 0 => simp [exC] at h; simp [h]
  | 1 => simp [exC] at h; simp [h]
  | 2 => simp [exC] at h; simp [h]
  | i + 3 => simp [exC] at h
theorem exChk : Chk 17 9 exC = 0 := by
  refine chk0 ?_ ?_ ?_ ?_
  · simp [Emp]
  · rintro (h | h | ⟨i, c, h1, h2⟩)
    · simp [exC] at h
    · simp [exC] at h
    · rcases h2 with h2 | ⟨k, d, hk, h2, h3⟩
      · rcases exC_at h1 with ⟨_, rfl⟩ | ⟨_, rfl⟩ | ⟨_, rfl⟩ <;> simp at h2
      · rcases exC_at h1 with ⟨rfl, rfl⟩ | ⟨rfl, rfl⟩ | ⟨rfl, rfl⟩ <;> rcases exC_at h2 with ⟨rfl, rfl⟩ | ⟨rfl, rfl⟩ | ⟨rfl, rfl⟩ <;> first | omega | simp at h3
  · rintro ⟨c, h1, h2⟩
    simp [exC] at h1
    rcases h1 with rfl | rfl | rfl <;> simp at h2
  · rintro ⟨c, h1, h2⟩
    have e1 : mxH exC = 2 := by decide
    have e2 : mxV exC = 2 := by decide
    rw [e1, e2] at h2
    simp [exC] at h1
    rcases h1 with rfl | rfl | rfl <;> revert h2 <;> decide
theorem exPrt : Prt 17 9 exC exP = 0 := by
  refine prt5 exChk (by simp [exP]) ?_ ?_
  · rintro ⟨i, p, h1, h2⟩
    have hp : (i = 0 ∧ p = ⟨0, 0, 0⟩) ∨ (i = 1 ∧ p = ⟨1, 0, 0⟩) ∨ (i = 2 ∧ p = ⟨2, 0, 0⟩) := by
      match i with
      | 0 => simp [exP] at h1; simp [h1]
      | 1 => simp [exP] at h1; simp [h1]
      | 2 => simp [exP] at h1; simp [h1]
      | i + 3 => simp [exP] at h1
    rcases h2 with h2 | h2 | ⟨j, q, rfl, h2, h3⟩ | h2 | h2
    · rcases hp with ⟨_, rfl⟩ | ⟨_, rfl⟩ | ⟨_, rfl⟩ <;> simp at h2
    · rcases hp with ⟨_, rfl⟩ | ⟨_, rfl⟩ | ⟨_, rfl⟩ <;> simp [exC] at h2
    · rcases hp with ⟨h, rfl⟩ | ⟨h, rfl⟩ | ⟨h, rfl⟩
      · omega
      · obtain rfl : j = 0 := by omega
        simp [exP] at h2; subst h2; simp at h3
      · obtain rfl : j = 1 := by omega
        simp [exP] at h2; subst h2; simp at h3
    · rcases hp with ⟨_, rfl⟩ | ⟨_, rfl⟩ | ⟨_, rfl⟩ <;> simp at h2
    · rcases hp with ⟨_, rfl⟩ | ⟨_, rfl⟩ | ⟨_, rfl⟩ <;> simp at h2
  · rintro ⟨_, h⟩
    revert h
    decide
theorem exUni : Uni 17 9 exC exP = (2, 1) := by
  unfold Uni
  rw [exPrt, if_neg (by simp), if_neg (by decide)]
  decide
theorem exWalk : walkL 17 9 exC exP 1 1 = [(0, 0, 2, 0, true), (0, 0, 3, 0, false), (0, 0, 2, 1, true), (0, 0, 3, 1, false), (1, 1, 1, 0, true), (2, 2, 1, 0, true)] := by
  have b0 : Blo 17 9 exC 0 = (3, 2) := by unfold Blo; rw [sam_at exChk (by omega) (show exC[(0 : Int).toNat]? = some ⟨1, 2, 2, 0⟩ from rfl)]; decide
  have b1 : Blo 17 9 exC 1 = (2, 1) := by unfold Blo; rw [sam_at exChk (by omega) (show exC[(1 : Int).toNat]? = some ⟨2, 1, 1, 0⟩ from rfl)]; decide
  have b2 : Blo 17 9 exC 2 = (2, 1) := by unfold Blo; rw [sam_at exChk (by omega) (show exC[(2 : Int).toNat]? = some ⟨3, 1, 1, 0⟩ from rfl)]; decide
  have e0 := partL_eq (w := 17) (h := 9) (col := 1) (row := 0) (show exP[0]? = some ⟨0, 0, 0⟩ from rfl) (show exC[(0 : Int).toNat]? = some ⟨1, 2, 2, 0⟩ from rfl)
  have e1 := partL_eq (w := 17) (h := 9) (col := 1) (row := 0) (show exP[1]? = some ⟨1, 0, 0⟩ from rfl) (show exC[(1 : Int).toNat]? = some ⟨2, 1, 1, 0⟩ from rfl)
  have e2 := partL_eq (w := 17) (h := 9) (col := 1) (row := 0) (show exP[2]? = some ⟨2, 0, 0⟩ from rfl) (show exC[(2 : Int).toNat]? = some ⟨3, 1, 1, 0⟩ from rfl)
  have r4 : List.range ((2 : Int) * 2).toNat = [0, 1, 2, 3] := rfl
  have r1 : List.range ((1 : Int) * 1).toNat = [0] := rfl
  have u : unitL 17 9 exC exP 1 0 = cat (partL 17 9 exC exP 1 0) 3 := by unfold unitL; rw [if_neg (by decide)]; rfl
  unfold walkL
  rw [cat, cat, List.nil_append, exUni]
  show unitL 17 9 exC exP (((1 + 0 : Nat) : Int) % 2) (((1 + 0 : Nat) : Int) / 2) = _
  rw [show (((1 + 0 : Nat) : Int) % 2) = 1 from rfl, show (((1 + 0 : Nat) : Int) / 2) = 0 from rfl, u, cat, cat, cat, cat, List.nil_append, e0, e1, e2, r4, r1]
  simp [spotAt, b0, b1, b2]
/-- How many of these are real. -/
def rl (L : List Sp) : Nat := L.countP fun x => x.2.2.2.2
theorem rl_snoc (L : List Sp) (x : Sp) : rl (L ++ [x]) = rl L + if x.2.2.2.2 = true then 1 else 0 := by
  unfold rl
  rw [List.countP_append, List.countP_cons, List.countP_nil, Nat.zero_add]
theorem cs_three {H : Hp} {b : Nat} {a d c : Cp} (hb : Bk H b 23 (cC a ++ cC d ++ cC c)) : Cs H ⟨some ⟨b, 0, none⟩, 3, 3⟩ [a, d, c] := by
  have : Own H 23 4 ⟨some ⟨b, 0, none⟩, 3, 3⟩ ([a, d, c].flatMap cC) := .inr ⟨b, [], rfl, by simpa using hb, rfl, rfl, Nat.le_refl _⟩
  exact this.view cC_len (by omega)
theorem ps_three {H : Hp} {b : Nat} {a d c : Pa} (hb : Bk H b 52 (cP a ++ cP d ++ cP c)) : Ps H ⟨some ⟨b, 0, none⟩, 3, 3⟩ [a, d, c] := by
  have : Own H 52 3 ⟨some ⟨b, 0, none⟩, 3, 3⟩ ([a, d, c].flatMap cP) := .inr ⟨b, [], rfl, by simpa using hb, rfl, rfl, Nat.le_refl _⟩
  exact this.view cP_len (by omega)
set_option maxHeartbeats 1000000 in
theorem alive_ok14 {H : Hp} {Q : Bool → Hp → Prop} (hQ : ∀ H', Keep H H' → Q true H') : mosaiclaw14_alive.s H Q := by
  unfold mosaiclaw14_alive.s mosaiclaw14_shared.s
  intro b1 H2 c2 g1 g1'
  have k2 : Keep H H2 := c2.keep (by simp)
  have y2 := k2.size
  refine nw_i fun H4 b4 k4 z4 => ⟨Pv.keep k4 (by simp; omega), fun H8 c8 => ?_⟩
  have y8 := c8.size
  have k8 : Keep H H8 := ((k2.trans k4).ch (F := [])).trans c8 (by simp; omega) |>.keep (by simp)
  have b8 := b4.ch c8 (by simp; omega)
  intro b3 H5 c5 g3 g3'
  have y5 := c5.size
  refine nw_i fun H7 b7 k7 z7 => ⟨Pv.keep k7 (by simp; omega), ?_⟩
  intro b11 H13 c13 g11 g11' b14 H16 c16 g14 g14'
  have y13 := c13.size
  have y16 := c16.size
  have k16 : Keep H8 H16 := (((c5.keep (by simp)).trans k7).trans (c13.keep (by simp))).trans (c16.keep (by simp))
  have hcs : Cs H16 ⟨some ⟨H2.size, 0, none⟩, 3, 3⟩ exC := cs_three (b8.keep k16)
  have hps : Ps H16 ⟨some ⟨H5.size, 0, none⟩, 3, 3⟩ exP := ps_three ((b7.keep (c13.keep (by simp))).keep (c16.keep (by simp)))
  refine Walk_ok hcs exC_ok (by simp [exC]) hps exP_ok (by simp [exP]) (by omega) (by omega) fun p5 p40 p1 p3 p26 l m H18 wb k18 lo => ?_
  have wf : wFst 1 ((Uni 17 9 exC exP).1 * (Uni 17 9 exC exP).2) = 1 := by rw [exUni]; rfl
  have we : wEnd 1 1 ((Uni 17 9 exC exP).1 * (Uni 17 9 exC exP).2) = 2 := by rw [exUni]; rfl
  rw [wf, we] at wb
  have y18 := k18.size
  refine ⟨Pv.keep k18 (by simp; omega), fun q3 q11 q14 => ?_⟩
  have kW : Keep H H18 := (k8.trans k16).trans k18
  have hcs18 := hcs.keep k18
  have hps18 := hps.keep k18
  refine Rg_i fun rr H23 hrr k23 z23 hD hl => ?_
  have sq := walk_seq (wb.keep k23) exC_ok (by decide) (by rw [exUni]; decide) (.func (.yield (H18.size + 1)) #[] #[])
  rw [show (2 : Int).toNat - (1 : Int).toNat = 1 from rfl, show (1 : Int).toNat = 1 from rfl, exWalk] at sq
  generalize hW : ([(0, 0, 2, 0, true), (0, 0, 3, 0, false), (0, 0, 2, 1, true), (0, 0, 3, 1, false), (1, 1, 1, 0, true), (2, 2, 1, 0, true)] : List Sp) = XS at sq
  have l3 := q3.lt
  refine sq _ _ (fun i G H' => G = [H18.size + 1, b11, b14] ∧ Bk H' b11 3 [.int .i64 (i : Int)] ∧ Bk H' b14 3 [.int .i64 (rl (XS.take i) : Int)] ∧ Bk H' b3 26 (c26 0 17 9 ⟨some ⟨H2.size, 0, none⟩, 3, 3⟩) ∧ Cs H' ⟨some ⟨H2.size, 0, none⟩, 3, 3⟩ exC ∧ Ps H' ⟨some ⟨H5.size, 0, none⟩, 3, 3⟩ exP ∧ Dfr [H18.size] H' ∧ Lp H' (H18.size + 1) rr ∧ Keep H H') (fun _ _ => False) [H18.size + 1, b11, b14] ?_ ?_ ?_ ?_ ?_ ?_ ?_ ?_
  · intro b hb hh
    have h1 := lo b hh
    have h2 := wb.lts b hh
    simp at hb; omega
  · exact ⟨rfl, q11.keep k23, q14.keep k23, q3.keep k23, hcs18.keep k23, hps18.keep k23, ⟨hD, by simp, trivial⟩, hl, kW.trans k23⟩
  · rintro i G A B F ⟨rfl, a1, a2, a3, a4, a5, a6, a7, a8⟩ kk hF
    have nF : ∀ {y}, y < H23.size → y ∉ F := fun {y} hy hh => by have := (hF y hh).1; omega
    exact ⟨rfl, a1.ch kk (nF (by omega)), a2.ch kk (nF (by omega)), a3.ch kk (nF (by omega)), a4.ch kk (fun b hb => by simp [fp] at hb; subst hb; exact nF (by omega)), a5.ch kk (fun b hb => by simp [fp] at hb; subst hb; exact nF (by omega)), Dfr.ch kk a6 (by simp; exact nF (by omega)), a7.ch kk (nF (by omega)),
      (a8.ch (F := [])).trans kk (fun b hb => .inr (by have := (hF b hb).1; have := kW.size; omega)) |>.keep (by simp)⟩
  · exact fun _ _ _ _ h => h.elim
  · rintro i G A ⟨rfl, a1, a2, a3, a4, a5, a6, a7, a8⟩ b hb
    have := a1.lt
    have := a2.lt
    have := a7.lt
    simp at hb; omega
  · rintro i G x H26 K hx ⟨rfl, a1, a2, a3, a4, a5, a6, a7, a8⟩ hT hF
    have hil := (List.getElem?_eq_some_iff.1 hx).1
    have l6 : XS.length = 6 := by rw [← hW]; rfl
    refine ⟨a7, ?_⟩
    intro b29 H31 c31 g29 g29'
    have k31 : Keep H26 H31 := c31.keep (by simp)
    have y31 := k31.size
    have l31 := a7.ch c31 (by simp)
    have zl := a7.lt
    have z1 := a1.lt
    have z2 := a2.lt
    refine ⟨l31, Up_s l31 fun H32 s32 l32 => ⟨Pv.ch s32.ch (by simp; omega), ?_⟩⟩
    have y32 := s32.size
    have p1 := (a1.keep k31).same s32 (by omega)
    have p2 := (a2.keep k31).same s32 (by omega)
    refine ldI_i p1 rfl (st_i p1 (by simp) fun H36 b36 s36 => ⟨Pv.ch s36.ch (by simp; omega), ?_⟩)
    have l36 := l32.ch s36.ch (by simp; omega)
    have p3 := p2.same s36 (by omega)
    rw [show (i : Int) + 1 = ((i + 1 : Nat) : Int) from by omega, w64 (by omega), List.set_cons_zero] at b36
    have fin : ∀ H', Bk H' b11 3 [.int .i64 ((i + 1 : Nat) : Int)] → Bk H' b14 3 [.int .i64 (rl (XS.take (i + 1)) : Int)] → Lp H' (H18.size + 1) (bsy rr) → Ch [H18.size + 1, b11, b14] H26 H' → K true (putL H' (H18.size + 1) rr) := fun H' e1 e2 e3 e4 => by
      have nF : ∀ {y}, y < b11 ∨ (b14 < y ∧ y < H18.size + 1) → y ∉ [H18.size + 1, b11, b14] := fun {y} hy hh => by simp at hh; omega
      have cc : Ch [H18.size + 1, b11, b14] H26 (putL H' (H18.size + 1) rr) := e4.trans putL_same.ch (by simp)
      refine hT _ _ ⟨rfl, e1.same putL_same (by omega), e2.same putL_same (by omega), a3.ch cc (nF (by omega)), a4.ch cc (fun b hb => by simp [fp] at hb; subst hb; exact nF (by omega)), a5.ch cc (fun b hb => by simp [fp] at hb; subst hb; exact nF (by omega)), Dfr.ch cc a6 (by simp; omega), putL_lp e3, ?_⟩ cc fun b hb => .inl hb
      exact (a8.ch (F := [])).trans cc (fun b hb => .inr (by simp at hb; omega)) |>.keep (by simp)
    have c36 : Ch [H18.size + 1, b11, b14] H26 H36 := ((k31.ch (F := [H18.size + 1, b11, b14])).trans s32.ch (by simp)).trans s36.ch (by simp)
    have tsn := take_next hx
    have hrl : rl (XS.take i) ≤ 6 := by have : rl (XS.take i) ≤ (XS.take i).length := List.countP_le_length; rw [List.length_take] at this; omega
    by_cases hr : x.2.2.2.2 = true
    · refine ite_t hr (ldI_i p3 rfl (st_i p3 (by simp) fun H40 b40 s40 => ⟨l36.ch s40.ch (by simp; omega), fin H40 (b36.same s40 (by omega)) ?_ (l36.ch s40.ch (by simp; omega)) (c36.trans s40.ch (by simp))⟩))
      rw [tsn, rl_snoc, if_pos hr]
      rw [show ((rl (XS.take i) : Nat) : Int) + 1 = ((rl (XS.take i) + 1 : Nat) : Int) from by omega, w64 (by omega)] at b40
      exact b40
    · refine ite_f (by simpa using hr) ⟨l36, fin H36 b36 ?_ l36 c36⟩
      rw [tsn, rl_snoc, if_neg hr, Nat.add_zero]
      exact p3
  · rintro G H27 ⟨rfl, a1, a2, a3, a4, a5, a6, a7, a8⟩
    refine ⟨a7, Up_s a7 fun H42 s42 l42 => ?_⟩
    have z1 := a1.lt
    have z2 := a2.lt
    have z3 := a3.lt
    have e3 := a3.same s42 (by omega)
    have e1 := a1.same s42 (by omega)
    have e2 := a2.same s42 (by omega)
    have e4 := a4.ch s42.ch (fun b hb => by simp [fp] at hb; subst hb; simp; omega)
    have e5 := a5.ch s42.ch (fun b hb => by simp [fp] at hb; subst hb; simp; omega)
    refine ⟨_, _, _, _, ldA_full e3, gUnits_ok e4 exC_ok (by simp [exC]) e5 exP_ok fun H49 k49 => ?_⟩
    rw [exUni]
    have d6 := (Dfr.ch s42.ch a6 (by simp) : Dfr [H18.size] H42).keep k49
    have kF : Keep H H49 := ((a8.ch (F := [])).trans s42.ch (fun b hb => .inr (by simp at hb; have := kW.size; omega)) |>.keep (by simp)).trans k49
    refine ldI_i (e1.keep k49) (by rw [← hW]; rfl) (ite_t (beqi rfl) (ldI_i (e2.keep k49) (by rw [← hW]; rfl) (ite_t (beqi rfl) (ite_t rfl (ite_t rfl ⟨_, _, _, _, ldA_full (e3.keep k49), gCheck_ok (e4.keep k49) exC_ok (by simp [exC]) fun H60 k60 => ?_⟩)))))
    rw [exChk]
    refine tkD_ok (d6.keep k60) fun H61 c61 z61 => hQ _ ?_
    exact ((kF.trans k60).ch (F := [])).trans c61 (fun b hb => .inr (by simp at hb; have := kW.size; omega)) |>.keep (by simp)
  · exact fun _ _ h => h.elim
end Go.Proofs.Ytlonijlcddlhjaa.G
