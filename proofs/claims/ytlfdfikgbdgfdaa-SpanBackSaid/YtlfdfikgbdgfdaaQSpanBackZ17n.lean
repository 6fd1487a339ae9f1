/- Of this text what the row needs. -/
import Derived.Test.YtlfdfikgbdgfdaaQSpanBackZ17e
import Derived.Test.YtlfdfikgbdgfdaaQSpanBackKmosaiclaw17
namespace Go.Proofs.Ytlfdfikgbdgfdaa.G
open Go.RowKit
set_option linter.unusedVariables false
set_option linter.unusedSimpArgs false
set_option maxRecDepth 20000
def eC : List Cp := [⟨1, 1, 1, 0⟩]
def eP : List Pa := [⟨0, 0, 0⟩]
theorem eC_ok : ∀ c ∈ eC, c.ok := by simp [eC, Cp.ok]
theorem eP_ok : ∀ p ∈ eP, p.ok := by simp [eP, Pa.ok]
theorem eC_at {i : Nat} {c : Cp} (h : eC[i]? = some c) : i = 0 ∧ c = ⟨1, 1, 1, 0⟩ := by
  match i with
  | 0 => simp [eC] at h; simp [h]
  | i + 1 => simp [eC] at h
theorem eChk : Chk 8 8 eC = 0 := by
  refine chk0 ?_ ?_ ?_ ?_
  · simp [Emp]
  · rintro (h | h | ⟨i, c, h1, h2⟩)
    · simp [eC] at h
    · simp [eC] at h
    · obtain ⟨rfl, rfl⟩ := eC_at h1
      rcases h2 with h2 | ⟨k, d, hk, h2, h3⟩
      · simp at h2
      · omega
  · rintro ⟨c, h1, h2⟩
    simp [eC] at h1
    subst h1
    simp at h2
  · rintro ⟨c, h1, h2⟩
    have e1 : mxH eC = 1 := by decide
    have e2 : mxV eC = 1 := by decide
    rw [e1, e2] at h2
    simp [eC] at h1
    subst h1
    revert h2
    decide
theorem ePrt : Prt 8 8 eC eP = 0 := by
  refine prt5 eChk (by simp [eP]) ?_ ?_
  · rintro ⟨i, p, h1, h2⟩
    have hp : i = 0 ∧ p = ⟨0, 0, 0⟩ := by
      match i with
      | 0 => simp [eP] at h1; simp [h1]
      | i + 1 => simp [eP] at h1
    obtain ⟨rfl, rfl⟩ := hp
    rcases h2 with h2 | h2 | ⟨j, q, h, h2, h3⟩ | h2 | h2
    · simp at h2
    · simp [eC] at h2
    · omega
    · simp at h2
    · simp at h2
  · rintro ⟨h, _⟩
    revert h
    decide
theorem eUni : 1 ≤ (Uni 8 8 eC eP).1 * (Uni 8 8 eC eP).2 := by
  obtain ⟨h1, h2⟩ := uni_pos ePrt
  exact Int.mul_pos (by omega) (by omega)
def eD : Cn := mkI (n := 16) [1, 1, 0, 0, 0, 0, 0, 0, 0, 0, 0, 0, 0, 0, 0, 0] (by rfl)
def eA : Cn := mkI (n := 16) [1, 0, 0, 0, 0, 0, 0, 0, 0, 0, 0, 0, 0, 0, 0, 0] (by rfl)
def tD : TB := (eD, [0, 3])
def tA : TB := (eA, [0])
theorem eD_ok : cOk eD := by
  show ∀ v ∈ [1, 1, 0, 0, 0, 0, 0, 0, 0, 0, 0, 0, 0, 0, 0, (0 : Int)], 0 ≤ v ∧ v ≤ 255
  decide
theorem eA_ok : cOk eA := by
  show ∀ v ∈ [1, 0, 0, 0, 0, 0, 0, 0, 0, 0, 0, 0, 0, 0, 0, (0 : Int)], 0 ≤ v ∧ v ≤ 255
  decide
theorem tD_chk : Chk4 eD [0, 3] = 0 := by
  have e1 : wN eD 16 = 2 := by decide
  have e2 : wS eD 16 = 49152 := by decide
  unfold Chk4
  rw [e1, e2, if_neg (by decide), if_neg (by decide), if_pos (by decide)]
theorem tA_chk : Chk4 eA [0] = 0 := by
  have e1 : wN eA 16 = 1 := by decide
  have e2 : wS eA 16 = 32768 := by decide
  unfold Chk4
  rw [e1, e2, if_neg (by decide), if_neg (by decide), if_pos (by decide)]
theorem tD_cds : cds (cnt eD) 16 = [(1, 0), (2, 2)] := by decide +kernel
theorem tA_cds : cds (cnt eA) 16 = [(1, 0)] := by decide +kernel
theorem tD_ok : TbOk tD := ⟨may4 tD_chk, by decide⟩
theorem tA_ok : TbOk tA := ⟨may4 tA_chk, by decide⟩
theorem tD_10 {r : List Bool} : rd4 tD.1 tD.2 ((true :: false :: r).take 16) = (3, 0, 2) :=
  rd4_hit tD_ok.may (i := 1) (v := 2) ⟨by show (cds (cnt eD) 16)[1]? = _; rw [tD_cds]; rfl, by simp, by rw [List.take_take]; rfl⟩ rfl
theorem tA_0 {r : List Bool} : rd4 tA.1 tA.2 ((false :: r).take 16) = (0, 0, 1) :=
  rd4_hit tA_ok.may (i := 0) (v := 0) ⟨by show (cds (cnt eA) 16)[0]? = _; rw [tA_cds]; rfl, by simp, by rw [List.take_take]; rfl⟩ rfl
theorem tA_1 : rd4 tA.1 tA.2 ([true, false, false].take 16) = (0, 43, 0) := by
  have hc : ∀ {i n v : Nat}, (cds (cnt tA.1) 16)[i]? = some (n, v) → n = 1 ∧ v = 0 := fun {i n v} h => by
    have h : (cds (cnt eA) 16)[i]? = some (n, v) := h
    rw [tA_cds] at h
    match i with
    | 0 => simp at h; omega
    | i + 1 => simp at h
  refine rd4_none ?_ ?_
  · rintro i n v ⟨h1, h2, h3⟩
    obtain ⟨rfl, rfl⟩ := hc h1
    revert h3; decide
  · rintro ⟨_, i, n, v, h1, h2, _⟩
    obtain ⟨rfl, rfl⟩ := hc h1
    revert h2; decide
theorem ex_b3 : rdb tD tA 0 [true, false, true, true, false, false, true, true] = (0, zB.set 0 6, [true, true], 6) := by
  unfold rdb
  rw [rdB_go (y := 3) (c := 2) (w := 3) (X' := zB.set 0 6) (n' := 1) (by decide) tD_10 rfl (by decide) (by decide)]
  show rdB tA 0 64 tA _ 1 [false, true, true] 5 = _
  rw [rdB_go (y := 0) (c := 1) (w := 0) (X' := zB.set 0 6) (n' := 64) (by decide) tA_0 rfl (by decide) (by rfl)]
  exact rdB_end
theorem ex_b4 : rdb tD tA 0 [true, false, true, true, false, true, false, false] = (4, zB.set 0 6, [true, false, false], 5) := by
  unfold rdb
  rw [rdB_go (y := 3) (c := 2) (w := 3) (X' := zB.set 0 6) (n' := 1) (by decide) tD_10 rfl (by decide) (by decide)]
  show rdB tA 0 64 tA _ 1 [true, false, false] 5 = _
  rw [rdB, if_neg (by decide), tA_1]
  dsimp only
  rw [if_neg (by decide), if_pos (by decide)]
theorem ex_80 : rdb tD tA 0 [true, false, false, false, false, false, false, false] = (0, zB.set 0 (-7), [false, false], 6) := by
  unfold rdb
  rw [rdB_go (y := 3) (c := 2) (w := 3) (X' := zB.set 0 (-7)) (n' := 1) (by decide) tD_10 rfl (by decide) (by decide)]
  show rdB tA 0 64 tA _ 1 [false, false, false] 5 = _
  rw [rdB_go (y := 0) (c := 1) (w := 0) (X' := zB.set 0 (-7)) (n' := 64) (by decide) tA_0 rfl (by decide) (by rfl)]
  exact rdB_end
def eJ (s t v w : Nat) : Jb := ⟨0, 8, 8, ⟨some ⟨s, 0, none⟩, 1, 1⟩, ⟨some ⟨t, 0, none⟩, 1, 1⟩, (eD, ⟨some ⟨v, 0, none⟩, 2, 2⟩), (zInts 16, ⟨none, 0, 0⟩), (zInts 16, ⟨none, 0, 0⟩), (zInts 16, ⟨none, 0, 0⟩), (eA, ⟨some ⟨w, 0, none⟩, 1, 1⟩), (zInts 16, ⟨none, 0, 0⟩), (zInts 16, ⟨none, 0, 0⟩), (zInts 16, ⟨none, 0, 0⟩), 0, 1⟩
def eT (k : Nat) : List Nat := if k = 0 then [0, 3] else if k = 4 then [0] else []
theorem zI_ok : cOk (zInts 16) := fun v hv => by
  have : v ∈ List.replicate 16 (0 : Int) := hv
  rw [List.mem_replicate] at this; omega
theorem e_tD {s t v w : Nat} : tbl (eJ s t v w) eT 0 = tD := rfl
theorem e_tA {s t v w : Nat} : tbl (eJ s t v w) eT 4 = tA := rfl
theorem e_rdE {s t v w : Nat} : rdE (eJ s t v w) eT eP = 0 := by
  show (if Chk4 (tbl (eJ s t v w) eT 0).1 (tbl (eJ s t v w) eT 0).2 ≠ 0 then _ else if Chk4 (tbl (eJ s t v w) eT 4).1 (tbl (eJ s t v w) eT 4).2 ≠ 0 then _ else (0 : Int)) = 0
  rw [e_tD, e_tA, if_neg (by show ¬ Chk4 eD [0, 3] ≠ 0; rw [tD_chk]; decide), if_neg (by show ¬ Chk4 eA [0] ≠ 0; rw [tA_chk]; decide)]
theorem e_chk {s t v w : Nat} : jChk (eJ s t v w) eC eP eT = 0 := by
  have h1 : Prt (eJ s t v w).w (eJ s t v w).h eC eP = 0 := ePrt
  have h2 := eUni
  unfold jChk
  rw [if_neg (by rw [h1]; decide), if_neg (by rw [e_rdE]; decide), if_neg]
  show ¬ ((0 : Int) < 0 ∨ (1 : Int) < 0 ∨ (Uni 8 8 eC eP).1 * (Uni 8 8 eC eP).2 < 0 ∨ (Uni 8 8 eC eP).1 * (Uni 8 8 eC eP).2 - 0 < 1)
  omega
theorem e_L {s t v w : Nat} : jL (eJ s t v w) eC eP 0 = [0] := by
  unfold jL walkL
  rw [cat, cat, List.nil_append]
  unfold unitL
  rw [if_pos (by rfl)]
  rfl
theorem e_T {s t v w : Nat} : jT (eJ s t v w) eT eP 0 = (tD, tA) := rfl
theorem e_rd {s t v w : Nat} {B : List Bool} : jRd (eJ s t v w) eC eP eT B 1 = (rd1 (jT (eJ s t v w) eT eP) (jR0 eP B) 0, if (rd1 (jT (eJ s t v w) eT eP) (jR0 eP B) 0).st = 0 then 1 else 0) := by
  unfold jRd
  rw [rdU, rdU, e_L]
  rfl
theorem e_rd1 {s t v w : Nat} {B : List Bool} : rd1 (jT (eJ s t v w) eT eP) (jR0 eP B) 0 = if (rdb tD tA 0 B).1 ≠ 0 then ⟨(rdb tD tA 0 B).1, [0], B, [], 0 + (rdb tD tA 0 B).2.2.2⟩ else ⟨0, [(rdb tD tA 0 B).2.1.getD 0 0], (rdb tD tA 0 B).2.2.1, [(rdb tD tA 0 B).2.1], 0 + (rdb tD tA 0 B).2.2.2⟩ := by
  rw [rd1_eq e_T rfl]
  rfl
section
variable {H : Hp}
theorem byV {s : Sl} {v : Nat} {vs : List Nat} {b : Nat} (hb : Bk H b 5 (vs.map fun (x : Nat) => Value.int .u8 (x : Int))) (hs : s = ⟨some ⟨b, 0, none⟩, vs.length, vs.length⟩) : SlV H s 1 cB vs := by
  subst hs
  refine ⟨rfl, Nat.le_refl _, fun i x hx => ⟨b, 0, rfl, ?_⟩⟩
  refine ldA_i hb fun j v hv => ?_
  have hj : j = 0 := by
    have := (List.getElem?_eq_some_iff.1 hv).1
    simp at this
    exact this
  subst hj
  simp at hv
  subst hv
  rw [show 0 + i * 1 + 0 = i from by omega, List.getElem?_map, hx]; rfl
theorem nilV7 : SlV H ⟨none, 0, 0⟩ 1 cB [] := ⟨rfl, Nat.le_refl _, fun i x hx => by simp at hx⟩
theorem ex_jv {s t v w : Nat} (hs : Bk H s 98 (c98 1 1 1 0)) (ht : Bk H t 67 (c67 0 0 0)) (hv : Bk H v 5 [.int .u8 0, .int .u8 3]) (hw : Bk H w 5 [.int .u8 0]) : JV H (eJ s t v w) eC eP eT := by
  refine ⟨⟨rfl, Nat.le_refl _, fun i x hx => ⟨s, 0, rfl, ?_⟩⟩, ⟨rfl, Nat.le_refl _, fun i x hx => ⟨t, 0, rfl, ?_⟩⟩, eC_ok, eP_ok, by decide, by decide, fun k x hx => ?_, show (-9223372036854775808 : Int) ≤ 0 ∧ (0 : Int) ≤ 9223372036854775807 from by decide, show (-9223372036854775808 : Int) ≤ 1 ∧ (1 : Int) ≤ 9223372036854775807 from by decide⟩
  · obtain ⟨rfl, rfl⟩ := eC_at hx
    exact ldA_full hs
  · have : i = 0 ∧ x = ⟨0, 0, 0⟩ := by
      match i with
      | 0 => simp [eP] at hx; simp [hx]
      | i + 1 => simp [eP] at hx
    obtain ⟨rfl, rfl⟩ := this
    exact ldA_full ht
  · have hk := (List.getElem?_eq_some_iff.1 hx).1
    match k, hx, hk with
    | 0, hx, _ => injection hx with hx; subst hx; exact ⟨byV (v := 0) hv rfl, by decide, eD_ok, by decide⟩
    | 1, hx, _ => injection hx with hx; subst hx; exact ⟨nilV7, by decide, zI_ok, by decide⟩
    | 2, hx, _ => injection hx with hx; subst hx; exact ⟨nilV7, by decide, zI_ok, by decide⟩
    | 3, hx, _ => injection hx with hx; subst hx; exact ⟨nilV7, by decide, zI_ok, by decide⟩
    | 4, hx, _ => injection hx with hx; subst hx; exact ⟨byV (v := 0) hw rfl, by decide, eA_ok, by decide⟩
    | 5, hx, _ => injection hx with hx; subst hx; exact ⟨nilV7, by decide, zI_ok, by decide⟩
    | 6, hx, _ => injection hx with hx; subst hx; exact ⟨nilV7, by decide, zI_ok, by decide⟩
    | 7, hx, _ => injection hx with hx; subst hx; exact ⟨nilV7, by decide, zI_ok, by decide⟩
    | k + 8, _, hk => exact absurd hk (by show ¬ k + 8 < 8; omega)
theorem job_len (j : Jb) : j.cells.length = 143 := by
  rw [Jb.cells_eq, List.length_append, List.length_append, fm_len cSc_len]; rfl
def eJ0 (s t : Nat) : Jb := ⟨0, 8, 8, ⟨some ⟨s, 0, none⟩, 1, 1⟩, ⟨some ⟨t, 0, none⟩, 1, 1⟩, (zInts 16, ⟨none, 0, 0⟩), (zInts 16, ⟨none, 0, 0⟩), (zInts 16, ⟨none, 0, 0⟩), (zInts 16, ⟨none, 0, 0⟩), (zInts 16, ⟨none, 0, 0⟩), (zInts 16, ⟨none, 0, 0⟩), (zInts 16, ⟨none, 0, 0⟩), (zInts 16, ⟨none, 0, 0⟩), 0, 1⟩
theorem eJ0_set (s t v w : Nat) : (((((eJ0 s t).cells.set 5 (.int .u8 1)).set 6 (.int .u8 1)).set 21 (.slice (some ⟨v, 0, none⟩) 2 2)).set 73 (.int .u8 1)).set 89 (.slice (some ⟨w, 0, none⟩) 1 1) = (eJ s t v w).cells := rfl
set_option maxHeartbeats 1000000 in
theorem example_ok {Q : (Int × Int × Int × Sl × Sl × (Ints 16) × Sl × (Ints 16) × Sl × (Ints 16) × Sl × (Ints 16) × Sl × (Ints 16) × Sl × (Ints 16) × Sl × (Ints 16) × Sl × (Ints 16) × Sl × Int × Int) → Hp → Prop}
    (hQ : ∀ s t v w H', JV H' (eJ s t v w) eC eP eT → Keep H H' → Q (0, 8, 8, ⟨some ⟨s, 0, none⟩, 1, 1⟩, ⟨some ⟨t, 0, none⟩, 1, 1⟩, eD, ⟨some ⟨v, 0, none⟩, 2, 2⟩, zInts 16, ⟨none, 0, 0⟩, zInts 16, ⟨none, 0, 0⟩, zInts 16, ⟨none, 0, 0⟩, eA, ⟨some ⟨w, 0, none⟩, 1, 1⟩, zInts 16, ⟨none, 0, 0⟩, zInts 16, ⟨none, 0, 0⟩, zInts 16, ⟨none, 0, 0⟩, 0, 1) H') : mosaiclaw17_example.s H Q := by
  unfold mosaiclaw17_example.s
  intro b1 H2 c2 g1 g1'
  have y2 := c2.size
  refine nw_i fun H4 b4 k4 z4 => ⟨Pv.keep k4 (by simp; omega), nw_i fun H9 b9 k9 z9 => ⟨Pv.keep k9 (by simp; omega), ?_⟩⟩
  intro b13 H15 c15 g13 g13' q13
  have y15 := c15.size
  have p1 : ∀ {A B : Hp}, Same A B b13 → Pv [b1] A B := fun {A B} s b hb => s.block b (by simp at hb; omega)
  replace q13 : Bk H15 b13 32 (eJ0 H2.size H4.size).cells := q13
  have hl := job_len (eJ0 H2.size H4.size)
  refine st_i q13 (by rw [hl]; decide) fun H16 b16 s16 => ⟨p1 s16, st_i b16 (by simp only [List.length_set]; rw [hl]; decide) fun H18 b18 s18 => ⟨p1 s18, ?_⟩⟩
  have y16 := s16.size
  have y18 := s18.size
  refine nw_i fun H21 b21 k21 z21 => ⟨Pv.keep k21 (by simp; omega), st_i (b18.keep k21) (by simp only [List.length_set]; rw [hl]; decide) fun H25 b25 s25 => ⟨p1 s25, st_i b25 (by simp only [List.length_set]; rw [hl]; decide) fun H27 b27 s27 => ⟨p1 s27, ?_⟩⟩⟩
  have y25 := s25.size
  have y27 := s27.size
  refine nw_i fun H30 b30 k30 z30 => ⟨Pv.keep k30 (by simp; omega), st_i (b27.keep k30) (by simp only [List.length_set]; rw [hl]; decide) fun H34 b34 s34 => ⟨p1 s34, ?_⟩⟩
  have y34 := s34.size
  have b34' := b34
  rw [eJ0_set] at b34'
  refine ⟨0, 8, 8, ⟨some ⟨H2.size, 0, none⟩, 1, 1⟩, ⟨some ⟨H4.size, 0, none⟩, 1, 1⟩, eD, ⟨some ⟨H18.size, 0, none⟩, 2, 2⟩, zInts 16, ⟨none, 0, 0⟩, zInts 16, ⟨none, 0, 0⟩, zInts 16, ⟨none, 0, 0⟩, eA, ⟨some ⟨H27.size, 0, none⟩, 1, 1⟩, zInts 16, ⟨none, 0, 0⟩, zInts 16, ⟨none, 0, 0⟩, zInts 16, ⟨none, 0, 0⟩, 0, 1, ldA_full (b := b13) (b34' : Bk H34 b13 32 (eJ H2.size H4.size H18.size H27.size).cells), fun H60 c60 => ?_⟩
  have c9 : Ch [b13] H9 H34 := ((((((c15.mono (G := [b13]) (by simp)).trans s16.ch (by simp)).trans s18.ch (by simp)).trans (k21.ch (F := [b13])) (by simp)).trans s25.ch (by simp)).trans s27.ch (by simp)).trans ((k30.ch (F := [b13])).trans s34.ch (by simp)) (by simp)
  have cc : Ch [b13, b1] H9 H60 := (c9.mono (by simp)).trans c60 (by simp)
  have d21 : Ch [b13, b1] H21 H60 := (((s25.ch.mono (G := [b13, b1]) (by simp)).trans s27.ch (by simp)).trans ((k30.ch (F := [b13])).trans s34.ch (by simp)) (by simp)).trans c60 (by simp)
  have d30 : Ch [b13, b1] H30 H60 := (s34.ch.mono (by simp)).trans c60 (by simp)
  refine hQ H2.size H4.size H18.size H27.size H60 (ex_jv (((b4.keep k9)).ch cc (by simp; omega)) (b9.ch cc (by simp; omega)) (b21.ch d21 (by simp; omega)) (b30.ch d30 (by simp; omega))) ?_
  exact ((((c2.keep (by simp)).trans k4).trans k9).ch (F := [])).trans cc (by simp; omega) |>.keep (by simp)
theorem e_cut {x : UInt8} (hx : x ≠ 255) : Cut ⟨#[x]⟩ (hiOf (⟨#[x]⟩ : ByteArray).size 0 1) (loOf (⟨#[x]⟩ : ByteArray).size 0) [x.toNat] 1 := by
  have hb : byt ⟨#[x]⟩ 0 = x.toNat := byt_list rfl
  have h1 : loOf (⟨#[x]⟩ : ByteArray).size 0 = 0 := rfl
  have h2 : hiOf (⟨#[x]⟩ : ByteArray).size 0 1 = 1 := rfl
  rw [h1, h2]
  have hx' : x.toNat ≠ 255 := fun h => hx (UInt8.toNat_inj.1 (by rw [h]; rfl))
  refine ⟨by decide, hb, fun h => absurd h hx', ?_⟩
  rw [wd, if_neg hx']
  exact ⟨rfl, .inl (by omega)⟩
set_option maxHeartbeats 1000000 in
theorem alive_ok17 {Q : Bool → Hp → Prop} (h : ∀ H', Keep H H' → Q true H') : mosaiclaw17_alive.s H Q := by
  unfold mosaiclaw17_alive.s
  refine example_ok fun s t v w H2 J2 k2 => ?_
  intro b3 H5 c5 g3 g3'
  have k5 : Keep H2 H5 := c5.keep (by simp)
  have nz : jChk (eJ s t v w) eC eP eT ≠ 0 → False := fun q => q e_chk
  refine Decode_ok (j := eJ s t v w) (f := ⟨#[179]⟩) (J2.keep k5) (by decide) (e_cut (by decide)) (fun _ => show (1 : Int) ≤ 3000 by decide) (fun q => (nz q).elim) fun _ r1 n1 l1 hl1 hr1 sl1 BL1 H7 o7 w7 f7 k7 => ⟨Pv.keep k7 (by simp; omega), ?_⟩
  have L1 : l1.map (·.1) = [true, false, true, true, false, false, true, true] := by rw [hl1, remB_fst]; decide
  have hr1' : jRd (eJ s t v w) eC eP eT (l1.map (·.1)) 1 = (r1, n1) := hr1
  rw [L1, e_rd, e_rd1, ex_b3] at hr1'
  dsimp only at hr1'
  rw [if_neg n00] at hr1'
  injection hr1' with e1 e2
  have hl8 : l1.length = 8 := by have := congrArg List.length L1; simpa using this
  have S1 : jSt r1 l1 (decide (1 = hiOf (⟨#[179]⟩ : ByteArray).size 0 1)) = 1 := by
    unfold jSt
    rw [← e1, if_neg (by simp), if_pos]
    refine ⟨?_, by decide⟩
    have e : (l1.drop 6).map (·.1) = [true, true] := by rw [List.map_drop, L1]; rfl
    unfold padd
    have a1 : (l1.drop (0 + 6)).length = 2 := by simp [hl8]
    have a2 : (l1.drop (0 + 6)).all (·.1) = true := by
      rw [List.all_eq_true]
      intro x hx
      have : x.1 ∈ (l1.drop 6).map (·.1) := List.mem_map.2 ⟨x, hx, rfl⟩
      rw [e] at this
      simpa using this
    rw [a1, a2]; rfl
  rw [S1, if_pos rfl] at w7
  rw [S1]
  intro b9 H11 c11 g9 g9'
  have k11 : Keep H7 H11 := c11.keep (by simp)
  have y7 := k7.size
  have y11 := k11.size
  have kA := (k5.trans k7).trans k11
  refine Decode_ok (j := eJ s t v w) (f := ⟨#[180]⟩) (J2.keep kA) (by decide) (e_cut (by decide)) (fun _ => show (1 : Int) ≤ 3000 by decide) (fun q => (nz q).elim) fun _ r2 n2 l2 hl2 hr2 sl2 BL2 H13 o13 w13 f13 k13 => ⟨Pv.keep k13 (by simp; omega), ?_⟩
  have L2 : l2.map (·.1) = [true, false, true, true, false, true, false, false] := by rw [hl2, remB_fst]; decide
  have hr2' : jRd (eJ s t v w) eC eP eT (l2.map (·.1)) 1 = (r2, n2) := hr2
  rw [L2, e_rd, e_rd1, ex_b4] at hr2'
  dsimp only at hr2'
  rw [if_pos (by decide)] at hr2'
  injection hr2' with e3 e4
  have S2 : jSt r2 l2 (decide (1 = hiOf (⟨#[180]⟩ : ByteArray).size 0 1)) = 4 := by unfold jSt; rw [← e3, if_pos (by simp)]
  rw [S2, if_neg (by decide)] at w13
  rw [S2]
  obtain ⟨rfl, rfl⟩ := w13
  intro b15 H17 c17 g15 g15'
  have k17 : Keep H13 H17 := c17.keep (by simp)
  have y13 := k13.size
  have y17 := k17.size
  have kB := (kA.trans k13).trans k17
  refine Decode_ok (j := eJ s t v w) (f := ⟨#[128]⟩) (J2.keep kB) (by decide) (e_cut (by decide)) (fun _ => show (1 : Int) ≤ 3000 by decide) (fun q => (nz q).elim) fun _ r3 n3 l3 hl3 hr3 sl3 BL3 H19 o19 w19 f19 k19 => ⟨Pv.keep k19 (by simp; omega), ?_⟩
  have L3 : l3.map (·.1) = [true, false, false, false, false, false, false, false] := by rw [hl3, remB_fst]; decide
  have hr3' : jRd (eJ s t v w) eC eP eT (l3.map (·.1)) 1 = (r3, n3) := hr3
  rw [L3, e_rd, e_rd1, ex_80] at hr3'
  dsimp only at hr3'
  rw [if_neg n00] at hr3'
  injection hr3' with e5 e6
  have S3 : jSt r3 l3 (decide (1 = hiOf (⟨#[128]⟩ : ByteArray).size 0 1)) = 3 := by
    unfold jSt
    rw [← e5, if_neg (by simp), if_neg]
    rintro ⟨q, _⟩
    have e : (l3.drop 6).map (·.1) = [false, false] := by rw [List.map_drop, L3]; rfl
    unfold padd at q
    rw [Bool.and_eq_true, List.all_eq_true] at q
    have : false ∈ (l3.drop 6).map (·.1) := by rw [e]; simp
    obtain ⟨x, hx, hxf⟩ := List.mem_map.1 this
    have := q.2 x hx
    rw [hxf] at this
    cases this
  rw [S3]
  intro b21 H23 c23 g21 g21'
  have k23 : Keep H19 H23 := c23.keep (by simp)
  have kC := ((k11.trans k13).trans k17).trans (k19.trans k23)
  have o23 := o7.kp kC
  have hB1 : BL1.map (·.1) = [zB.set 0 6] := by rw [w7, ← e1]
  obtain ⟨X, rfl, hX⟩ : ∃ X, BL1 = [X] ∧ X.1 = zB.set 0 6 := by
    cases BL1 with
    | nil => simp at hB1
    | cons X r => simp at hB1; exact ⟨X, by rw [hB1.2], hB1.1⟩
  have hn := o23.count cBl_len (by omega)
  obtain ⟨bb, ha, hA⟩ := o23.at cBl_len (by omega) (k := 0) (x := X) rfl
  have hn1 : ((sl1.n : Nat) : Int) = 1 := by rw [hn]; rfl
  refine Join.intro (fun (b : Bool) H' => b = true ∧ H23 = H') ?_ fun J24 hJ24 => ?_
  · rintro _ _ ⟨rfl, rfl⟩
    refine Join.intro (fun (b : Bool) H' => b = true ∧ H23 = H') ?_ fun J27 hJ27 => ?_
    · rintro _ _ ⟨rfl, rfl⟩
      exact ite_t rfl (ite_t rfl (ite_t rfl (h _ ((k2.trans k5).trans (k7.trans kC)))))
    · refine ite_t rfl (ite_t rfl (ite_t (by rw [← e4]; rfl) (hJ27 _ _ ⟨rfl, rfl⟩)))
  · refine ite_t rfl (ite_t rfl (ite_t (by rw [← e2]; rfl) (ite_t (by rw [← e1]; rfl) (ite_t (by dsimp only; rw [hn1]; rfl) ⟨by decide, by dsimp only; omega, _, ha, X, hA, hJ24 _ _ ⟨?_, rfl⟩⟩))))
    rw [hX]
    decide
end
end Go.Proofs.Ytlfdfikgbdgfdaa.G
