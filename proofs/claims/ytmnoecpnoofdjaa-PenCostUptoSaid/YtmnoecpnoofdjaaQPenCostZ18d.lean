/- Of this text what the row needs. -/
import Derived.Test.YtmnoecpnoofdjaaQPenCostZ18c
namespace Go.Proofs.Ytmnoecpnoofdjaa.G
open Go.RowKit
set_option linter.unusedVariables false
set_option linter.unusedSimpArgs false
set_option maxRecDepth 20000
def selD (ps : List Pa) (m : Mk3) : Option Nat := if m.2.1 = true then (ps[m.1]?).map (fun q => 256 * q.dc.toNat + m.2.2.1) else none
def selA (ps : List Pa) (m : Mk3) : Option Nat := if m.2.1 = true then none else (ps[m.1]?).map (fun q => 256 * q.ac.toNat + m.2.2.1)
def cnt18 (sel : Mk3 → Option Nat) (l : List Mk3) (i : Nat) : Nat := l.countP fun m => sel m == some i
def cntL (F : Nat → Nat) : List Int := (List.range 1024).map fun i => ((F i : Nat) : Int)
theorem cntL_len (F : Nat → Nat) : (cntL F).length = 1024 := by simp [cntL]
theorem cntL_get {F : Nat → Nat} {i : Nat} (h : i < 1024) : (ints .i64 (cntL F))[i]? = some (.int .i64 ((F i : Nat) : Int)) := by
  unfold ints cntL
  rw [List.getElem?_map, List.getElem?_map, List.getElem?_range h]; rfl
theorem cnt18_le (sel : Mk3 → Option Nat) (l : List Mk3) (i : Nat) : cnt18 sel l i ≤ l.length := List.countP_le_length
theorem cnt18_snoc (sel : Mk3 → Option Nat) (l : List Mk3) (m : Mk3) (i : Nat) : cnt18 sel (l ++ [m]) i = cnt18 sel l i + if sel m = some i then 1 else 0 := by
  unfold cnt18
  rw [List.countP_append, List.countP_singleton]
  by_cases h : sel m = some i
  · rw [if_pos h, if_pos (by simp [h])]
  · rw [if_neg h, if_neg (by simpa using h)]
theorem cntL_hit {sel : Mk3 → Option Nat} {l : List Mk3} {m : Mk3} {i : Nat} (h : sel m = some i) (hi : i < 1024) : (ints .i64 (cntL (cnt18 sel l))).set i (.int .i64 ((cnt18 sel l i + 1 : Nat) : Int)) = ints .i64 (cntL (cnt18 sel (l ++ [m]))) := by
  refine List.ext_getElem? fun k => ?_
  by_cases hk : k < 1024
  · rw [cntL_get hk, List.getElem?_set, cnt18_snoc, h]
    by_cases e : i = k
    · subst e
      rw [if_pos rfl, if_pos (by unfold ints; rw [List.length_map, cntL_len]; exact hk), if_pos rfl]
    · rw [if_neg e, cntL_get hk, if_neg (by simpa using e)]; rfl
  · rw [List.getElem?_eq_none (by rw [List.length_set]; unfold ints; rw [List.length_map, cntL_len]; omega), List.getElem?_eq_none (by unfold ints; rw [List.length_map, cntL_len]; omega)]
theorem cntL_miss {sel : Mk3 → Option Nat} {l : List Mk3} {m : Mk3} (h : sel m = none) : ints .i64 (cntL (cnt18 sel (l ++ [m]))) = ints .i64 (cntL (cnt18 sel l)) := by
  congr 2
  funext i
  rw [cnt18_snoc, h, if_neg (by simp)]; rfl
def cnP (F : Nat → Nat) (i : Nat) : Ints 256 := ⟨(List.range 256).map fun s => ((F (256 * i + s) : Nat) : Int), by simp⟩
theorem cn_split (F : Nat → Nat) : cntL F = (cnP F 0).1 ++ ((cnP F 1).1 ++ ((cnP F 2).1 ++ (cnP F 3).1)) := by
  unfold cntL cnP
  rw [show (1024 : Nat) = 256 + (256 + (256 + 256)) from rfl, List.range_add, List.range_add, List.range_add]
  simp only [List.map_append, List.map_map]
  rw [show (fun s => ((F (256 * 0 + s) : Nat) : Int)) = fun s => ((F s : Nat) : Int) from by funext s; rw [Nat.mul_zero, Nat.zero_add]]
  congr 1
theorem cn_cells (F : Nat → Nat) : c40 (cnP F 0) (cnP F 1) (cnP F 2) (cnP F 3) = ints .i64 (cntL F) := by
  rw [cn_split]
  show (ints .i64 (cnP F 0).1) ++ ((ints .i64 (cnP F 1).1) ++ ((ints .i64 (cnP F 2).1) ++ (ints .i64 (cnP F 3).1))) = _
  simp [ints]
theorem c4_len (a b c d : Ints 256) : (c40 a b c d).length = 1024 := len40 a b c d
theorem cn_nil (sel : Mk3 → Option Nat) : c40 (zInts 256) (zInts 256) (zInts 256) (zInts 256) = ints .i64 (cntL (cnt18 sel [])) := by
  have e : ∀ i, cnP (cnt18 sel []) i = zInts 256 := fun i => by
    apply Subtype.ext
    show (List.range 256).map (fun s => ((cnt18 sel [] (256 * i + s) : Nat) : Int)) = List.replicate 256 0
    refine List.ext_getElem? fun k => ?_
    rw [List.getElem?_map, List.getElem?_replicate]
    by_cases hk : k < 256
    · rw [List.getElem?_range hk, if_pos hk]; rfl
    · rw [List.getElem?_eq_none (by simpa using hk), if_neg hk]; rfl
  rw [← cn_cells, e, e, e, e]
section
variable {W H H' : Hp} {j : Jb} {cs : List Cp} {ps : List Pa} {TV : Nat → List Nat} {M : List Mk3} {m b1 b3 b5 : Nat}
structure Ks (W H : Hp) (j : Jb) (ps : List Pa) (M : List Mk3) (b1 b3 b5 m : Nat) : Prop where
  kp : Keep W H
  f1 : Bk H b1 32 j.cells
  f3 : Bk H b3 40 (ints .i64 (cntL (cnt18 (selD ps) (M.take m))))
  f5 : Bk H b5 40 (ints .i64 (cntL (cnt18 (selA ps) (M.take m))))
  od : W.size ≤ b1 ∧ b1 < b3 ∧ b3 < b5
theorem Ks.ch {F : List Nat} (a : Ks W H j ps M b1 b3 b5 m) (c : Ch F H H') (hF : ∀ x ∈ F, W.size ≤ x ∧ x ≠ b1 ∧ x ≠ b3 ∧ x ≠ b5) : Ks W H' j ps M b1 b3 b5 m :=
  ⟨(a.kp.ch (F := [])).trans c (fun x hx => .inr (hF x hx).1) |>.keep (by simp), a.f1.ch c (fun hh => (hF _ hh).2.1 rfl), a.f3.ch c (fun hh => (hF _ hh).2.2.1 rfl), a.f5.ch c (fun hh => (hF _ hh).2.2.2 rfl), a.od⟩
set_option maxHeartbeats 1000000 in
theorem Count1_ok {p : Nat} {f : Bool} {x : Sy} {R : Int → Hp → Prop} (J : JV W j cs ps TV) (hP : Prt j.w j.h cs ps = 0) (a : Ks W H j ps M b1 b3 b5 m) (hp : p < ps.length) (hM : M[m]? = some (p, f, x)) (hx : syOk3 f x) (hMl : M.length ≤ 67108864)
    (h : ∀ H', Ks W H' j ps M b1 b3 b5 (m + 1) → Ch [b3, b5] H H' → R 0 H') : pen_Count_1.s (p : Int) f (x.1 : Int) x.2.1 (x.2.2 : Int) ⟨b1, 0, none⟩ ⟨b3, 0, none⟩ ⟨b5, 0, none⟩ H R := by
  obtain ⟨⟨hx1, hx2, hx3⟩, hx4, hx5⟩ := hx
  obtain ⟨o1, o2, o3⟩ := a.od
  obtain ⟨q, hq⟩ : ∃ q, ps[p]? = some q := ⟨_, get_some hp⟩
  obtain ⟨pd, pa, _, _⟩ := part_tabs hP J hq
  have hml := (List.getElem?_eq_some_iff.1 hM).1
  have htk : M.take (m + 1) = M.take m ++ [(p, f, x)] := take_snoc' hM
  have yW := a.kp.size
  have l1 := a.f1.lt
  have l3 := a.f3.lt
  have l5 := a.f5.lt
  unfold pen_Count_1.s
  intro c1 H2 k2' g1 g1'
  have k2 : Keep H H2 := k2'.keep (by simp)
  have y2 := k2.size
  have a2 := a.ch (F := []) k2.ch (by simp)
  have J2 := J.keep a2.kp
  have hn := J2.ht.n
  obtain ⟨ba, oa, ha, hA⟩ := J2.ht.get hq
  refine Join.intro (fun (_ : Unit) H' => Ks W H' j ps M b1 b3 b5 (m + 1) ∧ Ch [b3, b5] H H') (fun _ H' hh => h H' hh.1 hh.2) fun J3 hJ3 => ?_
  rw [add_mk, Nat.zero_add]
  refine job_parts a2.f1 ⟨by omega, by omega, _, ha, q.comp, q.dc, q.ac, by rw [Int.toNat_natCast]; exact hA, ?_⟩
  intro c2 H18 k18' g2 g2'
  have k18 : Keep H2 H18 := k18'.keep (by simp)
  have y18 := k18.size
  have a18 := a2.ch (F := []) k18.ch (by simp)
  have cK : Ch [b3, b5] H H18 := (k2.trans k18).ch
  rw [Int.toNat_natCast]
  cases f with
  | true =>
    have hs : selD ps (p, true, x) = some (256 * q.dc.toNat + x.1) := by unfold selD; rw [if_pos rfl, hq]; rfl
    have hs' : selA ps (p, true, x) = none := by unfold selA; rw [if_pos rfl]
    have hi : 256 * q.dc.toNat + x.1 < 1024 := by omega
    have hc := cnt18_le (selD ps) (M.take m) (256 * q.dc.toNat + x.1)
    have hlt := List.length_take_le m M
    refine ite_t rfl ⟨by omega, by omega, by omega, by omega, by omega, by omega, ?_⟩
    rw [add_mk, add_mk, show 0 + q.dc.toNat * 256 + x.1 * 1 = 256 * q.dc.toNat + x.1 from by omega]
    refine ldI_i a18.f3 (cntL_get hi) ⟨by omega, by omega, st_i a18.f3 (by unfold ints; rw [List.length_map, cntL_len]; exact hi) fun H32 b32 s32 => ⟨Pv.ch s32.ch (by simp; omega), ?_⟩⟩
    rw [show ((cnt18 (selD ps) (M.take m) (256 * q.dc.toNat + x.1) : Nat) : Int) + 1 = ((cnt18 (selD ps) (M.take m) (256 * q.dc.toNat + x.1) + 1 : Nat) : Int) from by omega, w64n (by omega), cntL_hit hs hi, ← htk] at b32
    refine hJ3 _ _ ⟨⟨a18.kp.same s32 (by omega), a18.f1.same s32 (by omega), b32, ?_, a.od⟩, cK.trans s32.ch (by simp)⟩
    rw [htk, cntL_miss hs']
    exact a18.f5.same s32 (by omega)
  | false =>
    have hs : selA ps (p, false, x) = some (256 * q.ac.toNat + x.1) := by unfold selA; rw [if_neg (by simp), hq]; rfl
    have hs' : selD ps (p, false, x) = none := by unfold selD; rw [if_neg (by simp)]
    have hi : 256 * q.ac.toNat + x.1 < 1024 := by omega
    have hc := cnt18_le (selA ps) (M.take m) (256 * q.ac.toNat + x.1)
    have hlt := List.length_take_le m M
    refine ite_f rfl ⟨by omega, by omega, by omega, by omega, by omega, by omega, ?_⟩
    rw [add_mk, add_mk, show 0 + q.ac.toNat * 256 + x.1 * 1 = 256 * q.ac.toNat + x.1 from by omega]
    refine ldI_i a18.f5 (cntL_get hi) ⟨by omega, by omega, st_i a18.f5 (by unfold ints; rw [List.length_map, cntL_len]; exact hi) fun H32 b32 s32 => ⟨Pv.ch s32.ch (by simp; omega), ?_⟩⟩
    rw [show ((cnt18 (selA ps) (M.take m) (256 * q.ac.toNat + x.1) : Nat) : Int) + 1 = ((cnt18 (selA ps) (M.take m) (256 * q.ac.toNat + x.1) + 1 : Nat) : Int) from by omega, w64n (by omega), cntL_hit hs hi, ← htk] at b32
    refine hJ3 _ _ ⟨⟨a18.kp.same s32 (by omega), a18.f1.same s32 (by omega), ?_, b32, a.od⟩, cK.trans s32.ch (by simp)⟩
    rw [htk, cntL_miss hs']
    exact a18.f3.same s32 (by omega)
set_option maxHeartbeats 2000000 in
theorem Count_ok {a1 : Sl} {BL : List (Ints 64)} {Q : Ints 256 × Ints 256 × Ints 256 × Ints 256 × Ints 256 × Ints 256 × Ints 256 × Ints 256 × Int → Hp → Prop} (J : JV H j cs ps TV) (hb : SlV H a1 64 cBl BL) (hbl : BL.length ≤ 1048576) (hbv : ∀ X ∈ BL, ∀ v ∈ X.1, -32768 ≤ v ∧ v ≤ 32767)
    (h0 : oChk false j cs ps TV ≠ 0 ∨ (walkL j.w j.h cs ps j.f.toNat j.u.toNat).length ≠ BL.length ∨ (mJ j cs ps BL).2 ≠ 0 → ∀ x0 x1 x2 x3 x4 x5 x6 x7 e H', e ≠ 0 → Keep H H' → Q (x0, x1, x2, x3, x4, x5, x6, x7, e) H')
    (h1 : oChk false j cs ps TV = 0 → (walkL j.w j.h cs ps j.f.toNat j.u.toNat).length = BL.length → (mJ j cs ps BL).2 = 0 → ∀ H', Keep H H' →
      Q (cnP (cnt18 (selD ps) (mJ j cs ps BL).1) 0, cnP (cnt18 (selD ps) (mJ j cs ps BL).1) 1, cnP (cnt18 (selD ps) (mJ j cs ps BL).1) 2, cnP (cnt18 (selD ps) (mJ j cs ps BL).1) 3, cnP (cnt18 (selA ps) (mJ j cs ps BL).1) 0, cnP (cnt18 (selA ps) (mJ j cs ps BL).1) 1, cnP (cnt18 (selA ps) (mJ j cs ps BL).1) 2, cnP (cnt18 (selA ps) (mJ j cs ps BL).1) 3, 0) H') :
    pen_Count.s j.g j.w j.h j.s j.t j.d0.1 j.d0.2 j.d1.1 j.d1.2 j.d2.1 j.d2.2 j.d3.1 j.d3.2 j.a0.1 j.a0.2 j.a1.1 j.a1.2 j.a2.1 j.a2.2 j.a3.1 j.a3.2 j.f j.u a1 H Q := by
  unfold pen_Count.s
  intro b1 H2 c2 g1 g1' b3 H4 c4 g3 g3' b5 H6 c6 g5 g5'
  have y2 := c2.size
  have y4 := c4.size
  have y6 := c6.size
  have k6 : Keep H H6 := ((c2.keep (by simp)).trans (c4.keep (by simp))).trans (c6.keep (by simp))
  obtain ⟨hMa, hMl⟩ := mJ_all (j := j) (cs := cs) (ps := ps) (BL := BL)
  -- what stands at its end
  have fin : ∀ {H8 : Hp} {K : Hp → Prop}, K H8 → K H8 := fun h => h
  have tail : ∀ {s11 : Int} {H12 : Hp}, Keep H H12 → ((s11 ≠ 0 ∧ (oChk false j cs ps TV ≠ 0 ∨ (walkL j.w j.h cs ps j.f.toNat j.u.toNat).length ≠ BL.length ∨ (mJ j cs ps BL).2 ≠ 0) ∧ (∃ L3, Bk H12 b3 40 L3 ∧ L3.length = 1024) ∧ (∃ L5, Bk H12 b5 40 L5 ∧ L5.length = 1024)) ∨
      (s11 = 0 ∧ oChk false j cs ps TV = 0 ∧ (walkL j.w j.h cs ps j.f.toNat j.u.toNat).length = BL.length ∧ (mJ j cs ps BL).2 = 0 ∧ Bk H12 b3 40 (ints .i64 (cntL (cnt18 (selD ps) (mJ j cs ps BL).1))) ∧ Bk H12 b5 40 (ints .i64 (cntL (cnt18 (selA ps) (mJ j cs ps BL).1))))) →
      if (s11 != 0) = true then (stA H12 (⟨b3, 0, none⟩ : Addr) (c40 (zInts 256) (zInts 256) (zInts 256) (zInts 256)) (fun H13 => stA H13 (⟨b5, 0, none⟩ : Addr) (c40 (zInts 256) (zInts 256) (zInts 256) (zInts 256)) (fun H14 => ∃ x16 : Ints 256, ∃ x17 : Ints 256, ∃ x18 : Ints 256, ∃ x19 : Ints 256, ldA H14 (⟨b3, 0, none⟩ : Addr) (c40 x16 x17 x18 x19) ∧ (∃ x21 : Ints 256, ∃ x22 : Ints 256, ∃ x23 : Ints 256, ∃ x24 : Ints 256, ldA H14 (⟨b5, 0, none⟩ : Addr) (c40 x21 x22 x23 x24) ∧ (Q (x16, x17, x18, x19, x21, x22, x23, x24, s11) H14))))) else (∃ x26 : Ints 256, ∃ x27 : Ints 256, ∃ x28 : Ints 256, ∃ x29 : Ints 256, ldA H12 (⟨b3, 0, none⟩ : Addr) (c40 x26 x27 x28 x29) ∧ (∃ x31 : Ints 256, ∃ x32 : Ints 256, ∃ x33 : Ints 256, ∃ x34 : Ints 256, ldA H12 (⟨b5, 0, none⟩ : Addr) (c40 x31 x32 x33 x34) ∧ (stA H12 (⟨b3, 0, none⟩ : Addr) (c40 x26 x27 x28 x29) (fun H36 => ldA H36 (⟨b5, 0, none⟩ : Addr) (c40 x31 x32 x33 x34) ∧ (stA H36 (⟨b5, 0, none⟩ : Addr) (c40 x31 x32 x33 x34) (fun H38 => ∃ x40 : Ints 256, ∃ x41 : Ints 256, ∃ x42 : Ints 256, ∃ x43 : Ints 256, ldA H38 (⟨b3, 0, none⟩ : Addr) (c40 x40 x41 x42 x43) ∧ (∃ x45 : Ints 256, ∃ x46 : Ints 256, ∃ x47 : Ints 256, ∃ x48 : Ints 256, ldA H38 (⟨b5, 0, none⟩ : Addr) (c40 x45 x46 x47 x48) ∧ (Q (x40, x41, x42, x43, x45, x46, x47, x48, 0) H38)))))))) := by
    rintro s11 H12 k12 (⟨hne, hc, ⟨L3, t3, l3⟩, ⟨L5, t5, l5⟩⟩ | ⟨rfl, e1, e2, e3, t3, t5⟩)
    · refine ite_t (bnet hne) (stA_full t3 (by rw [c4_len, l3]) fun H13 b13 s13 => stA_full (t5.same s13 (by omega)) (by rw [c4_len, l5]) fun H14 b14 s14 => ⟨_, _, _, _, ldA_full (b13.same s14 (by omega)), _, _, _, _, ldA_full b14, ?_⟩)
      exact h0 hc _ _ _ _ _ _ _ _ _ H14 hne ((k12.same s13 (by omega)).same s14 (by omega))
    · rw [← cn_cells] at t3 t5
      refine ite_f rfl ⟨_, _, _, _, ldA_full t3, _, _, _, _, ldA_full t5, stA_full t3 rfl fun H36 b36 s36 => ⟨ldA_full (t5.same s36 (by omega)), stA_full (t5.same s36 (by omega)) rfl fun H38 b38 s38 => ⟨_, _, _, _, ldA_full (b36.same s38 (by omega)), _, _, _, _, ldA_full b38, ?_⟩⟩⟩
      exact h1 e1 e2 e3 H38 ((k12.same s36 (by omega)).same s38 (by omega))
  have J6 := J.keep k6
  refine open_ok J6 (fun hn H8 k8 => ⟨Pv.keep k8 (by simp; omega), fun q1 q3 q5 => ?_⟩) fun hz b dl al ts us H8 dk htb fr k8 => ⟨Pv.keep k8 (by simp; omega), fun q1 q3 q5 => ?_⟩
  · refine Join.intro (fun s11 H12 => s11 = oChk false j cs ps TV ∧ H8 = H12) ?_ fun J10 hJ10 => ite_f (beqf hn) (hJ10 _ _ ⟨rfl, rfl⟩)
    rintro _ _ ⟨rfl, rfl⟩
    exact tail (k6.trans k8) (.inl ⟨hn, .inl hn, ⟨_, q3, c4_len _ _ _ _⟩, ⟨_, q5, c4_len _ _ _ _⟩⟩)
  obtain ⟨hP, hR, f0, u0, fT⟩ := ochk_no hz
  have y8 := k8.size
  have kH := k6.trans k8
  rw [cn_nil (selD ps)] at q3
  rw [cn_nil (selA ps)] at q5
  have ks0 : Ks H H8 j ps (mJ j cs ps BL).1 b1 b3 b5 0 := ⟨kH, q1, q3, q5, by omega⟩
  have lenI : ∀ F : Nat → Nat, (ints .i64 (cntL F)).length = 1024 := fun F => by unfold ints; rw [List.length_map, cntL_len]
  refine Join.intro (fun s11 H12 => Keep H H12 ∧ ((s11 ≠ 0 ∧ (oChk false j cs ps TV ≠ 0 ∨ (walkL j.w j.h cs ps j.f.toNat j.u.toNat).length ≠ BL.length ∨ (mJ j cs ps BL).2 ≠ 0) ∧ (∃ L3, Bk H12 b3 40 L3 ∧ L3.length = 1024) ∧ (∃ L5, Bk H12 b5 40 L5 ∧ L5.length = 1024)) ∨
      (s11 = 0 ∧ oChk false j cs ps TV = 0 ∧ (walkL j.w j.h cs ps j.f.toNat j.u.toNat).length = BL.length ∧ (mJ j cs ps BL).2 = 0 ∧ Bk H12 b3 40 (ints .i64 (cntL (cnt18 (selD ps) (mJ j cs ps BL).1))) ∧ Bk H12 b5 40 (ints .i64 (cntL (cnt18 (selA ps) (mJ j cs ps BL).1)))))) (fun s11 H12 hh => tail hh.1 hh.2) fun J10 hJ10 => ite_t rfl ?_
  refine each_ok (W := H) (C := fun _ => True) (S := fun m G A => G = [b3, b5] ∧ Ks H A j ps (mJ j cs ps BL).1 b1 b3 b5 m) (Zf := fun _ => False) (G0 := [b3, b5]) (PB := pbJ j cs ps BL) (M := (mJ j cs ps BL).1) (e := (mJ j cs ps BL).2) (BL := BL) J kH dk (by have := fr b (by simp); omega) hP f0 u0 fT hb (by omega) hbv rfl rfl rfl ⟨rfl, ks0⟩ ?_ ?_ (fun _ _ _ h _ _ => h) ?_ ?_ (fun _ _ _ h => h.elim) ?_
  · rintro m G A ⟨rfl, ks⟩ g hg
    have r3 := ks.f3.lt
    have r5 := ks.f5.lt
    have := fr b (by simp)
    simp only [List.mem_cons, List.mem_nil_iff, or_false] at hg
    rcases hg with rfl | rfl
    · exact ⟨by omega, by omega, by omega⟩
    · exact ⟨by omega, by omega, by omega⟩
  · rintro m G A B F ⟨rfl, ks⟩ c hF
    refine ⟨rfl, ks.ch c fun x hx => ?_⟩
    have := (hF x hx).1
    exact ⟨by omega, by omega, by omega, by omega⟩
  · rintro m G A p f x R hM ⟨rfl, ks⟩ kA' hp hx hR0 hR1
    exact .inr ⟨_, _, _, rfl, Count1_ok J hP ks hp hM hx (by omega) fun A' ks' c' => hR0 [b3, b5] A' trivial ⟨rfl, ks'⟩ c' fun g hg => .inl hg⟩
  · rintro hne H15 ⟨_, ks⟩ k15
    exact hJ10 _ _ ⟨k15, .inl ⟨by omega, .inr (.inl hne), ⟨_, ks.f3, lenI _⟩, ⟨_, ks.f5, lenI _⟩⟩⟩
  · rintro heq _ Gs H15 ⟨_, ks⟩ k15
    by_cases he : (mJ j cs ps BL).2 = 0
    · refine hJ10 _ _ ⟨k15, .inr ⟨he, hz, heq, he, ?_, ?_⟩⟩
      · have := ks.f3; rwa [List.take_length] at this
      · have := ks.f5; rwa [List.take_length] at this
    · exact hJ10 _ _ ⟨k15, .inl ⟨he, .inr (.inr he), ⟨_, ks.f3, lenI _⟩, ⟨_, ks.f5, lenI _⟩⟩⟩
end
end Go.Proofs.Ytmnoecpnoofdjaa.G
