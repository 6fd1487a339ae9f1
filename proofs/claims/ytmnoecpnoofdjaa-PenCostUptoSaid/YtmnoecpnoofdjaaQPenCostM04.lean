/- Of this text what the row needs. -/
import Derived.Test.YtmnoecpnoofdjaaQPenCostZA
import Derived.Test.YtmnoecpnoofdjaaQPenCostZS
import Derived.Test.YtmnoecpnoofdjaaQPenCostZX
import Derived.Test.YtmnoecpnoofdjaaQPenCostGT
import Derived.Test.YtmnoecpnoofdjaaQPenCostZW
import Derived.Test.YtmnoecpnoofdjaaQPenCostKhuff
import Derived.Test.YtmnoecpnoofdjaaQPenCostKslices
namespace Go.Proofs.Ytmnoecpnoofdjaa.G
set_option linter.unusedVariables false
open Go.RowKit
set_option linter.unusedSimpArgs false
set_option maxRecDepth 20000
section
variable (q : Nat → Nat)
def fcq : Nat → Nat
  | 0 => 0
  | l + 1 => 2 * (fcq l + q l)
def plq : Nat → Nat
  | 0 => 0
  | l + 1 => plq l + q l
def cds : Nat → List (Nat × Nat)
  | 0 => []
  | l + 1 => cds l ++ (List.range (q l)).map fun k => (l + 1, fcq q l + k)
end
section
variable {q : Nat → Nat}
theorem cds_len : ∀ l, (cds q l).length = plq q l
  | 0 => rfl
  | l + 1 => by simp [cds, plq, cds_len l]
theorem cds_get {l k : Nat} (hk : k < q l) : ∀ {m : Nat}, l < m → (cds q m)[plq q l + k]? = some (l + 1, fcq q l + k)
  | 0, h => by omega
  | m + 1, h => by
    rw [cds]
    rcases Nat.lt_or_ge l m with h1 | h1
    · have e := cds_get hk h1
      rw [List.getElem?_append_left (List.getElem?_eq_some_iff.1 e).1]
      exact e
    · obtain rfl : l = m := by omega
      rw [List.getElem?_append_right (by rw [cds_len]; omega), cds_len, show plq q l + k - plq q l = k from by omega, List.getElem?_map, List.getElem?_range hk]
      rfl
theorem cds_of {i n v : Nat} : ∀ {m : Nat}, (cds q m)[i]? = some (n, v) → ∃ l k, l < m ∧ k < q l ∧ n = l + 1 ∧ v = fcq q l + k ∧ i = plq q l + k
  | 0, h => by simp [cds] at h
  | m + 1, h => by
    rw [cds] at h
    rcases Nat.lt_or_ge i (plq q m) with h1 | h1
    · rw [List.getElem?_append_left (by rw [cds_len]; omega)] at h
      obtain ⟨l, k, h2, h3⟩ := cds_of h
      exact ⟨l, k, by omega, h3⟩
    · rw [List.getElem?_append_right (by rw [cds_len]; omega), cds_len, List.getElem?_map] at h
      rcases Nat.lt_or_ge (i - plq q m) (q m) with h2 | h2
      · rw [List.getElem?_range h2] at h
        simp at h
        exact ⟨m, i - plq q m, by omega, h2, h.1.symm, by omega, by omega⟩
      · rw [List.getElem?_eq_none (by simpa using h2)] at h
        simp at h
theorem plq_far {l : Nat} : ∀ {m : Nat}, l < m → plq q l + q l ≤ plq q m
  | 0, h => by omega
  | m + 1, h => by
    rw [plq]
    rcases Nat.lt_or_ge l m with h1 | h1
    · have := plq_far h1
      omega
    · obtain rfl : l = m := by omega
      omega
end
def Fits (q : Nat → Nat) : Prop := ∀ l, l < 16 → fcq q l + q l < 2 ^ (l + 1)
theorem cds_fit {q : Nat → Nat} (hq : Fits q) {i n v : Nat} (h : (cds q 16)[i]? = some (n, v)) : 1 ≤ n ∧ n ≤ 16 ∧ v + 1 < 2 ^ n := by
  obtain ⟨l, k, h1, h2, rfl, rfl, rfl⟩ := cds_of h
  have := hq l h1
  omega
attribute [irreducible] cds fcq plq
abbrev Cn := Ints 16
def cOk (c : Cn) : Prop := ∀ v ∈ c.1, 0 ≤ v ∧ v ≤ 255
def cnt (c : Cn) (i : Nat) : Nat := (ixI c (i : Int)).toNat
theorem cnt_ok {c : Cn} (h : cOk c) (i : Nat) : ixI c (i : Int) = (cnt c i : Int) ∧ cnt c i ≤ 255 := by
  unfold cnt
  have : 0 ≤ ixI c (i : Int) ∧ ixI c (i : Int) ≤ 255 := by
    unfold ixI
    rw [List.getD_eq_getElem?_getD]
    cases hx : c.1[(i : Int).toNat]? with
    | none => simp
    | some v => exact h v (List.mem_of_getElem? hx)
  omega
def wN (c : Cn) : Nat → Nat
  | 0 => 0
  | i + 1 => wN c i + cnt c i
def wS (c : Cn) : Nat → Nat
  | 0 => 0
  | i + 1 => wS c i + cnt c i * 2 ^ (15 - i)
theorem wN_le {c : Cn} (h : cOk c) : ∀ i, wN c i ≤ 255 * i
  | 0 => Nat.le_refl _
  | i + 1 => by have := wN_le h i; have := (cnt_ok h i).2; unfold wN; omega
theorem wT_le {c : Cn} (h : cOk c) (i : Nat) : cnt c i * 2 ^ (15 - i) ≤ 8355840 := by
  have h1 := (cnt_ok h i).2
  have h2 := pow_lt (show 15 - i ≤ 15 by omega)
  have h3 : (2 : Nat) ^ 15 = 32768 := rfl
  have := Nat.mul_le_mul h1 h2
  omega
theorem wS_le {c : Cn} (h : cOk c) : ∀ i, wS c i ≤ 8355840 * i
  | 0 => Nat.le_refl _
  | i + 1 => by have := wS_le h i; have := wT_le h i; unfold wS; omega
theorem wS_s (c : Cn) (i : Nat) : wS c (i + 1) = wS c i + cnt c i * 2 ^ (15 - i) := rfl
theorem wN_s (c : Cn) (i : Nat) : wN c (i + 1) = wN c i + cnt c i := rfl
theorem weight_ok {c : Cn} {s : Sl} {H : Hp} {Q : Int × Int → Hp → Prop} (hc : cOk c) (h : ∀ H', Keep H H' → Q ((wS c 16 : Int), (wN c 16 : Int)) H') : huff_weight.s c s H Q := by
  unfold huff_weight.s
  intro b1 H2 c2 g1 g2
  have k2 : Keep H H2 := c2.keep (by simp)
  refine Fix.intro (fun (x : Int × Int × Int) H' => ∃ i : Nat, x = ((wS c i : Int), (wN c i : Int), (i : Int)) ∧ i ≤ 16 ∧ H2 = H') (fun x _ => 16 - x.2.2.toNat) ⟨0, rfl, by omega, rfl⟩ ?_
  rintro _ _ ⟨i, rfl, hi, rfl⟩ rec hrec
  simp only
  by_cases h16 : i < 16
  · obtain ⟨e1, e2⟩ := cnt_ok hc i
    have hN := wN_le hc i
    have hS := wS_le hc i
    have hT := wT_le hc i
    have e3 : IntKind.wrap .i64 ((15 : Int) - (i : Int)) = ((15 - i : Nat) : Int) := by rw [show (15 : Int) - (i : Int) = ((15 - i : Nat) : Int) from by omega, w64n (by omega)]
    refine ite_t (dect (by omega)) ⟨by omega, by omega, by rw [e3]; omega, Lt.of (Lt.of ?_)⟩
    rw [e1, e3, w64n (x := cnt c i) (by omega), shln (k := .i64) (by show _ ≤ 64; omega) (w64n (by omega))]
    rw [show (wS c i : Int) + ((cnt c i * 2 ^ (15 - i) : Nat) : Int) = ((wS c (i + 1) : Nat) : Int) from by rw [wS_s]; omega, show (wN c i : Int) + (cnt c i : Int) = ((wN c (i + 1) : Nat) : Int) from by rw [wN_s]; omega, show (i : Int) + 1 = ((i + 1 : Nat) : Int) from by omega]
    rw [w64n (by rw [wS_s]; omega), w64n (by rw [wN_s]; omega), w64n (by omega)]
    exact hrec _ _ ⟨i + 1, rfl, by omega, rfl⟩ (by simp; omega)
  · obtain rfl : i = 16 := by omega
    exact ite_f (decf (by omega)) (h _ k2)
open Classical in
noncomputable def Chk4 (c : Cn) (vs : List Nat) : Int := if wN c 16 = 0 ∨ 256 < wN c 16 ∨ wN c 16 ≠ vs.length then 40 else if 65535 < wS c 16 then 41 else if vs.Nodup then 0 else 42
theorem zB_get {n : Nat} : ∀ v, v < n → (bools (zBools n).1)[v]? = some (.bool (decide (v ∈ ([] : List Nat)))) := fun v hv => by
  unfold bools zBools
  rw [List.getElem?_map, List.getElem?_replicate, if_pos hv]
  simp
theorem nodup_snoc {l : List Nat} {x : Nat} : (l ++ [x]).Nodup ↔ l.Nodup ∧ x ∉ l := by
  rw [List.nodup_append]
  constructor
  · rintro ⟨h1, _, h3⟩
    exact ⟨h1, fun hx => h3 x hx x (by simp) rfl⟩
  · rintro ⟨h1, h2⟩
    exact ⟨h1, by simp, fun a ha b hb => by simp at hb; subst hb; exact fun e => h2 (e ▸ ha)⟩
theorem take_snoc {α : Type} {l : List α} {i : Nat} (h : i < l.length) : l.take (i + 1) = l.take i ++ [l[i]] := by
  rw [List.take_add_one, List.getElem?_eq_getElem h]; rfl
theorem nodup_take {l : List Nat} (i : Nat) (h : l.Nodup) : (l.take i).Nodup := h.sublist (List.take_sublist i l)
section
variable {c : Cn} {s : Sl} {vs : List Nat} {H : Hp}
theorem Check_ok {Q : Int → Hp → Prop} (hc : cOk c) (hs : SlV H s 1 cB vs) (hv : ∀ v ∈ vs, v < 256) (hl : vs.length ≤ 140737488355328) (h : ∀ H', Keep H H' → Q (Chk4 c vs) H') : huff_Check.s c s H Q := by
  unfold huff_Check.s
  intro b1 H2 c2 g1 g2
  have k2 : Keep H H2 := c2.keep (by simp)
  refine weight_ok hc fun H4 k4 => ⟨Pv.keep k4 (by simpa using g2), ?_⟩
  have k24 := k2.trans k4
  have hn := hs.n
  have y24 := k24.size
  refine Join.intro (fun b H' => b = decide (wN c 16 = 0 ∨ 256 < wN c 16 ∨ wN c 16 ≠ vs.length) ∧ H4 = H') ?_ ?_
  rotate_left
  · intro J hJ
    by_cases h1 : wN c 16 = 0
    · exact ite_t (beqi (by omega)) (hJ _ _ ⟨(dect (.inl h1)).symm, rfl⟩)
    refine ite_f (beqf (by omega)) ?_
    by_cases h2 : 256 < wN c 16
    · exact ite_t (dect (by omega)) (hJ _ _ ⟨(dect (.inr (.inl h2))).symm, rfl⟩)
    refine ite_f (decf (by omega)) (hJ _ _ ⟨?_, rfl⟩)
    by_cases h3 : wN c 16 = vs.length
    · rw [decf (by omega)]; exact bnei (by omega)
    · rw [dect (by omega)]; exact bnet (by omega)
  rintro _ _ ⟨rfl, rfl⟩
  unfold Chk4 at h
  by_cases h1 : wN c 16 = 0 ∨ 256 < wN c 16 ∨ wN c 16 ≠ vs.length
  · rw [if_pos h1] at h
    exact ite_t (dect h1) (h _ k24)
  rw [if_neg h1] at h
  refine ite_f (decf h1) ?_
  by_cases h2 : 65535 < wS c 16
  · rw [if_pos h2] at h
    exact ite_t (dect (by omega)) (h _ k24)
  rw [if_neg h2] at h
  refine ite_f (decf (by omega)) ?_
  intro b9 H10 c10 g9 g9' hbk
  have k10 := k24.trans (c10.keep (by simp))
  refine Fix.intro (fun (x : Int) H' => ∃ (i : Nat) (cs : List Value), x = (i : Int) ∧ i ≤ vs.length ∧ Bk H' b9 148 cs ∧ cs.length = 256 ∧ (∀ v, v < 256 → cs[v]? = some (.bool (decide (v ∈ vs.take i)))) ∧ (vs.take i).Nodup ∧ Keep H H') (fun x _ => vs.length - x.toNat)
    ⟨0, _, rfl, by omega, hbk, len148 _, fun v hv => zB_get v hv, by simp, k10⟩ ?_
  rintro _ H14 ⟨i, cs, rfl, hi, b14, hcs, hsee, hnd, k14⟩ rec hrec
  by_cases hil : i < vs.length
  · obtain ⟨b, o, ha, hA⟩ := (hs.keep k14).get (List.getElem?_eq_getElem hil)
    have hx := hv _ (List.getElem_mem hil)
    refine ite_t (dect (by omega)) ⟨by omega, by omega, _, ha, ldI_of0 hA rfl ⟨by omega, by omega, ?_⟩⟩
    rw [Int.toNat_natCast, Nat.mul_one]
    refine ldB_a b14 (hsee _ hx) ?_
    by_cases hm : vs[i] ∈ vs.take i
    · refine ite_t (dect hm) ?_
      have : ¬ vs.Nodup := fun hnd' => by
        have := nodup_take (i + 1) hnd'
        rw [take_snoc hil] at this
        exact (nodup_snoc.1 this).2 hm
      rw [if_neg this] at h
      exact h _ k14
    · refine ite_f (decf hm) ⟨by omega, by omega, st_a b14 (by omega) fun H29 b29 s29 => ?_⟩
      rw [show (i : Int) + 1 = ((i + 1 : Nat) : Int) from by omega, w64n (by omega)]
      refine hrec _ _ ⟨i + 1, _, rfl, by omega, b29, by simp [hcs], fun v hv' => ?_, ?_, k14.same s29 (by omega)⟩ (by simp; omega)
      · rw [List.getElem?_set]
        by_cases e : vs[i] = v
        · rw [if_pos e, if_pos (by omega), take_snoc hil]
          simp [e]
        · rw [if_neg e, hsee v hv', take_snoc hil]
          have e' : ¬ v = vs[i] := fun h => e h.symm
          have e2 : (v ∈ vs.take i ++ [vs[i]]) ↔ v ∈ vs.take i := by rw [List.mem_append]; simp [e']
          simp only [e2]
      · rw [take_snoc hil]; exact nodup_snoc.2 ⟨hnd, hm⟩
  · rw [List.take_of_length_le (by omega)] at hnd
    rw [if_pos hnd] at h
    exact ite_f (decf (by omega)) (h _ k14)
end
abbrev Cd := Nat × (Nat × Nat)
def lkp (P : List Cd) (v : Nat) : Nat × Nat := ((P.find? fun x => x.1 == v).map (·.2)).getD (0, 0)
theorem lkp_snoc {P : List Cd} {x v : Nat} {p : Nat × Nat} (h : x ∉ P.map (·.1)) : lkp (P ++ [(x, p)]) v = if v = x then p else lkp P v := by
  unfold lkp
  rw [List.find?_append]
  by_cases e : v = x
  · subst e
    have : (P.find? fun y => y.1 == v) = none := by
      rw [List.find?_eq_none]
      intro y hy
      simp
      exact fun e => h (List.mem_map.2 ⟨y, hy, e⟩)
    rw [this, if_pos rfl]
    simp
  · rw [if_neg e]
    have : ([(x, p)].find? fun y => y.1 == v) = none := by
      rw [List.find?_eq_none]
      intro y hy
      simp at hy
      subst hy
      simp
      exact fun e' => e e'.symm
    rw [this, Option.or_none]
theorem lkp_of {P : List Cd} (v : Nat) : lkp P v = (0, 0) ∧ v ∉ P.map (·.1) ∨ (v, lkp P v) ∈ P := by
  unfold lkp
  cases h : P.find? fun x => x.1 == v with
  | none =>
    refine .inl ⟨rfl, fun hv => ?_⟩
    obtain ⟨y, hy, e⟩ := List.mem_map.1 hv
    have := List.find?_eq_none.1 h y hy
    simp [e] at this
  | some y =>
    right
    have h1 := List.find?_some h
    have h2 := List.mem_of_find?_eq_some h
    simp at h1
    subst h1
    exact h2
theorem plq_wN (c : Cn) : ∀ i, plq (cnt c) i = wN c i
  | 0 => by rw [plq, wN]
  | i + 1 => by rw [plq, wN, plq_wN c i]
theorem fcq_wS (c : Cn) : ∀ i, i ≤ 15 → fcq (cnt c) i * 2 ^ (15 - i) = wS c i
  | 0, _ => by simp [fcq, wS]
  | i + 1, h => by
    rw [fcq, wS, ← fcq_wS c i (by omega), show 15 - i = (15 - (i + 1)) + 1 from by omega, Nat.pow_succ, ← Nat.add_mul, Nat.mul_comm 2, Nat.mul_assoc, Nat.mul_comm 2 (2 ^ _)]
theorem wS_mono (c : Cn) {i j : Nat} (h : i ≤ j) : wS c i ≤ wS c j := by
  induction j with
  | zero => obtain rfl : i = 0 := by omega
            exact Nat.le_refl _
  | succ j ih =>
    rcases Nat.eq_or_lt_of_le h with rfl | h1
    · exact Nat.le_refl _
    · have := ih (by omega)
      rw [wS]
      omega
theorem fits (c : Cn) (h : wS c 16 ≤ 65535) : Fits (cnt c) := by
  intro l hl
  have h1 := wS_mono c (show l + 1 ≤ 16 by omega)
  rw [wS, ← fcq_wS c l (by omega), ← Nat.add_mul] at h1
  have h2 : (2 : Nat) ^ 16 = 2 ^ (l + 1) * 2 ^ (15 - l) := by rw [← Nat.pow_add]; congr 1; omega
  have h3 : (2 : Nat) ^ 16 = 65536 := rfl
  exact Nat.lt_of_mul_lt_mul_right (a := 2 ^ (15 - l)) (by omega)
structure May4 (c : Cn) (vs : List Nat) : Prop where
  pos : 0 < vs.length
  most : vs.length ≤ 256
  len : plq (cnt c) 16 = vs.length
  fit : Fits (cnt c)
  nodup : vs.Nodup
  sum : wS c 16 ≤ 65535
theorem may4 {c : Cn} {vs : List Nat} (h : Chk4 c vs = 0) : May4 c vs := by
  unfold Chk4 at h
  split at h
  · cases h
  split at h
  · cases h
  split at h
  · rename_i h1 h2 h3
    have e := plq_wN c 16
    exact ⟨by omega, by omega, by omega, fits c (by omega), h3, by omega⟩
  · cases h
def prs (c : Cn) (vs : List Nat) : List Cd := vs.zip (cds (cnt c) 16)
section
variable {c : Cn} {vs : List Nat}
theorem prs_len (h : May4 c vs) : (prs c vs).length = vs.length := by
  unfold prs
  rw [List.length_zip, cds_len, h.len, Nat.min_self]
theorem prs_keys (h : May4 c vs) : (prs c vs).map (·.1) = vs := by
  unfold prs
  rw [show (fun x : Cd => x.1) = Prod.fst from rfl, List.map_fst_zip]
  rw [cds_len, h.len]
  exact Nat.le_refl _
theorem prs_get {i v n m : Nat} (h1 : vs[i]? = some v) (h2 : (cds (cnt c) 16)[i]? = some (n, m)) : (prs c vs)[i]? = some (v, n, m) := by
  unfold prs
  rw [List.getElem?_zip_eq_some]
  exact ⟨h1, h2⟩
theorem prs_of {i v n m : Nat} (h : (prs c vs)[i]? = some (v, n, m)) : vs[i]? = some v ∧ (cds (cnt c) 16)[i]? = some (n, m) := by
  unfold prs at h
  rw [List.getElem?_zip_eq_some] at h
  exact h
theorem lkp_fit (h : May4 c vs) (v : Nat) : (lkp (prs c vs) v).1 ≤ 16 ∧ (lkp (prs c vs) v).2 < 2 ^ (lkp (prs c vs) v).1 ∧ ((lkp (prs c vs) v).1 = 0 ↔ v ∉ vs) := by
  rcases lkp_of (P := prs c vs) v with ⟨h1, h2⟩ | h1
  · rw [prs_keys h] at h2
    rw [h1]
    exact ⟨by omega, by simp, by simpa using h2⟩
  · revert h1
    generalize lkp (prs c vs) v = p
    obtain ⟨n, m⟩ := p
    intro h1
    obtain ⟨i, hi⟩ := List.mem_iff_getElem?.1 h1
    obtain ⟨g1, g2⟩ := prs_of hi
    have g3 := cds_fit h.fit g2
    have := List.mem_of_getElem? g1
    show n ≤ 16 ∧ m < 2 ^ n ∧ (n = 0 ↔ v ∉ vs)
    refine ⟨by omega, by omega, ?_⟩
    constructor
    · intro h0; omega
    · exact fun hv => absurd this hv
end
attribute [irreducible] prs
structure TabC (q : Nat → Nat) (P : List Cd) (s : Sl) (cs : List Value) (L : Nat) : Prop where
  len : cs.length = 564
  code : ∀ v, v < 256 → cs[v]? = some (.int .u16 ((lkp P v).2 : Int)) ∧ cs[256 + v]? = some (.int .u8 ((lkp P v).1 : Int))
  rows : ∀ l, l < L → cs[512 + (l + 1)]? = some (.int .i64 (fcq q l : Int)) ∧ cs[529 + (l + 1)]? = some (.int .i64 (q l : Int)) ∧ cs[546 + (l + 1)]? = some (.int .i64 (plq q l : Int))
  vals : cs[563]? = some (.slice s.a s.n s.c)
structure Tab (H : Hp) (t : Nat) (s : Sl) (c : Cn) (vs : List Nat) : Prop where
  bk : ∃ cs, Bk H t 114 cs ∧ TabC (cnt c) (prs c vs) s cs 16
  own : Own H 5 1 s (vs.flatMap cB)
  ne : t ∉ fp s
theorem Tab.ch {H H' : Hp} {t : Nat} {s : Sl} {c : Cn} {vs : List Nat} {F : List Nat} (h : Tab H t s c vs) (k : Ch F H H') (hF : ∀ b ∈ t :: fp s, b ∉ F) : Tab H' t s c vs := by
  obtain ⟨⟨cs, h1, h2⟩, h3, h4⟩ := h
  exact ⟨⟨cs, h1.ch k (hF t (by simp)), h2⟩, h3.ch k fun b hb => hF b (by simp [hb]), h4⟩
theorem Tab.keep {H H' : Hp} {t : Nat} {s : Sl} {c : Cn} {vs : List Nat} (h : Tab H t s c vs) (k : Keep H H') : Tab H' t s c vs := h.ch (k.ch (F := [])) (by simp)
theorem Tab.lts {H : Hp} {t : Nat} {s : Sl} {c : Cn} {vs : List Nat} (h : Tab H t s c vs) : ∀ b ∈ t :: fp s, b < H.size := by
  intro b hb
  rcases List.mem_cons.1 hb with rfl | hb
  · obtain ⟨cs, h1, _⟩ := h.bk
    exact h1.lt
  · exact h.own.fp_lt b hb
section
variable {H : Hp} {t : Nat} {s : Sl} {c : Cn} {vs : List Nat}
theorem Code_ok {v : Nat} {Q : Int × Int → Hp → Prop} (h : Tab H t s c vs) (hm : May4 c vs) (hv : v < 256) (k : Q (((lkp (prs c vs) v).2 : Int), ((lkp (prs c vs) v).1 : Int)) H) : huff_Table_Code.s (some ⟨t, 0, none⟩) (v : Int) H Q := by
  obtain ⟨⟨cs, h1, h2⟩, _⟩ := h
  obtain ⟨g1, g2⟩ := h2.code v hv
  have g3 := (lkp_fit hm v).1
  unfold huff_Table_Code.s
  refine ⟨_, rfl, by omega, by omega, ?_⟩
  rw [add_mk, add_mk, add_mk, add_mk, Int.toNat_natCast]
  refine ldI_i h1 (by rw [show 0 + 0 + v * 1 = v from by omega]; exact g1) ⟨by omega, by omega, ldI_i h1 (by rw [show 0 + 256 + v * 1 = 256 + v from by omega]; exact g2) ?_⟩
  rw [w64n (by omega)]
  exact k
end
section
variable {H : Hp} {r : Nat} {sv sc : Sl} {c : Cn} {vs : List Nat}
end
theorem TabC.rowset {q : Nat → Nat} {P : List Cd} {s : Sl} {cs : List Value} {i : Nat} (h : TabC q P s cs i) (hi : i < 16) :
    TabC q P s (((cs.set (512 + (i + 1)) (.int .i64 (fcq q i : Int))).set (529 + (i + 1)) (.int .i64 (q i : Int))).set (546 + (i + 1)) (.int .i64 (plq q i : Int))) (i + 1) := by
  obtain ⟨h1, h2, h3, h4⟩ := h
  refine ⟨by simp [h1], fun v hv => ?_, fun l hl => ?_, ?_⟩
  · obtain ⟨g1, g2⟩ := h2 v hv
    simp only [List.getElem?_set]
    rw [if_neg (by omega), if_neg (by omega), if_neg (by omega), if_neg (by omega), if_neg (by omega), if_neg (by omega)]
    exact ⟨g1, g2⟩
  · simp only [List.getElem?_set, List.length_set, h1]
    by_cases e : l = i
    · subst e
      rw [if_neg (by omega), if_neg (by omega), if_pos rfl, if_pos (by omega), if_neg (by omega), if_pos rfl, if_pos (by omega), if_pos rfl, if_pos (by omega)]
      exact ⟨rfl, rfl, rfl⟩
    · rw [if_neg (by omega), if_neg (by omega), if_neg (by omega), if_neg (by omega), if_neg (by omega), if_neg (by omega), if_neg (by omega), if_neg (by omega), if_neg (by omega)]
      exact h3 l (by omega)
  · simp only [List.getElem?_set]
    rw [if_neg (by omega), if_neg (by omega), if_neg (by omega)]
    exact h4
theorem TabC.codeset {q : Nat → Nat} {P : List Cd} {s : Sl} {cs : List Value} {L x n v : Nat} (h : TabC q P s cs L) (hL : L ≤ 16) (hx : x < 256) (hn : x ∉ P.map (·.1)) :
    TabC q (P ++ [(x, (n, v))]) s ((cs.set x (.int .u16 (v : Int))).set (256 + x) (.int .u8 (n : Int))) L := by
  obtain ⟨h1, h2, h3, h4⟩ := h
  refine ⟨by simp [h1], fun w hw => ?_, fun l hl => ?_, ?_⟩
  · obtain ⟨g1, g2⟩ := h2 w hw
    rw [lkp_snoc hn]
    simp only [List.getElem?_set, List.length_set, h1]
    by_cases e : w = x
    · subst e
      simp [show ¬ 256 + w = w from by omega, show w < 564 from by omega, show 256 + w < 564 from by omega]
    · have e1 : ¬ x = w := fun h => e h.symm
      have e2 : ¬ 256 + x = w := by omega
      have e3 : ¬ x = 256 + w := by omega
      have e4 : ¬ 256 + x = 256 + w := by omega
      rw [if_neg e, if_neg e2, if_neg e1, if_neg e4, if_neg e3]
      exact ⟨g1, g2⟩
  · simp only [List.getElem?_set]
    rw [if_neg (by omega), if_neg (by omega), if_neg (by omega), if_neg (by omega), if_neg (by omega), if_neg (by omega)]
    exact h3 l hl
  · simp only [List.getElem?_set]
    rw [if_neg (by omega), if_neg (by omega)]
    exact h4
theorem at1 {A R : List Value} {v n : Nat} (hA : A.length = n) (h : v < n) : (A ++ R)[v]? = A[v]? := List.getElem?_append_left (by omega)
theorem at2 {A R : List Value} {n j : Nat} (hA : A.length = n) : (A ++ R)[n + j]? = R[j]? := by
  rw [List.getElem?_append_right (by omega)]
  congr 1
  omega
theorem zint_len {k : IntKind} {n : Nat} : (ints k (zInts n).1).length = n := by rw [ints_length]; exact (zInts n).2
theorem zint_get {k : IntKind} {n v : Nat} (h : v < n) : (ints k (zInts n).1)[v]? = some (.int k 0) := by
  unfold ints zInts
  rw [List.getElem?_map, List.getElem?_replicate, if_pos h]
  rfl
theorem TabC.zero (q : Nat → Nat) (s : Sl) : TabC q [] s (c114 (zInts 256) (zInts 256) (zInts 17) (zInts 17) (zInts 17) s) 0 := by
  refine ⟨len114 _ _ _ _ _ _, fun v hv => ⟨?_, ?_⟩, fun l hl => by omega, ?_⟩
  · exact (at1 zint_len hv).trans (zint_get hv)
  · exact (at2 zint_len).trans ((at1 zint_len hv).trans (zint_get hv))
  · exact (at2 (j := 307) zint_len).trans ((at2 (j := 51) zint_len).trans ((at2 (j := 34) zint_len).trans ((at2 (j := 17) zint_len).trans (at2 (j := 0) zint_len))))
section
variable {c : Cn} {s : Sl} {vs : List Nat} {H : Hp}
theorem Clone_ok {Q : Sl → Hp → Prop} (hs : SlV H s 1 cB vs) (hl : vs.length ≤ 140737488355328) (h : ∀ t H', Own H' 5 1 t (vs.flatMap cB) → Keep H H' → (∀ b ∈ fp t, H.size ≤ b) → Q t H') : slices_Clone_uint8_uint8.s s H Q := by
  unfold slices_Clone_uint8_uint8.s
  cases ha : s.a with
  | none =>
    have : vs = [] := by
      cases vs with
      | nil => rfl
      | cons v r =>
        obtain ⟨b, o, h1, _⟩ := hs.at_ 0 v rfl
        rw [ha] at h1
        cases h1
    subst this
    exact ite_t rfl (h _ H (Own.nil _ _ _) (Keep.refl _) (by simp [fp]))
  | some p =>
    refine ite_f rfl (nw_i fun H2 b2 k2 z2 => ?_)
    have hc := (hs.keep k2).cells cB_len cB_ones
    rw [ha] at hc
    have o2 : Own H2 5 1 ⟨some ⟨H.size, 0, none⟩, 0, 0⟩ (([] : List Nat).flatMap cB) := .inr ⟨H.size, [], rfl, b2, rfl, rfl, Nat.le_refl _⟩
    have hn := hs.n
    refine ⟨vs.flatMap cB, hc.1, hc.2, apS_list (xs := []) (ys := vs) o2 cB_len cB_ones rfl (by omega) (by omega) (by simp; omega) (by omega) fun t H7 o7 c7 f7 => h t H7 o7 ((k2.ch (F := [])).trans c7 (by simp [fp]) |>.keep (by simp)) fun b hb => ?_⟩
    have := k2.size
    rcases f7 b hb with h | h
    · simp [fp] at h; omega
    · omega
theorem New_ok4 {Q : Option Addr × Int → Hp → Prop} (hc : cOk c) (hs : SlV H s 1 cB vs) (hv : ∀ v ∈ vs, v < 256) (hl : vs.length ≤ 140737488355328)
    (h0 : Chk4 c vs ≠ 0 → ∀ H', Keep H H' → Q (none, Chk4 c vs) H')
    (h1 : Chk4 c vs = 0 → ∀ t tv H', Tab H' t tv c vs → Keep H H' → (∀ b ∈ t :: fp tv, H.size ≤ b) → Q (some ⟨t, 0, none⟩, 0) H') : huff_New.s c s H Q := by
  unfold huff_New.s
  intro b1 H2 c2 g1 g1'
  have k2 : Keep H H2 := c2.keep (by simp)
  refine Check_ok hc (hs.keep k2) hv hl fun H4 k4 => ⟨Pv.keep k4 (by simpa using g1'), ?_⟩
  by_cases hz : Chk4 c vs = 0
  rotate_left
  · exact ite_t (bnet hz) (h0 hz _ (k2.trans k4))
  have hm := may4 hz
  refine ite_f (bnei hz) ?_
  have k24 := k2.trans k4
  have y24 := k24.size
  refine Clone_ok (hs.keep k24) hl fun tv H7 o7 k7 f7 => ⟨Pv.keep k7 (by have := k4.size; simp at g1' ⊢; omega), ?_⟩
  intro b9 H10 c10 g9 g9' hbk
  have k10 : Keep H7 H10 := c10.keep (by simp)
  have kA := (k24.trans k7).trans k10
  have o10 := o7.ch (k10.ch (F := [])) (by simp)
  have hne : b9 ∉ fp tv := fun hb => by have := o7.fp_lt b9 hb; omega
  have y7 := k7.size
  have hb9 : H.size ≤ b9 := by omega
  have hp1 : ∀ j ∈ [b1], j ≠ b9 := fun j hj => by
    have := k4.size
    simp at hj
    omega
  refine Fix.intro (fun (x : Int × Int × Int) H' => ∃ (i : Nat) (cs : List Value), x = ((fcq (cnt c) i : Int), (plq (cnt c) i : Int), ((i + 1 : Nat) : Int)) ∧ i ≤ 16 ∧ Bk H' b9 114 cs ∧ TabC (cnt c) ((prs c vs).take (plq (cnt c) i)) tv cs i ∧ Own H' 5 1 tv (vs.flatMap cB) ∧ Keep H H') (fun x _ => 17 - x.2.2.toNat)
    ⟨0, _, by rw [fcq, plq]; rfl, by omega, hbk, by have := TabC.zero (cnt c) tv; simpa [plq] using this, o10, kA⟩ ?_
  rintro _ H14 ⟨i, cs, rfl, hi, b14, T14, o14, k14⟩ rec hrec
  simp only
  by_cases h16 : i < 16
  rotate_left
  · obtain rfl : i = 16 := by omega
    refine ite_f (decf (by omega)) (h1 hz b9 tv H14 ⟨⟨cs, b14, ?_⟩, o14, hne⟩ k14 fun b hb => ?_)
    · rw [List.take_of_length_le (by rw [prs_len hm, hm.len]; exact Nat.le_refl _)] at T14
      exact T14
    · rcases List.mem_cons.1 hb with rfl | hb
      · exact hb9
      · have := f7 b hb; omega
  obtain ⟨e1, e2⟩ := cnt_ok hc i
  have hfit := hm.fit i h16
  have hfit' := pow_lt (show i + 1 ≤ 16 by omega)
  have p16 : (2 : Nat) ^ 16 = 65536 := rfl
  have hplf := plq_far (q := cnt c) h16
  have hplen := hm.len
  have hmost := hm.most
  have e4 : IntKind.wrap .i64 (((i + 1 : Nat) : Int) - 1) = (i : Int) := by rw [show ((i + 1 : Nat) : Int) - 1 = (i : Int) from by omega, w64n (by omega)]
  rw [e4]
  refine ite_t (dect (by omega)) ⟨by omega, by omega, Lt.of ⟨by omega, by omega, ?_⟩⟩
  rw [e1, w64n (x := cnt c i) (by omega), Int.toNat_natCast, add_mk, add_mk, add_mk, Nat.mul_one]
  refine st_i b14 (by rw [T14.len]; omega) fun H24 b24 s24 => ⟨fun j hj => s24.block j (hp1 j hj), by omega, by omega, ?_⟩
  refine st_i b24 (by simp [T14.len]; omega) fun H28 b28 s28 => ⟨fun j hj => s28.block j (hp1 j hj), by omega, by omega, ?_⟩
  refine st_i b28 (by simp [T14.len]; omega) fun H32 b32 s32 => ⟨fun j hj => s32.block j (hp1 j hj), ?_⟩
  have hob : ∀ b ∈ fp tv, b ∉ [b9] := ni hne
  have o32 := ((o14.ch s24.ch hob).ch s28.ch hob).ch s32.ch hob
  have k32 := ((k14.same s24 hb9).same s28 hb9).same s32 hb9
  refine Fix.intro (fun (x : Int × Int × Int) H' => ∃ (k : Nat) (cs : List Value), x = (((fcq (cnt c) i + k : Nat) : Int), ((plq (cnt c) i + k : Nat) : Int), (k : Int)) ∧ k ≤ cnt c i ∧ Bk H' b9 114 cs ∧ TabC (cnt c) ((prs c vs).take (plq (cnt c) i + k)) tv cs (i + 1) ∧ Own H' 5 1 tv (vs.flatMap cB) ∧ Keep H H') (fun x _ => cnt c i - x.2.2.toNat)
    ⟨0, _, rfl, by omega, b32, T14.rowset h16, o32, k32⟩ ?_
  rintro _ H37 ⟨k, cs', rfl, hk, b37, T37, o37, k37⟩ rec2 hrec2
  simp only
  by_cases hkq : k < cnt c i
  · refine ite_t (dect (by omega)) ?_
    have hat : plq (cnt c) i + k < vs.length := by omega
    have hvw := o37.view cB_len (by omega)
    obtain ⟨b, o, ha, hA⟩ := hvw.get (List.getElem?_eq_getElem hat)
    have hvn := hvw.n
    have hx := hv _ (List.getElem_mem hat)
    refine ldL_i b37 T37.vals ⟨by omega, by omega, _, ha, ?_⟩
    rw [Int.toNat_natCast]
    refine ldI_of0 hA rfl ⟨by omega, by omega, ?_⟩
    rw [Int.toNat_natCast, add_mk, add_mk, Nat.mul_one, Nat.zero_add, wu16 (x := ((fcq (cnt c) i + k : Nat) : Int)) (by omega), wu8n (x := i + 1) (by omega)]
    refine st_i b37 (by rw [T37.len]; omega) fun H51 b51 s51 => ⟨fun j hj => s51.block j (hp1 j hj), by omega, by omega, ?_⟩
    refine st_i b51 (by simp [T37.len]; omega) fun H55 b55 s55 => ⟨fun j hj => s55.block j (hp1 j hj), ?_⟩
    have hget := cds_get (q := cnt c) hkq h16
    have hpr := prs_get (c := c) (vs := vs) (List.getElem?_eq_getElem hat) hget
    have hpl : plq (cnt c) i + k < (prs c vs).length := (List.getElem?_eq_some_iff.1 hpr).1
    have htk : (prs c vs).take (plq (cnt c) i + (k + 1)) = (prs c vs).take (plq (cnt c) i + k) ++ [(vs[plq (cnt c) i + k], i + 1, fcq (cnt c) i + k)] := by
      rw [← Nat.add_assoc, take_snoc hpl, (List.getElem?_eq_some_iff.1 hpr).2]
    have hnk : vs[plq (cnt c) i + k] ∉ ((prs c vs).take (plq (cnt c) i + k)).map (·.1) := by
      rw [List.map_take, prs_keys hm]
      have := nodup_take (plq (cnt c) i + k + 1) hm.nodup
      rw [take_snoc hat] at this
      exact (nodup_snoc.1 this).2
    rw [show ((fcq (cnt c) i + k : Nat) : Int) + 1 = ((fcq (cnt c) i + (k + 1) : Nat) : Int) from by omega, show ((plq (cnt c) i + k : Nat) : Int) + 1 = ((plq (cnt c) i + (k + 1) : Nat) : Int) from by omega, show (k : Int) + 1 = ((k + 1 : Nat) : Int) from by omega, w64n (by omega), w64n (by omega), w64n (by omega)]
    refine hrec2 _ _ ⟨k + 1, _, rfl, by omega, b55, ?_, (o37.ch s51.ch hob).ch s55.ch hob, (k37.same s51 hb9).same s55 hb9⟩ (by simp; omega)
    rw [htk]
    exact T37.codeset (by omega) hx hnk
  · obtain rfl : k = cnt c i := by omega
    refine ite_f (decf (by omega)) ?_
    have e5 : shlI .i64 ((fcq (cnt c) i + cnt c i : Nat) : Int) 1 = ((fcq (cnt c) (i + 1) : Nat) : Int) := by
      have := shln (k := .i64) (x := fcq (cnt c) i + cnt c i) (n := 1) (by decide) (w64n (by omega))
      rw [show ((1 : Nat) : Int) = (1 : Int) from rfl] at this
      rw [this, fcq]
      omega
    rw [e5, show ((i + 1 : Nat) : Int) + 1 = ((i + 1 + 1 : Nat) : Int) from by omega, w64n (by omega)]
    have ep : plq (cnt c) (i + 1) = plq (cnt c) i + cnt c i := by rw [plq]
    exact hrec _ _ ⟨i + 1, cs', by rw [ep], by omega, b37, by rw [ep]; exact T37, o37, k37⟩ (by simp; omega)
end
theorem nwA_i {H : Hp} {T : TypeId} {cs : Array Value} {K : Addr → Hp → Prop} (h : ∀ H', Bk H' H.size T cs.toList → Keep H H' → H'.size = H.size + 1 → K ⟨H.size, 0, none⟩ H') : nwA H T cs K := by
  refine h _ ?_ ⟨by simp, fun k hk => ?_⟩ (by simp)
  · unfold Bk; simp
  · rw [Array.getElem?_push, if_neg (by omega)]
theorem low_nat (v n : Nat) : low (v : Int) n = v % 2 ^ n := by
  unfold low
  rw [← Int.natCast_emod, Int.toNat_natCast]
section
variable {H : Hp} {c : Cn} {vs : List Nat}
theorem Write_ok4 {t k v : Nat} {s sk : Sl} {l : List Bool} {Q : Bool → Hp → Prop} (T : Tab H t s c vs) (hm : May4 c vs) (K : Snk H k sk l) (hv : v < 256) (hl : l.length ≤ 562949953420000)
    (h0 : (lkp (prs c vs) v).1 = 0 → Q false H)
    (h : (lkp (prs c vs) v).1 ≠ 0 → ∀ s' H', Snk H' k s' (l ++ bl (lkp (prs c vs) v).1 (lkp (prs c vs) v).2) → Ch (k :: fp sk) H H' → (∀ b ∈ fp s', b ∈ fp sk ∨ H.size ≤ b) → Q true H') : huff_Table_Write.s (some ⟨t, 0, none⟩) (some ⟨k, 0, none⟩) (v : Int) H Q := by
  obtain ⟨⟨cs, h1, h2⟩, _⟩ := T
  obtain ⟨g1, g2⟩ := h2.code v hv
  obtain ⟨f1, f2, f3⟩ := lkp_fit hm v
  have f4 := pow_lt f1
  have p16 : (2 : Nat) ^ 16 = 65536 := rfl
  unfold huff_Table_Write.s
  refine Join.intro (fun b H' => b = decide ((lkp (prs c vs) v).1 = 0) ∧ H = H') ?_ fun J hJ => ?_
  · rintro _ _ ⟨rfl, rfl⟩
    by_cases e : (lkp (prs c vs) v).1 = 0
    · exact ite_t (dect e) (h0 e)
    · refine ite_f (decf e) ⟨_, rfl, by omega, by omega, by omega, by omega, ?_⟩
      rw [add_mk, add_mk, add_mk, add_mk, Int.toNat_natCast]
      refine ldI_i h1 (by rw [show 0 + 0 + v * 1 = v from by omega]; exact g1) (ldI_i h1 (by rw [show 0 + 256 + v * 1 = 256 + v from by omega]; exact g2) ?_)
      rw [w64n (by omega), w64n (by omega)]
      refine Put_ok K hl (by omega) fun _ _ s' H' K' c' f' => h e s' H' ?_ c' f'
      rw [Int.toNat_natCast, low_nat, Nat.mod_eq_of_lt f2] at K'
      exact K'
  · refine ite_f rfl ⟨_, rfl, by omega, by omega, ?_⟩
    rw [add_mk, add_mk, Int.toNat_natCast]
    refine ldI_i h1 (by rw [show 0 + 256 + v * 1 = 256 + v from by omega]; exact g2) (hJ _ _ ⟨?_, rfl⟩)
    by_cases e : (lkp (prs c vs) v).1 = 0
    · rw [dect e]; exact beqi (by omega)
    · rw [decf e]; exact beqf (by omega)
end
section
variable {c : Cn} {vs : List Nat} {B : List Bool}
end
section
variable {H : Hp} {c : Cn} {vs : List Nat}
end
def codB (c : Cn) (vs : List Nat) (w : Nat) : List Bool := bl (lkp (prs c vs) w).1 (lkp (prs c vs) w).2
section
variable {c : Cn} {vs : List Nat}
theorem codB_len (w : Nat) : (codB c vs w).length = (lkp (prs c vs) w).1 := bl_len _ _
end
end Go.Proofs.Ytmnoecpnoofdjaa.G
