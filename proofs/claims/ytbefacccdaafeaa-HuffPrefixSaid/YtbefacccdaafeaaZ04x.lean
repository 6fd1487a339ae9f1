/- Layer 4: codes rise, how many and how long they are: plain Lean. -/
import Derived.Test.YtbefacccdaafeaaZ04u
namespace Go.Proofs.Ytbefacccdaafeaa.G
open Go.RowKit
set_option linter.unusedVariables false
set_option linter.unusedSimpArgs false

theorem Own.kpx {H H' : Hp} {T : TypeId} {sz : Nat} {s : Sl} {cs : List Value} (h : Own H T sz s cs) (k : Keep H H') : Own H' T sz s cs := h.ch (k.ch (F := [])) (by simp)
theorem lbegins_okx {a b : List Bool} {H : Hp} {Q : Bool → Hp → Prop} (h : Q (decide (a.length ≤ b.length ∧ b.take a.length = a)) H) : mosaiclaw04_begins.s (tx a) (tx b) H Q := by
  unfold mosaiclaw04_begins.s
  rw [tx_size, tx_size]
  by_cases h1 : a.length ≤ b.length
  · refine ite_t (dect (by omega)) ⟨by omega, by omega, ?_⟩
    rw [Int.toNat_natCast, tx_take, tx_eq]
    have e : decide (b.take a.length = a) = decide (a.length ≤ b.length ∧ b.take a.length = a) := by simp [h1]
    rw [e]
    exact h
  · refine ite_f (decf (by omega)) ?_
    rw [decf fun x => h1 x.1] at h
    exact h
theorem take_snocq {α : Type} {l : List α} {i : Nat} {x : α} (h : l[i]? = some x) : l.take (i + 1) = l.take i ++ [x] := by
  rw [List.take_add_one, h]; rfl
theorem tb_div {n v : Nat} (hv : v < 2 ^ (n + 1)) : v.testBit n = decide (v / 2 ^ n = 1) := by
  have h : v / 2 ^ n < 2 := by rw [Nat.div_lt_iff_lt_mul (Nat.pow_pos (by omega))]; rw [Nat.pow_succ] at hv; omega
  rw [Nat.testBit_eq_decide_div_mod_eq, Nat.mod_eq_of_lt h]
theorem bl_less : ∀ {n v u : Nat}, v < u → u < 2 ^ n → ∃ p r r', bl n v = p ++ false :: r ∧ bl n u = p ++ true :: r'
  | 0, v, u, h1, h2 => by simp at h2; omega
  | n + 1, v, u, h1, h2 => by
    have hp : 0 < 2 ^ n := Nat.pow_pos (by omega)
    have e1 := Nat.div_add_mod v (2 ^ n)
    have e2 := Nat.div_add_mod u (2 ^ n)
    have m1 := Nat.mod_lt v hp
    have m2 := Nat.mod_lt u hp
    have d2 : u / 2 ^ n < 2 := by rw [Nat.div_lt_iff_lt_mul hp]; rw [Nat.pow_succ] at h2; omega
    have dle : v / 2 ^ n ≤ u / 2 ^ n := Nat.div_le_div_right (by omega)
    rw [bl, bl, tb_div (v := v) (by omega), tb_div h2]
    rcases Nat.eq_or_lt_of_le dle with e | e
    · rw [e] at e1 ⊢
      obtain ⟨p, r, r', q1, q2⟩ := bl_less (n := n) (v := v % 2 ^ n) (u := u % 2 ^ n) (by omega) m2
      rw [bl_mod (Nat.le_refl _)] at q1 q2
      exact ⟨_ :: p, r, r', by rw [q1]; rfl, by rw [q2]; rfl⟩
    · have z : ∀ {x y : Nat}, x < y → y < 2 → x = 0 ∧ y = 1 := by omega
      obtain ⟨z1, z2⟩ := z e d2
      rw [z1, z2]
      exact ⟨[], _, _, rfl, rfl⟩
theorem tx_list (l : List Bool) : (tx l).toList = l.map fun b => UInt8.ofNat (48 + b.toNat) := by
  rw [ba_toList]
  unfold tx bytesOf
  simp [Function.comp_def]
theorem less_app : ∀ (p : List UInt8) (a b : UInt8) (r r' : List UInt8), a < b → Op.bytesLess (p ++ a :: r) (p ++ b :: r') = true
  | [], a, b, r, r', h => by simp [Op.bytesLess, h]
  | x :: p, a, b, r, r', h => by
    have := less_app p a b r r' h
    simp [Op.bytesLess, this]
/-- A part of both, then 0 in the one, 1 in the other. -/
def Spl (a b : List Bool) : Prop := ∃ p r r', a = p ++ false :: r ∧ b = p ++ true :: r'
theorem Spl.less {a b : List Bool} (h : Spl a b) : Op.bytesLess (tx a).toList (tx b).toList = true := by
  obtain ⟨p, r, r', rfl, rfl⟩ := h
  rw [tx_list, tx_list, List.map_append, List.map_append]
  exact less_app _ _ _ _ _ (by decide)
theorem Spl.no1 {a b : List Bool} (h : Spl a b) : ¬ (a.length ≤ b.length ∧ b.take a.length = a) := by
  obtain ⟨p, r, r', rfl, rfl⟩ := h
  rintro ⟨_, h⟩
  have := congrArg (fun l => l[p.length]?) h
  simp at this
theorem Spl.no2 {a b : List Bool} (h : Spl a b) : ¬ (b.length ≤ a.length ∧ a.take b.length = b) := by
  obtain ⟨p, r, r', rfl, rfl⟩ := h
  rintro ⟨_, h⟩
  have := congrArg (fun l => l[p.length]?) h
  simp at this
section
variable {q : Nat → Nat}
theorem cds_spl (hq : Fits q) {i j n v n' v' : Nat} (h : (cds q 16)[i]? = some (n, v)) (h' : (cds q 16)[j]? = some (n', v')) (hij : i < j) : Spl (bl n v) (bl n' v') := by
  obtain ⟨h1, h2⟩ := cds_up h h' hij
  have f := (cds_fit hq h').2.2
  have hp : 0 < 2 ^ (n' - n) := Nat.pow_pos (by omega)
  have hu : v < v' / 2 ^ (n' - n) := (Nat.le_div_iff_mul_le hp).2 h2
  have hu2 : v' / 2 ^ (n' - n) < 2 ^ n := by
    rw [Nat.div_lt_iff_lt_mul hp, ← Nat.pow_add, show n + (n' - n) = n' from by omega]
    omega
  obtain ⟨p, r, r', e1, e2⟩ := bl_less hu hu2
  refine ⟨p, r, r' ++ bl (n' - n) v', e1, ?_⟩
  have := bl_app (b := n' - n) (v := v') n
  rw [show n + (n' - n) = n' from by omega, e2] at this
  simpa using this
/-- The weights of codes. -/
def smw (L : List (Nat × Nat)) : Nat := (L.map fun p => 2 ^ (16 - p.1)).sum
theorem smw_snoc (L : List (Nat × Nat)) (x : Nat × Nat) : smw (L ++ [x]) = smw L + 2 ^ (16 - x.1) := by simp [smw]
theorem smw_app (L M : List (Nat × Nat)) : smw (L ++ M) = smw L + smw M := by simp [smw]
theorem smw_same (n : Nat) : ∀ L : List (Nat × Nat), (∀ x ∈ L, x.1 = n) → smw L = L.length * 2 ^ (16 - n)
  | [], _ => by simp [smw]
  | x :: L, h => by
    have ih := smw_same n L fun y hy => h y (List.mem_cons_of_mem _ hy)
    have := h x (by simp)
    unfold smw at ih ⊢
    rw [List.map_cons, List.sum_cons, ih, this, List.length_cons, Nat.add_mul]
    omega
theorem smw_cds (c : Cn) : ∀ l, l ≤ 16 → smw (cds (cnt c) l) = wS c l
  | 0, _ => by simp [cds, smw, wS]
  | l + 1, h => by
    rw [cds, smw_app, smw_cds c l (by omega), wS, smw_same (l + 1)]
    · rw [List.length_map, List.length_range, show 16 - (l + 1) = 15 - l from by omega]
    · intro x hx
      obtain ⟨k, _, rfl⟩ := List.mem_map.1 hx
      rfl
/-- How many have a length. -/
def hml (L : List (Nat × Nat)) (l : Nat) : Nat := L.countP fun p => p.1 == l + 1
theorem hml_snoc (L : List (Nat × Nat)) (x : Nat × Nat) (l : Nat) : hml (L ++ [x]) l = hml L l + if x.1 = l + 1 then 1 else 0 := by
  unfold hml
  rw [List.countP_append, List.countP_cons]
  simp
theorem hml_cds (q : Nat → Nat) (l : Nat) : ∀ m, hml (cds q m) l = if l < m then q l else 0
  | 0 => by simp [cds, hml]
  | m + 1 => by
    have e : hml ((List.range (q m)).map fun k => (m + 1, fcq q m + k)) l = if m = l then q m else 0 := by
      unfold hml
      rw [List.countP_map]
      by_cases g : m = l
      · subst g
        rw [if_pos rfl]
        have : (List.range (q m)).countP ((fun p : Nat × Nat => p.1 == m + 1) ∘ fun k => (m + 1, fcq q m + k)) = (List.range (q m)).length := List.countP_eq_length.2 fun _ _ => by simp
        rw [this, List.length_range]
      · rw [if_neg g]
        exact List.countP_eq_zero.2 fun _ _ => by simp; omega
    have ih := hml_cds q l m
    have a : hml (cds q (m + 1)) l = hml (cds q m) l + hml ((List.range (q m)).map fun k => (m + 1, fcq q m + k)) l := by
      rw [cds]
      unfold hml
      rw [List.countP_append]
    rw [a, e, ih]
    by_cases g : m = l
    · subst g; rw [if_pos rfl, if_neg (show ¬ m < m by omega), if_pos (show m < m + 1 by omega), Nat.zero_add]
    · rw [if_neg g, Nat.add_zero]
      by_cases g2 : l < m
      · rw [if_pos g2, if_pos (by omega)]
      · rw [if_neg g2, if_neg (by omega)]
theorem hml_take (L : List (Nat × Nat)) (i l : Nat) : hml (L.take i) l ≤ hml L l := by
  unfold hml
  exact List.Sublist.countP_le (List.take_sublist i L)
def kk (L : List (Nat × Nat)) : List Int := (List.range 16).map fun l => (hml L l : Int)
theorem kk_len (L : List (Nat × Nat)) : (kk L).length = 16 := by simp [kk]
theorem kk_get (L : List (Nat × Nat)) {l : Nat} (h : l < 16) : (kk L)[l]? = some (hml L l : Int) := by
  unfold kk
  rw [List.getElem?_map, List.getElem?_range h]
  rfl
theorem kk_snoc {L : List (Nat × Nat)} {x : Nat × Nat} {l : Nat} (h : x.1 = l + 1) (hl : l < 16) : kk (L ++ [x]) = (kk L).set l (((hml L l + 1 : Nat) : Nat) : Int) := by
  refine List.ext_getElem? fun j => ?_
  rw [List.getElem?_set, kk_len]
  by_cases hj : j < 16
  · rw [kk_get _ hj, kk_get _ hj, hml_snoc, h]
    by_cases e : l = j
    · subst e; simp [hl]
    · rw [if_neg e, if_neg (by omega)]; simp
  · rw [List.getElem?_eq_none (by rw [kk_len]; omega), if_neg (by omega), List.getElem?_eq_none (by rw [kk_len]; omega)]
theorem kk_all {c : Cn} (hc : cOk c) : kk (cds (cnt c) 16) = c.1 := by
  refine List.ext_getElem? fun j => ?_
  by_cases hj : j < 16
  · have hl : j < c.1.length := by rw [c.2]; exact hj
    rw [kk_get _ hj, hml_cds, if_pos hj, ← (cnt_ok hc j).1]
    unfold ixI
    rw [List.getD_eq_getElem?_getD, Int.toNat_natCast, List.getElem?_eq_getElem hl]
    rfl
  · rw [List.getElem?_eq_none (by rw [kk_len]; omega), List.getElem?_eq_none (by rw [c.2]; omega)]
theorem some_no {n v : Nat} (h : v + 1 < 2 ^ n) : (bl n v).all id = false := by
  obtain ⟨p, r, r', e, _⟩ := bl_less (n := n) (v := v) (u := v + 1) (by omega) h
  rw [e]
  simp
end
end Go.Proofs.Ytbefacccdaafeaa.G
