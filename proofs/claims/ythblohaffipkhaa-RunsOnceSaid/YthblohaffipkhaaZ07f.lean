/- Layer 7: a block's symbols are the block; RunsNames, RunsBack, RunsStep. -/
import Derived.Test.YthblohaffipkhaaZ07e
import Derived.Test.YthblohaffipkhaaKRunsNames
import Derived.Test.YthblohaffipkhaaKRunsBack
import Derived.Test.YthblohaffipkhaaKRunsStep
namespace Go.Proofs.Ythblohaffipkhaa.G
open Go.RowKit
set_option linter.unusedVariables false
set_option linter.unusedSimpArgs false
set_option maxRecDepth 20000

theorem vF_valF {b w : Nat} (h : b < 2 ^ w) : vF b w = valF (b : Int) w := by
  unfold vF valF
  by_cases h0 : w = 0
  · subst h0
    have : b = 0 := by simpa using h
    subst this
    simp
  · rw [if_neg h0]
    by_cases h1 : 2 ^ (w - 1) ≤ b
    · rw [if_pos (.inr h1), if_neg (by omega)]
    · rw [if_neg (by omega), if_pos (by omega)]; omega
theorem vF_back {v : Int} (h : bln v.natAbs ≤ 11) : vF (bitsF v).toNat (bln v.natAbs) = v ∧ (bitsF v).toNat < 2 ^ bln v.natAbs := by
  have hr := bitsF_range (v := v) (by omega)
  have hlt : (bitsF v).toNat < 2 ^ bln v.natAbs := by omega
  refine ⟨?_, hlt⟩
  rw [vF_valF hlt, Int.toNat_of_nonneg hr.1]
  exact valF_bitsF (by omega)
/-- The first k coefficients, and zeros. -/
def ex0 (B : List Int) (k : Nat) : List Int := B.take k ++ List.replicate (64 - k) 0
section
variable {B : List Int} {pred : Int}
theorem ex0_zero (hB : B.length = 64) {k : Nat} (hk : k < 64) (h : B.getD k 0 = 0) : ex0 B (k + 1) = ex0 B k := by
  unfold ex0
  rw [take_snoc' (getD_at (by omega)), h, List.append_assoc, show 64 - k = (64 - (k + 1)) + 1 from by omega, List.replicate_succ]
  rfl
theorem ex0_set (hB : B.length = 64) {k : Nat} (hk : k < 64) : (ex0 B k).set k (B.getD k 0) = ex0 B (k + 1) := by
  unfold ex0
  have hl : (B.take k).length = k := by simp; omega
  rw [List.set_append_right _ _ (by omega), hl, Nat.sub_self, show 64 - k = (64 - (k + 1)) + 1 from by omega, List.replicate_succ, List.set_cons_zero, take_snoc' (getD_at (by omega)), List.append_assoc]
  rfl
theorem ex0_all (hB : B.length = 64) : ex0 B 64 = B := by
  unfold ex0
  rw [List.take_of_length_le (by omega)]
  simp
theorem tF_f0 {X : List Int} {n : Nat} (h1 : 1 ≤ n) (h2 : n + 16 ≤ 63) : tF pred X n 240 0 0 = (0, X, n + 16) := by
  have hw : wF n 240 = (0, 0) := by
    unfold wF
    rw [if_neg (by omega), if_neg (by omega), if_neg (by omega), if_pos rfl, if_neg (by omega)]
  unfold tF
  rw [hw]
  simp
  omega
theorem tF_end {X : List Int} {n : Nat} (h1 : 1 ≤ n) (h2 : n ≤ 63) : tF pred X n 0 0 0 = (0, X, 64) := by
  have hw : wF n 0 = (0, 0) := by
    unfold wF
    rw [if_neg (by omega), if_neg (by omega), if_pos rfl]
  unfold tF
  rw [hw]
  simp
  omega
theorem tF_sm {X : List Int} {n z : Nat} {v : Int} (h1 : 1 ≤ n) (hz : z ≤ 15) (h2 : n + z ≤ 63) (hv : v ≠ 0) (hv2 : -1023 ≤ v ∧ v ≤ 1023) : tF pred X n (smF z v).1 (smF z v).2.1 (smF z v).2.2 = (0, X.set (n + z) v, n + z + 1) := by
  have h10 : bln v.natAbs ≤ 10 := (bln_le _ _).2 (by have : (2 : Nat) ^ 10 = 1024 := rfl; omega)
  have h0 := bln_pos (n := v.natAbs) (by omega)
  obtain ⟨q1, q2⟩ := vF_back (v := v) (by omega)
  have e1 : (16 * z + bln v.natAbs) % 16 = bln v.natAbs := by omega
  have e2 : (16 * z + bln v.natAbs) / 16 = z := by omega
  have hw : wF n (16 * z + bln v.natAbs) = (bln v.natAbs, 0) := by
    unfold wF
    rw [if_neg (by omega), if_neg (by omega), if_neg (by omega), if_neg (by omega), e1, e2, if_neg (by omega), if_neg (by omega)]
  unfold smF tF
  simp only
  rw [hw]
  simp only
  rw [if_neg (by omega), if_neg (by omega), if_neg (by omega), if_neg (by omega), if_neg (by omega), e2, q1]
theorem bF_cons {X : List Int} {n m : Nat} {Y : List Int} {x : Sy} {r : List Sy} (h : tF pred X n x.1 x.2.1 x.2.2 = (0, Y, m)) : bF pred X n (x :: r) = bF pred Y m r := by
  rw [bF, h, if_neg (by simp)]
theorem back_wk (hB : B.length = 64) (hm : mayB B) : ∀ m k n, 64 - k = m → k ≤ 64 → 1 ≤ n → n ≤ k → bF pred (ex0 B k) n (wk (k - n) (B.drop k)) = (B, 0) := by
  intro m
  induction m with
  | zero =>
    intro k n h1 h2 h3 h4
    obtain rfl : k = 64 := by omega
    rw [List.drop_eq_nil_of_le (by omega), wk, ex0_all hB]
    by_cases hn : 0 < 64 - n
    · rw [if_pos hn, bF_cons (tF_end h3 (by omega)), bF, if_pos rfl]
    · rw [if_neg hn, bF, if_pos (by omega)]
  | succ m ih =>
    intro k n h1 h2 h3 h4
    have hk : k < 64 := by omega
    rw [drop_cons (getD_at (by omega) : B[k]? = some (B.getD k 0))]
    by_cases hv : B.getD k 0 = 0
    · rw [wk, if_pos hv, ← ex0_zero hB hk hv, show k - n + 1 = k + 1 - n from by omega]
      exact ih (k + 1) n (by omega) (by omega) h3 (by omega)
    · have key : ∀ d n, k - n = d → 1 ≤ n → n ≤ k → bF pred (ex0 B k) n (wk (k - n) (B.getD k 0 :: B.drop (k + 1))) = (B, 0) := by
        intro d
        induction d using Nat.strongRecOn with
        | ind d ih2 =>
          intro n q1 q2 q3
          by_cases h16 : 16 ≤ k - n
          · rw [wk_16 h16 hv, bF_cons (tF_f0 q2 (by omega)), show k - n - 16 = k - (n + 16) from by omega]
            exact ih2 (k - (n + 16)) (by omega) (n + 16) rfl (by omega) (by omega)
          · have hr := hm.2 k (by omega) hk
            rw [wk_small (by omega) hv, bF_cons (tF_sm q2 (by omega) (by omega) hv hr), show n + (k - n) = k from by omega, ex0_set hB hk]
            have := ih (k + 1) (k + 1) (by omega) (by omega) (by omega) (Nat.le_refl _)
            rw [Nat.sub_self] at this
            exact this
      exact key (k - n) n rfl h3 h4
theorem blk_back (hB : B.length = 64) (hm : mayB B) (hd : bln (B.getD 0 0 - pred).natAbs ≤ 11) : blkF pred (syF B pred) = (B, 0) := by
  obtain ⟨q1, q2⟩ := vF_back hd
  have e : 16 * 0 + bln (B.getD 0 0 - pred).natAbs = bln (B.getD 0 0 - pred).natAbs := by omega
  have hw : wF 0 (bln (B.getD 0 0 - pred).natAbs) = (bln (B.getD 0 0 - pred).natAbs, 0) := by
    unfold wF
    rw [if_neg (by omega), if_pos rfl, if_neg (by omega)]
  have h1 : tF pred zB 0 (smF 0 (B.getD 0 0 - pred)).1 (smF 0 (B.getD 0 0 - pred)).2.1 (smF 0 (B.getD 0 0 - pred)).2.2 = (0, ex0 B 1, 1) := by
    unfold smF tF
    simp only
    rw [e, hw]
    simp only
    have hs := ex0_set (B := B) hB (k := 0) (by omega)
    have hz : ex0 B 0 = zB := rfl
    rw [hz] at hs
    have h0 := hm.1
    rw [if_neg (by omega), if_neg (by omega), if_pos trivial, q1, show pred + (B.getD 0 0 - pred) = B.getD 0 0 from by omega, if_neg (by omega), hs]
  unfold blkF syF
  rw [bF_cons h1]
  have := back_wk (pred := pred) hB hm 63 1 1 rfl (by omega) (by omega) (by omega)
  rw [Nat.sub_self] at this
  exact this
theorem wk_mem : ∀ (r : List Int) (z : Nat), (∀ v ∈ r, -1023 ≤ v ∧ v ≤ 1023) → ∀ x ∈ wk z r, x.2.1 = ((x.1 % 16 : Nat) : Int) ∧ x.1 % 16 ≤ 10 ∧ x.2.2 < 2 ^ (x.1 % 16) ∧ smOk x
  | [], z, _, x, h => by
    unfold wk at h
    split at h
    · simp at h; subst h
      refine ⟨rfl, by omega, by decide, ?_⟩
      unfold smOk; simp
    · simp at h
  | v :: r, z, hv, x, h => by
    have hr : ∀ v ∈ r, -1023 ≤ v ∧ v ≤ 1023 := fun u hu => hv u (by simp [hu])
    unfold wk at h
    split at h
    · exact wk_mem r (z + 1) hr x h
    · rename_i hv0
      rcases List.mem_append.1 h with h | h
      · have := List.eq_of_mem_replicate h
        subst this
        refine ⟨rfl, by decide, by decide, ?_⟩
        unfold smOk; simp
      · rcases List.mem_cons.1 h with rfl | h
        · have hb := hv v (by simp)
          have h10 : bln v.natAbs ≤ 10 := (bln_le _ _).2 (by have : (2 : Nat) ^ 10 = 1024 := rfl; omega)
          obtain ⟨q1, q2⟩ := vF_back (v := v) (by omega)
          have e1 : (16 * (z % 16) + bln v.natAbs) % 16 = bln v.natAbs := by omega
          refine ⟨?_, ?_, ?_, (smF_ok (by omega) (by omega)).2⟩
          · show (bln v.natAbs : Int) = (((16 * (z % 16) + bln v.natAbs) % 16 : Nat) : Int)
            rw [e1]
          · show (16 * (z % 16) + bln v.natAbs) % 16 ≤ 10
            omega
          · show (bitsF v).toNat < 2 ^ ((16 * (z % 16) + bln v.natAbs) % 16)
            rw [e1]; exact q2
        · exact wk_mem r 0 hr x h
theorem may_mem (hB : B.length = 64) (hm : mayB B) : ∀ v ∈ B.drop 1, -1023 ≤ v ∧ v ≤ 1023 := fun v hv => by
  obtain ⟨i, hi⟩ := List.mem_iff_getElem?.1 hv
  rw [List.getElem?_drop] at hi
  have hlt := (List.getElem?_eq_some_iff.1 hi).1
  have := hm.2 (1 + i) (by omega) (by omega)
  rw [List.getD_eq_getElem?_getD, hi] at this
  exact this
theorem syF_ok (hB : B.length = 64) (hm : mayB B) (hp : -32768 ≤ pred ∧ pred ≤ 32767) (hd : bln (B.getD 0 0 - pred).natAbs ≤ 11) : ∀ x ∈ syF B pred, smOk x := by
  intro x hx
  rcases List.mem_cons.1 hx with rfl | hx
  · have h1 := (bln_le _ _).1 hd
    have p11 : (2 : Nat) ^ 11 = 2048 := rfl
    exact (smF_ok (by omega) (by omega)).2
  · exact (wk_mem _ _ (may_mem hB hm) x hx).2.2.2
end

/-! ### alive -/
def lvB : Ints 64 := mkI (n := 64) [5, (-3), 0, 0, 7, 0, 0, 0, 0, 0, 0, 0, 0, 0, 0, 0, 0, 0, 0, 0, 0, 0, 0, 0, 0, 0, 0, 0, 0, 0, 0, 0, 0, 0, 0, 0, 0, 0, 0, 0, 0, 0, 0, 0, 0, 0, 0, 0, 0, 0, 0, 0, 0, 0, 0, 0, 0, 0, 0, 0, 0, 0, 0, 0] (by rfl)
theorem lv_may : mayB lvB.1 := by
  have h : ∀ k, k < 64 → -1023 ≤ lvB.1.getD k 0 ∧ lvB.1.getD k 0 ≤ 1023 := by decide
  exact ⟨by decide, fun k _ h2 => h k h2⟩
theorem lv_sy : syF lvB.1 7 = [(2, 2, 1), (2, 2, 0), (35, 3, 7), (0, 0, 0)] := by decide
theorem alive_ok {H : Hp} {Q : Bool → Hp → Prop} (h : ∀ H', Keep H H' → Q true H') : mosaiclaw07_alive.s H Q := by
  unfold mosaiclaw07_alive.s
  intro b1 H3 c3 g1 g1'
  have k3 : Keep H H3 := c3.keep (by simp)
  have hd : bln (lvB.1.getD 0 0 - 7).natAbs ≤ 11 := by decide
  refine Symbols_ok (B := lvB) (pred := 7) (by omega) (fun h => absurd lv_may h) (fun _ h => by omega) fun _ _ t H5 o5 k5 _ => ⟨Pv.keep k5 (by simp; omega), ?_⟩
  have y5 := k5.size
  have v5 := o5.view cS_len (by omega)
  have n5 := v5.n
  rw [lv_sy] at n5
  simp at n5
  refine Join.intro (fun b H' => b = false ∧ H5 = H') ?_ fun J hJ => ?_
  rotate_left
  · obtain ⟨b0, o0, a0, A0⟩ := v5.get (i := 0) (x := (2, 2, 1)) (by rw [lv_sy]; rfl)
    obtain ⟨b2, o2, a2, A2⟩ := v5.get (i := 2) (x := (35, 3, 7)) (by rw [lv_sy]; rfl)
    rw [a0] at a2
    injection a2 with a2
    injection a2 with e1 e2
    subst e1 e2
    exact ite_f rfl (ite_f (bnei (by show (t.n : Int) = 4; omega)) ⟨by omega, by show (0 : Int) < (t.n : Int); omega, _, a0, _, _, _, A0, ite_f rfl ⟨by omega, by show (2 : Int) < (t.n : Int); omega, _, _, _, A2, hJ _ _ ⟨rfl, rfl⟩⟩⟩)
  rintro _ _ ⟨rfl, rfl⟩
  refine ite_f rfl (Block_ok7 (by omega) v5 (syF_ok lvB.2 lv_may (by omega) hd) (by rw [lv_sy]; simp) fun B e H11 hB he k11 => ⟨Pv.keep k11 (by simp; omega), ?_⟩)
  intro b13 H15 c15 g13 g13'
  rw [blk_back lvB.2 lv_may hd] at hB he
  refine ite_t (beqi he) ?_
  show Q (B.1 == lvB.1) H15
  rw [hB, beq_self_eq_true]
  exact h _ (((k3.trans k5).trans k11).trans (c15.keep (by simp)))
theorem RunsNames_row (W : World) : mosaiclaw07_RunsNames.s W.heap (fun r H' => r = true ∧ Keep W.heap H') := by
  unfold mosaiclaw07_RunsNames.s
  exact alive_ok fun H' k => ⟨rfl, k⟩

/-! ### RunsBack -/
theorem within_ok {v lo hi : Int} {H : Hp} {Q : Int → Hp → Prop} (hv : -32768 ≤ v ∧ v ≤ 32767) (h1 : lo = -1024 ∨ lo = -1023) (h2 : hi = 1023) (h : ∀ r, lo ≤ r ∧ r ≤ hi → Q r H) : mosaiclaw07_within.s v lo hi H Q := by
  unfold mosaiclaw07_within.s
  rw [w64 (x := v) (by omega), w64 (x := hi - lo) (by omega), w64 (x := hi - lo + 1) (by omega), w64 (x := v - lo) (by omega)]
  have hb : -(hi - lo + 1) < Int.tmod (v - lo) (hi - lo + 1) ∧ Int.tmod (v - lo) (hi - lo + 1) < hi - lo + 1 := by
    have p1 : (0 : Int) < hi - lo + 1 := by omega
    constructor
    · rcases Int.lt_or_le (v - lo) 0 with hn | hn
      · have e : Int.tmod (v - lo) (hi - lo + 1) = - Int.tmod (-(v - lo)) (hi - lo + 1) := by rw [Int.neg_tmod]; omega
        have := Int.tmod_lt_of_pos (-(v - lo)) p1
        omega
      · have := Int.tmod_nonneg (hi - lo + 1) hn
        omega
    · exact Int.tmod_lt_of_pos _ p1
  refine ⟨by omega, Lt.of (Join.intro (fun x H' => (0 ≤ x ∧ x ≤ hi - lo) ∧ H = H') ?_ fun J hJ => ?_)⟩
  · rintro x _ ⟨hx, rfl⟩
    refine Lt.of ?_
    rw [w64 (by omega), w16 (by omega)]
    exact h _ (by omega)
  · by_cases h0 : Int.tmod (v - lo) (hi - lo + 1) < 0
    · refine ite_t (dect h0) (Lt.of (hJ _ _ ⟨?_, rfl⟩))
      rw [w64 (x := Int.tmod (v - lo) (hi - lo + 1) + hi) (by omega), w64 (x := Int.tmod (v - lo) (hi - lo + 1) + hi - lo) (by omega), w64 (by omega)]
      omega
    · exact ite_f (decf h0) (hJ _ _ ⟨by omega, rfl⟩)
theorem fit_ok {B : Ints 64} {H : Hp} {Q : Ints 64 → Hp → Prop} (hb : ∀ v ∈ B.1, -32768 ≤ v ∧ v ≤ 32767) (h : ∀ x H', mayB x.1 → Keep H H' → Q x H') : mosaiclaw07_fit.s B H Q := by
  have hB := B.2
  unfold mosaiclaw07_fit.s
  intro b1 H2 c2 g1 g1' b3 H4 c4 g3 g3' hk
  have k4 : Keep H H4 := (c2.keep (by simp)).trans (c4.keep (by simp))
  have y2 := c2.size
  have hmem : ∀ k, k < 64 → -32768 ≤ B.1.getD k 0 ∧ B.1.getD k 0 ≤ 32767 := fun k hk => hb _ (List.mem_of_getElem? (getD_at (by omega)))
  have hne : ∀ j ∈ [b3], j ≠ b1 := fun j hj => by simp at hj; omega
  refine ldI_i hk (ints_at (by omega)) (within_ok (hmem 0 (by omega)) (.inl rfl) rfl fun r hr => ⟨fun _ _ => rfl, st_i hk (by rw [ints_length]; omega) fun H10 b10 s10 => ⟨fun j hj => s10.block j (hne j hj), ?_⟩⟩)
  have e0 : (ints .i16 B.1).set 0 (.int .i16 r) = ints .i16 (B.1.set 0 r) := by unfold ints; rw [List.map_set]
  rw [e0] at b10
  refine Fix.intro (fun (x : Int) H' => ∃ (i : Nat) (C : List Int), x = (i : Int) ∧ 1 ≤ i ∧ i ≤ 64 ∧ C.length = 64 ∧ Bk H' b1 24 (ints .i16 C) ∧ (-1024 ≤ C.getD 0 0 ∧ C.getD 0 0 ≤ 1023) ∧ (∀ k, 1 ≤ k → k < i → -1023 ≤ C.getD k 0 ∧ C.getD k 0 ≤ 1023) ∧ (∀ k, i ≤ k → k < 64 → -32768 ≤ C.getD k 0 ∧ C.getD k 0 ≤ 32767) ∧ Keep H H') (fun x _ => 64 - x.toNat)
    ⟨1, _, rfl, by omega, by omega, by simp [hB], b10, ?_, fun k h1 h2 => by omega, fun k h1 h2 => ?_, k4.same s10 g1⟩ ?_
  · rw [List.getD_eq_getElem?_getD, List.getElem?_set, if_pos rfl, if_pos (by omega)]; exact hr
  · rw [List.getD_eq_getElem?_getD, List.getElem?_set, if_neg (by omega), ← List.getD_eq_getElem?_getD]; exact hmem k h2
  rintro _ H15 ⟨i, C, rfl, hi1, hi, hC, bC, q0, q1, q2, k15⟩ rec hrec
  by_cases hil : i < 64
  · refine ite_t (dect (by omega)) ⟨by omega, by omega, ?_⟩
    rw [add_mk, Int.toNat_natCast, show 0 + i * 1 = i from by omega]
    refine ldI_i bC (ints_at (by omega)) (within_ok (q2 i (Nat.le_refl _) hil) (.inr rfl) rfl fun r hr => ⟨fun _ _ => rfl, by omega, by omega, st_i bC (by rw [ints_length]; omega) fun H27 b27 s27 => ⟨fun j hj => s27.block j (hne j hj), ?_⟩⟩)
    have e1 : (ints .i16 C).set i (.int .i16 r) = ints .i16 (C.set i r) := by unfold ints; rw [List.map_set]
    rw [e1] at b27
    have gd : ∀ k, (C.set i r).getD k 0 = if i = k then r else C.getD k 0 := fun k => by
      rw [List.getD_eq_getElem?_getD, List.getElem?_set, List.getD_eq_getElem?_getD]
      by_cases e : i = k
      · subst e; rw [if_pos rfl, if_pos (by omega), if_pos rfl]; rfl
      · rw [if_neg e, if_neg e]
    rw [show (i : Int) + 1 = ((i + 1 : Nat) : Int) from by omega, w64n (by omega)]
    refine hrec _ _ ⟨i + 1, _, rfl, by omega, by omega, by simp [hC], b27, ?_, fun k h1 h2 => ?_, fun k h1 h2 => ?_, k15.same s27 g1⟩ (by simp; omega)
    · rw [gd, if_neg (by omega)]; exact q0
    · rw [gd]
      by_cases e : i = k
      · rw [if_pos e]; exact hr
      · rw [if_neg e]; exact q1 k h1 (by omega)
    · rw [gd, if_neg (by omega)]; exact q2 k (by omega) h2
  · obtain rfl : i = 64 := by omega
    refine ite_f (decf (by omega)) ⟨⟨C, hC⟩, ldA_full bC, fun H31 c31 => h _ _ ⟨q0, fun k h1 h2 => q1 k h1 h2⟩ ?_⟩
    exact (k15.ch (F := [])).trans c31 (by simp; omega) |>.keep (by simp)
theorem RunsBack_row (B : Ints 64) (p : Int) (W : World) (hb : ∀ v ∈ B.1, -32768 ≤ v ∧ v ≤ 32767) (hp : -32768 ≤ p ∧ p ≤ 32767) :
    mosaiclaw07_RunsBack.s B p W.heap (fun r H' => r = true ∧ Keep W.heap H') := by
  unfold mosaiclaw07_RunsBack.s
  intro b1 H2 c2 g1 g1'
  have k2 : Keep W.heap H2 := c2.keep (by simp)
  refine alive_ok fun H4 k4 => ⟨Pv.keep k4 (by simp; omega), fit_ok hb fun C H7 hm k7 => ⟨Pv.keep k7 (by have := k4.size; simp; omega), fun H9 c9 => ?_⟩⟩
  have y4 := k4.size
  have y7 := k7.size
  have y9 := c9.size
  have k9 : Keep W.heap H9 := (((k2.trans k4).trans k7).ch (F := [])).trans c9 (by simp; omega) |>.keep (by simp)
  have hC := C.2
  refine within_ok hp (.inl rfl) rfl fun q hq => ⟨fun _ _ => rfl, ?_⟩
  have hd : bln (C.1.getD 0 0 - q).natAbs ≤ 11 := (bln_le _ _).2 (by have := hm.1; have : (2 : Nat) ^ 11 = 2048 := rfl; omega)
  have hlen := syF_len (pred := q) hC
  refine Symbols_ok (by omega) (fun h => absurd hm h) (fun _ h => by omega) fun _ _ t H14 o14 k14 _ => ⟨Pv.keep k14 (by simp; omega), ?_⟩
  have y14 := k14.size
  have v14 := o14.view cS_len (by omega)
  have n14 := v14.n
  refine Join.intro (fun b H' => b = false ∧ H14 = H') ?_ fun J hJ => ?_
  rotate_left
  · obtain ⟨b0, o0, a0, A0⟩ := v14.get (i := 0) (x := smF 0 (C.1.getD 0 0 - q)) rfl
    refine ite_f rfl (ite_f rfl (ite_f (decf (by show ¬ (t.n : Int) < 2; omega)) (ite_f (decf (by show ¬ (64 : Int) < (t.n : Int); omega)) ⟨by omega, by show (0 : Int) < (t.n : Int); omega, _, a0, ?_⟩)))
    refine ldI_of (by simpa using A0) (v := (bln (C.1.getD 0 0 - q).natAbs : Int)) rfl (hJ _ _ ⟨decf (by omega), rfl⟩)
  rintro _ _ ⟨rfl, rfl⟩
  refine ite_f rfl (Fix.intro (fun (x : Int) H' => ∃ i : Nat, x = (i : Int) ∧ 1 ≤ i ∧ i ≤ (syF C.1 q).length ∧ Keep H14 H') (fun x _ => (syF C.1 q).length - x.toNat) ⟨1, rfl, by omega, by omega, Keep.refl _⟩ ?_)
  rintro _ H22 ⟨i, rfl, hi1, hi, k22⟩ rec hrec
  by_cases hil : i < (syF C.1 q).length
  · obtain ⟨x, hx⟩ : ∃ x, (syF C.1 q)[i]? = some x := ⟨_, List.getElem?_eq_getElem hil⟩
    have hxm : x ∈ wk 0 (C.1.drop 1) := by
      obtain ⟨i', rfl⟩ : ∃ i', i = i' + 1 := ⟨i - 1, by omega⟩
      unfold syF at hx
      rw [List.getElem?_cons_succ] at hx
      exact List.mem_of_getElem? hx
    obtain ⟨w1, w2, w3, w4⟩ := wk_mem _ _ (may_mem hC hm) x hxm
    obtain ⟨b, o, ha, hA⟩ := (v14.keep k22).get hx
    refine ite_t (dect (by show (i : Int) < (t.n : Int); omega)) ⟨by omega, by show (i : Int) < (t.n : Int); omega, _, ha, ?_⟩
    rw [Int.toNat_natCast]
    refine ⟨_, _, _, hA, ?_⟩
    intro b33 H35 c35 g33 g33'
    obtain ⟨s1, s2, s3⟩ := w4
    have e1 : shlI .i64 1 ((x.1 % 16 : Nat) : Int) = ((2 ^ (x.1 % 16) : Nat) : Int) := by
      have hp10 := pow_lt w2
      have p10 : (2 : Nat) ^ 10 = 1024 := rfl
      have := shln (k := .i64) (x := 1) (n := x.1 % 16) (by show x.1 % 16 ≤ 64; omega) (w64n (by omega))
      rw [show ((1 : Nat) : Int) = (1 : Int) from rfl, Nat.one_mul] at this
      exact this
    refine Join.intro (fun b H' => b = false ∧ H35 = H') ?_ fun J hJ => ?_
    rotate_left
    · rw [w1, w64n (x := x.1) (by omega), w64n (x := x.1 % 16) (by omega), w64n (x := x.2.2) (by omega), show Int.tmod (x.1 : Int) 16 = ((x.1 % 16 : Nat) : Int) from rfl, e1]
      exact ite_f (decf (by omega)) (ite_f (decf (by omega)) (ite_f (bnei rfl) ⟨by omega, hJ _ _ ⟨decf (by omega), rfl⟩⟩))
    rintro _ _ ⟨rfl, rfl⟩
    refine ite_f rfl ?_
    rw [show (i : Int) + 1 = ((i + 1 : Nat) : Int) from by omega, w64n (by omega)]
    exact hrec _ _ ⟨i + 1, rfl, by omega, by omega, k22.trans (c35.keep (by simp))⟩ (by simp; omega)
  · refine ite_f (decf (by show ¬ (i : Int) < (t.n : Int); omega)) (Block_ok7 (by omega) (v14.keep k22) (syF_ok hC hm (by omega) hd) (by omega) fun D e H48 hD he k48 => ⟨Pv.keep k48 (by have := k22.size; simp; omega), ?_⟩)
    intro b50 H52 c52 g50 g50'
    rw [blk_back hC hm hd] at hD he
    refine ite_t (beqi he) ⟨?_, (((k9.trans k14).trans k22).trans k48).trans (c52.keep (by simp))⟩
    show (D.1 == C.1) = true
    rw [hD, beq_self_eq_true]
end Go.Proofs.Ythblohaffipkhaa.G
