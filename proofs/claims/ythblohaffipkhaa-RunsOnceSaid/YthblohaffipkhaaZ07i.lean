/- Layer 7: RunsOnce: a list that is taken is the one of its block. -/
import Derived.Test.YthblohaffipkhaaZ07g
import Derived.Test.YthblohaffipkhaaZ07h
import Derived.Test.YthblohaffipkhaaKRunsOnce
namespace Go.Proofs.Ythblohaffipkhaa.G
open Go.RowKit
set_option linter.unusedVariables false
set_option linter.unusedSimpArgs false
set_option maxRecDepth 20000

/-! ### in plain Lean -/
theorem bF_ok {pred : Int} {X B : List Int} {n : Nat} {x : Sy} {r : List Sy} (h : bF pred X n (x :: r) = (B, 0)) : (tF pred X n x.1 x.2.1 x.2.2).1 = 0 ∧ bF pred (tF pred X n x.1 x.2.1 x.2.2).2.1 (tF pred X n x.1 x.2.1 x.2.2).2.2 r = (B, 0) := by
  rw [bF] at h
  by_cases h1 : (tF pred X n x.1 x.2.1 x.2.2).1 = 0
  · rw [if_neg (by omega)] at h
    exact ⟨h1, h⟩
  · rw [if_pos h1] at h
    have := congrArg Prod.snd h
    exact absurd this h1
theorem tF_n {pred : Int} {X : List Int} {n y b : Nat} {z : Int} (hn : n ≤ 64) (h : (tF pred X n y z b).1 = 0) : n ≤ 63 := by
  obtain ⟨w1, _⟩ := tF_w (pred := pred) (B := X) (n := n) (y := y) (b := b) (z := z)
  by_cases hw : (wF n y).2 = 0
  · exact (wF_ok hn hw).2.1
  · exact absurd ((w1 hw).symm.trans h) hw
theorem bF_pre {pred : Int} {B : List Int} : ∀ (r : List Sy) (X : List Int) (n : Nat), X.length = 64 → n ≤ 64 → bF pred X n r = (B, 0) → ∀ k, k < r.length → bF pred X n (r.take k) = (zB, 44)
  | [], X, n, _, _, _, k, hk => by simp at hk
  | x :: r, X, n, hX, hn, h, k, hk => by
    obtain ⟨h1, h2⟩ := bF_ok h
    have h63 := tF_n hn h1
    cases k with
    | zero => rw [List.take_zero, bF, if_neg (by omega)]
    | succ k =>
      obtain ⟨q1, q2, _⟩ := tF_ok (pred := pred) (B := X) (n := n) (y := x.1) (b := x.2.2) (z := x.2.1) hn hX
      rw [List.take_succ_cons, bF, if_neg (by omega)]
      exact bF_pre r _ _ q1 q2 h2 k (by simpa using hk)
theorem bF_err {pred : Int} : ∀ (r : List Sy) (X : List Int) (n : Nat), (bF pred X n r).2 ≠ 0 → (bF pred X n r).1 = zB
  | [], X, n, h => by
    rw [bF] at h ⊢
    by_cases h64 : n = 64
    · rw [if_pos h64] at h; exact absurd rfl h
    · rw [if_neg h64]
  | x :: r, X, n, h => by
    rw [bF] at h ⊢
    by_cases h1 : (tF pred X n x.1 x.2.1 x.2.2).1 = 0
    · rw [if_neg (by omega)] at h ⊢
      exact bF_err r _ _ h
    · rw [if_pos h1]
theorem bF_more {pred : Int} {B : List Int} {m : Sy} : ∀ (r : List Sy) (X : List Int) (n : Nat), bF pred X n r = (B, 0) → bF pred X n (r ++ [m]) = (zB, 4)
  | [], X, n, h => by
    rw [bF] at h
    by_cases h64 : n = 64
    · subst h64
      have hw : wF 64 m.1 = (0, 4) := by unfold wF; rw [if_pos rfl]
      have ht : tF pred X 64 m.1 m.2.1 m.2.2 = (4, X, 64) := by
        unfold tF
        rw [hw, if_pos (by simp)]
      rw [List.nil_append, bF, ht, if_pos (by simp)]
    · rw [if_neg h64] at h
      have := congrArg Prod.snd h
      cases this
  | x :: r, X, n, h => by
    obtain ⟨h1, h2⟩ := bF_ok h
    rw [List.cons_append, bF, if_neg (by omega)]
    exact bF_more r _ _ h2
abbrev F0 : Sy := (240, 0, 0)
/-- Without those F0 that stand ahead of the end; so many of them wait. -/
def shp : Nat → List Sy → List Sy
  | j, [] => List.replicate j F0
  | j, x :: r => if x.1 = 240 then shp (j + 1) r else if x.1 = 0 then x :: shp 0 r else List.replicate j F0 ++ x :: shp 0 r
theorem wk_zeros : ∀ (m z : Nat), 0 < z + m → wk z (List.replicate m 0) = [(0, 0, 0)]
  | 0, z, h => by
    rw [List.replicate_zero, wk, if_pos (by omega)]
  | m + 1, z, h => by
    rw [List.replicate_succ, wk, if_pos rfl]
    exact wk_zeros m (z + 1) (by omega)
theorem wk_skip {B : List Int} (hB : B.length = 64) : ∀ (m n z : Nat), n + m ≤ 64 → (∀ k, n ≤ k → k < n + m → B.getD k 0 = 0) → wk z (B.drop n) = wk (z + m) (B.drop (n + m))
  | 0, n, z, _, _ => rfl
  | m + 1, n, z, h, h0 => by
    rw [drop_cons (getD_at (by omega) : B[n]? = some (B.getD n 0)), wk, if_pos (h0 n (Nat.le_refl _) (by omega)), wk_skip hB m (n + 1) (z + 1) (by omega) (fun k h1 h2 => h0 k (by omega) (by omega))]
    rw [show z + 1 + m = z + (m + 1) from by omega, show n + 1 + m = n + (m + 1) from by omega]
theorem vF_sm {b w : Nat} (hw : 1 ≤ w ∧ w ≤ 11) (hb : b < 2 ^ w) : vF b w ≠ 0 ∧ bln (vF b w).natAbs = w ∧ (bitsF (vF b w)).toNat = b ∧ (w ≤ 10 → -1023 ≤ vF b w ∧ vF b w ≤ 1023) := by
  have hp := pow_lt hw.2
  have h11 : (2 : Nat) ^ 11 = 2048 := rfl
  have e1 : (2 : Nat) ^ w = 2 * 2 ^ (w - 1) := by
    obtain ⟨w', rfl⟩ : ∃ w', w = w' + 1 := ⟨w - 1, by omega⟩
    rw [Nat.pow_succ]; simp; omega
  have hpos : 0 < 2 ^ (w - 1) := Nat.pow_pos (by omega)
  have hr : vF b w ≠ 0 ∧ 2 ^ (w - 1) ≤ (vF b w).natAbs ∧ (vF b w).natAbs < 2 ^ w := by
    unfold vF
    split <;> omega
  have hl : bln (vF b w).natAbs = w := by
    have := bln_eq (n := (vF b w).natAbs) (k := w - 1) hr.2.1 (by rw [show w - 1 + 1 = w from by omega]; exact hr.2.2)
    omega
  refine ⟨hr.1, hl, ?_, fun h10 => ?_⟩
  · unfold bitsF
    rw [hl]
    unfold vF
    split <;> split <;> omega
  · have h2 := pow_lt h10
    have h10' : (2 : Nat) ^ 10 = 1024 := rfl
    omega
theorem canon {pred : Int} {B : List Int} : ∀ (r : List Sy) (X : List Int) (n z : Nat), X.length = 64 → 1 ≤ n → n ≤ 64 → z % 16 = 0 → (0 < z → n ≤ 63) → (∀ k, n ≤ k → X.getD k 0 = 0) → (∀ x ∈ r, smOk x) → bF pred X n r = (B, 0) →
    (∀ k, k < n → B.getD k 0 = X.getD k 0) ∧ (∀ k, n ≤ k → k < 64 → -1023 ≤ B.getD k 0 ∧ B.getD k 0 ≤ 1023) ∧ B.length = 64 ∧ wk z (B.drop n) = shp (z / 16) r ∧ ∀ (i : Nat) (x : Sy), r[i]? = some x → (x.1 = 0 → i + 1 = r.length) ∧ (x.1 = 240 → x = F0)
  | [], X, n, z, hX, h1, hn, hz, hz2, h0, hs, h => by
    rw [bF] at h
    by_cases h64 : n = 64
    · rw [if_pos h64] at h
      obtain rfl : X = B := congrArg Prod.fst h
      obtain rfl : z = 0 := by omega
      subst h64
      refine ⟨fun _ _ => rfl, fun k h1 h2 => by omega, hX, ?_, fun i x hx => by simp at hx⟩
      rw [List.drop_eq_nil_of_le (by omega), wk, if_neg (by omega)]
      rfl
    · rw [if_neg h64] at h
      have := congrArg Prod.snd h
      cases this
  | (y, zz, b) :: r, X, n, z, hX, h1, hn, hz, hz2, h0, hs, h => by
    obtain ⟨t1, t2⟩ := bF_ok h
    simp only at t1 t2
    obtain ⟨s1, s2, s3⟩ := hs _ (List.mem_cons_self ..)
    simp only at s1 s2 s3
    have hs' : ∀ x ∈ r, smOk x := fun x hx => hs x (List.mem_cons_of_mem _ hx)
    have h63 := tF_n hn t1
    unfold tF at t1 t2
    by_cases hw : (wF n y).2 = 0
    rotate_left
    · rw [if_pos hw] at t1; exact absurd t1 hw
    rw [if_neg (by omega)] at t1 t2
    obtain ⟨q1, q2, q3, q4, q5, q6⟩ := wF_ok (y := y) hn hw
    by_cases hsz : zz ≠ (wF n y).1 ∨ 2 ^ (wF n y).1 ≤ b
    · rw [if_pos hsz] at t1; cases t1
    rw [if_neg hsz, if_neg (by omega)] at t1 t2
    have cons_get : ∀ {P : Nat → Sy → Prop}, P 0 (y, zz, b) → (∀ (i : Nat) (x : Sy), r[i]? = some x → P (i + 1) x) → ∀ (i : Nat) (x : Sy), ((y, zz, b) :: r)[i]? = some x → P i x := fun {P} p0 ps i x hx => by
      cases i with
      | zero => simp at hx; subst hx; exact p0
      | succ i => exact ps i x (by simpa using hx)
    by_cases hy0 : y = 0
    · rw [if_pos hy0] at t2
      simp only at t2
      have hw0 := q3 (by omega) (.inl hy0)
      cases r with
      | cons x r' =>
        obtain ⟨u1, _⟩ := bF_ok t2
        have := tF_n (n := 64) (by omega) u1
        omega
      | nil =>
        rw [bF, if_pos rfl] at t2
        obtain rfl : X = B := congrArg Prod.fst t2
        rw [hw0] at hsz
        have hb0 : b = 0 := by have : (2 : Nat) ^ 0 = 1 := rfl; omega
        have hzz : zz = 0 := by omega
        subst hy0 hb0 hzz
        refine ⟨fun _ _ => rfl, fun k h1 h2 => by rw [h0 k h1]; omega, hX, ?_, cons_get ⟨fun _ => rfl, fun h => by simp at h⟩ fun i x hx => by simp at hx⟩
        have e : X.drop n = List.replicate (64 - n) 0 := by
          refine List.ext_getElem? fun i => ?_
          rw [List.getElem?_drop, List.getElem?_replicate]
          by_cases hi : n + i < 64
          · rw [getD_at (by omega), h0 (n + i) (by omega), if_pos (by omega)]
          · rw [List.getElem?_eq_none (by omega), if_neg (by omega)]
        rw [e, wk_zeros _ _ (by omega)]
        rfl
    rw [if_neg hy0] at t1 t2
    by_cases hy : y = 240
    · rw [if_pos hy] at t2
      simp only at t2
      have hn16 := q4 (by omega) hy
      have hw0 := q3 (by omega) (.inr hy)
      rw [hw0] at hsz
      have hb0 : b = 0 := by have : (2 : Nat) ^ 0 = 1 := rfl; omega
      have hzz : zz = 0 := by omega
      subst hy hb0 hzz
      obtain ⟨c1, c2, c3, c4, c5⟩ := canon r X (n + 16) (z + 16) hX (by omega) (by omega) (by omega) (fun _ => by omega) (fun k hk => h0 k (by omega)) hs' t2
      refine ⟨fun k hk => c1 k (by omega), fun k g1 g2 => ?_, c3, ?_, cons_get ⟨fun h => by simp at h, fun _ => rfl⟩ fun i x hx => ⟨fun g => ?_, (c5 i x hx).2⟩⟩
      · by_cases hk : k < n + 16
        · rw [c1 k hk, h0 k g1]; omega
        · exact c2 k (by omega) g2
      · rw [wk_skip c3 16 n z (by omega) fun k g1 g2 => by rw [c1 k g2, h0 k g1], c4, shp, if_pos rfl, show (z + 16) / 16 = z / 16 + 1 from by omega]
      · have := (c5 i x hx).1 g
        simp; omega
    rw [if_neg hy] at t1 t2
    simp only at t2
    obtain ⟨p1, p2, p3, p4⟩ := q5 (by omega) hy0 hy
    generalize hwv : (wF n y).1 = w at hsz p2 p3 p4 t2
    have hb : b < 2 ^ w := by omega
    have hzz : zz = (w : Int) := by omega
    obtain ⟨v1, v2, v3, v4⟩ := vF_sm ⟨p2, by omega⟩ hb
    generalize hvv : vF b w = v at v1 v2 v3 v4 t2
    have gd : ∀ k, (X.set (n + y / 16) v).getD k 0 = if n + y / 16 = k then v else X.getD k 0 := fun k => by
      rw [List.getD_eq_getElem?_getD, List.getElem?_set, List.getD_eq_getElem?_getD]
      by_cases e : n + y / 16 = k
      · subst e; rw [if_pos rfl, if_pos (by omega), if_pos rfl]; rfl
      · rw [if_neg e, if_neg e]
    obtain ⟨c1, c2, c3, c4, c5⟩ := canon r _ (n + y / 16 + 1) 0 (by simp [hX]) (by omega) (by omega) rfl (fun h => by omega) (fun k hk => by rw [gd, if_neg (by omega)]; exact h0 k (by omega)) hs' t2
    have hv := v4 p3
    refine ⟨fun k hk => ?_, fun k g1 g2 => ?_, c3, ?_, cons_get ⟨fun h => absurd h hy0, fun h => absurd h hy⟩ fun i x hx => ⟨fun g => ?_, (c5 i x hx).2⟩⟩
    · rw [c1 k (by omega), gd, if_neg (by omega)]
    · by_cases hk : k < n + y / 16 + 1
      · rw [c1 k hk, gd]
        by_cases e : n + y / 16 = k
        · rw [if_pos e]; exact hv
        · rw [if_neg e, h0 k g1]; omega
      · exact c2 k (by omega) g2
    · have ev : B.getD (n + y / 16) 0 = v := by rw [c1 _ (by omega), gd, if_pos rfl]
      rw [wk_skip c3 (y / 16) n z (by omega) fun k g1 g2 => by rw [c1 k (by omega), gd, if_neg (by omega), h0 k g1]]
      rw [drop_cons (getD_at (by omega) : B[n + y / 16]? = some (B.getD (n + y / 16) 0)), ev, wk, if_neg v1, c4, shp, if_neg (by simpa using hy), if_neg (by simpa using hy0)]
      have hy16 : y / 16 < 16 := by omega
      rw [show (z + y / 16) / 16 = z / 16 from by omega, show (z + y / 16) % 16 = y / 16 from by omega, Nat.zero_div]
      have e1 : smF (y / 16) v = (y, zz, b) := by
        unfold smF
        rw [v2, v3, hzz]
        have : 16 * (y / 16) + w = y := by omega
        rw [this]
      rw [e1]
    · have := (c5 i x hx).1 g
      simp; omega
/-- A list that is taken: its first symbol, what follows, what its block says. -/
theorem once {pred : Int} {B : List Int} {xs : List Sy} (hp : -32768 ≤ pred ∧ pred ≤ 32767) (hs : ∀ x ∈ xs, smOk x) (h : blkF pred xs = (B, 0)) :
    ∃ x r, xs = x :: r ∧ B.length = 64 ∧ mayB B ∧ bln (B.getD 0 0 - pred).natAbs ≤ 11 ∧ syF B pred = x :: shp 0 r ∧ ∀ (i : Nat) (x : Sy), r[i]? = some x → (x.1 = 0 → i + 1 = r.length) ∧ (x.1 = 240 → x = F0) := by
  cases xs with
  | nil =>
    unfold blkF at h
    rw [bF, if_neg (by omega)] at h
    have := congrArg Prod.snd h
    cases this
  | cons x r =>
    obtain ⟨y, zz, b⟩ := x
    unfold blkF at h
    obtain ⟨t1, t2⟩ := bF_ok h
    simp only at t1 t2
    obtain ⟨s1, s2, s3⟩ := hs _ (List.mem_cons_self ..)
    simp only at s1 s2 s3
    unfold tF at t1 t2
    by_cases hw : (wF 0 y).2 = 0
    rotate_left
    · rw [if_pos hw] at t1; exact absurd t1 hw
    rw [if_neg (by omega)] at t1 t2
    obtain ⟨q1, q2, q3, q4, q5, q6⟩ := wF_ok (n := 0) (y := y) (by omega) hw
    have hwy := q6 rfl
    rw [hwy] at t1 t2 q1
    by_cases hsz : zz ≠ y ∨ 2 ^ y ≤ b
    · rw [if_pos hsz] at t1; cases t1
    rw [if_neg hsz, if_pos rfl] at t1 t2
    by_cases hd : pred + vF b y < -1024 ∨ 1023 < pred + vF b y
    · rw [if_pos hd] at t1; cases t1
    rw [if_neg hd] at t2
    simp only at t2
    have hb : b < 2 ^ y := by omega
    have gd : ∀ k, (zB.set 0 (pred + vF b y)).getD k 0 = if 0 = k then pred + vF b y else 0 := fun k => by
      rw [List.getD_eq_getElem?_getD, List.getElem?_set]
      by_cases e : 0 = k
      · subst e; rw [if_pos rfl, if_pos (by simp [zB]), if_pos rfl]; rfl
      · rw [if_neg e, if_neg e]
        unfold zB
        rw [List.getElem?_replicate]
        split <;> rfl
    obtain ⟨c1, c2, c3, c4, c5⟩ := canon r _ 1 0 (by simp [zB]) (by omega) (by omega) rfl (fun h => by omega) (fun k hk => by rw [gd, if_neg (by omega)]) (fun x hx => hs x (List.mem_cons_of_mem _ hx)) t2
    have eB : B.getD 0 0 = pred + vF b y := by rw [c1 0 (by omega), gd, if_pos rfl]
    have ed : B.getD 0 0 - pred = vF b y := by omega
    have hsm : bln (vF b y).natAbs = y ∧ (bitsF (vF b y)).toNat = b := by
      by_cases hy0 : y = 0
      · subst hy0
        have hb0 : b = 0 := by have : (2 : Nat) ^ 0 = 1 := rfl; omega
        subst hb0
        exact ⟨rfl, rfl⟩
      · obtain ⟨_, v2, v3, _⟩ := vF_sm ⟨by omega, q1⟩ hb
        exact ⟨v2, v3⟩
    refine ⟨_, r, rfl, c3, ⟨by omega, fun k h1 h2 => c2 k h1 h2⟩, by rw [ed, hsm.1]; exact q1, ?_, c5⟩
    unfold syF
    rw [c4, ed]
    have e1 : smF 0 (vF b y) = (y, zz, b) := by
      unfold smF
      rw [hsm.1, hsm.2]
      have : 16 * 0 + y = y := by omega
      rw [this, show zz = (y : Int) from by omega]
    rw [e1]
theorem shp_no : ∀ (r : List Sy) (j : Nat), (∀ x ∈ r, x.1 ≠ 0 ∧ (x.1 = 240 → x = F0)) → shp j r = List.replicate j F0 ++ r
  | [], j, _ => by simp [shp]
  | x :: r, j, h => by
    obtain ⟨h1, h2⟩ := h x (by simp)
    have hr := fun y hy => h y (List.mem_cons_of_mem _ hy)
    rw [shp]
    by_cases h3 : x.1 = 240
    · rw [if_pos h3, shp_no r (j + 1) hr, h2 h3, List.replicate_succ', List.append_assoc]
      rfl
    · rw [if_neg h3, if_neg h1, shp_no r 0 hr]
      rfl
theorem shp_end {e : Sy} (he : e.1 = 0) : ∀ (a : List Sy) (j k : Nat), (∀ x ∈ a, x.1 ≠ 0 ∧ (x.1 = 240 → x = F0)) → (a = [] ∨ ∃ x, a.getLast? = some x ∧ x.1 ≠ 240) → shp j (a ++ (List.replicate k F0 ++ [e])) = (if a = [] then [] else List.replicate j F0) ++ a ++ [e]
  | [], j, k, _, _ => by
    rw [if_pos rfl, List.nil_append]
    have : ∀ k j, shp j (List.replicate k F0 ++ [e]) = [e] := by
      intro k
      induction k with
      | zero => intro j; rw [List.replicate_zero, List.nil_append, shp, if_neg (by omega), if_pos he]; rfl
      | succ k ih =>
        intro j
        rw [List.replicate_succ, List.cons_append, shp, if_pos rfl]
        exact ih (j + 1)
    exact this k j
  | x :: a, j, k, h, hl => by
    obtain ⟨h1, h2⟩ := h x (by simp)
    have hr := fun y hy => h y (List.mem_cons_of_mem _ hy)
    rw [if_neg (by simp), List.cons_append, shp]
    have hl' : a = [] ∨ ∃ x, a.getLast? = some x ∧ x.1 ≠ 240 := by
      rcases hl with hl | ⟨u, hu, hu2⟩
      · cases hl
      · cases a with
        | nil => exact .inl rfl
        | cons y a => exact .inr ⟨u, by simpa using hu, hu2⟩
    by_cases h3 : x.1 = 240
    · rw [if_pos h3, shp_end he a (j + 1) k hr hl', h2 h3]
      have hne : a ≠ [] := by
        rintro rfl
        rcases hl with hl | ⟨u, hu, hu2⟩
        · cases hl
        · simp at hu; subst hu; exact hu2 h3
      rw [if_neg hne, List.replicate_succ']
      simp
    · rw [if_neg h3, if_neg h1, shp_end he a 0 k hr hl']
      split <;> simp_all

/-! ### the walks -/
open Classical in
theorem shorter_ok {a : Sl} {x : Sy} {r : List Sy} {H : Hp} {Q : Sl → Hp → Prop} (hv : SlV H a 3 cS (x :: r)) (hl : (x :: r).length * 4 ≤ 140737488355328) (hne : r ≠ []) (hr : ∀ (i : Nat) (x : Sy), r[i]? = some x → (x.1 = 0 → i + 1 = r.length) ∧ (x.1 = 240 → x = F0))
    (h : ∀ t H', SlV H' t 3 cS (x :: shp 0 r) → Keep H H' → Q t H') : mosaiclaw07_shorter.s a H Q := by
  have n0 := hv.n
  have c0 := hv.c
  obtain ⟨r', e, rfl⟩ : ∃ r' e, r = r' ++ [e] := ⟨r.dropLast, r.getLast hne, (List.dropLast_concat_getLast hne).symm⟩
  simp only [List.length_cons, List.length_append, List.length_nil] at n0 hl
  have hr' : ∀ y ∈ r', y.1 ≠ 0 ∧ (y.1 = 240 → y = F0) := fun y hy => by
    obtain ⟨i, hi⟩ := List.mem_iff_getElem?.1 hy
    have hil := (List.getElem?_eq_some_iff.1 hi).1
    have := hr i y (by rw [List.getElem?_append_left hil]; exact hi)
    exact ⟨fun h0 => by have := this.1 h0; simp at this; omega, this.2⟩
  have he : (x :: (r' ++ [e]))[r'.length + 1]? = some e := by simp
  unfold mosaiclaw07_shorter.s
  refine Join.intro (fun b H' => b = decide (e.1 ≠ 0) ∧ H = H') ?_ fun J hJ => ?_
  rotate_left
  · refine ite_f (beqf (by omega)) ?_
    rw [w64 (by omega)]
    obtain ⟨b, o, ha, hA⟩ := hv.get he
    refine ⟨by omega, by omega, _, ha, ?_⟩
    rw [show ((a.n : Int) - 1).toNat = r'.length + 1 from by omega]
    refine ldI_of hA (v := (e.1 : Int)) rfl ?_
    by_cases h0 : e.1 = 0
    · exact ite_f (bnei (by omega)) (hJ _ _ ⟨(beqf (by omega)).trans (decf (by omega)).symm, rfl⟩)
    · exact ite_t (bnet (by omega)) (hJ _ _ ⟨(dect h0).symm, rfl⟩)
  rintro _ _ ⟨rfl, rfl⟩
  by_cases h0 : e.1 = 0
  rotate_left
  · refine ite_t (dect h0) (h _ _ ?_ (Keep.refl _))
    rw [shp_no]
    · exact hv
    · intro y hy
      obtain ⟨i, hi⟩ := List.mem_iff_getElem?.1 hy
      rcases List.mem_append.1 hy with hy | hy
      · exact hr' y hy
      · obtain rfl : y = e := by simpa using hy
        exact ⟨h0, (hr i _ hi).2⟩
  refine ite_f (decf (by omega)) ?_
  rw [w64 (by omega)]
  refine Fix.intro (fun (s : Int) H' => ∃ k : Nat, s = ((k + 1 : Nat) : Int) ∧ k ≤ r'.length ∧ r' = r'.take k ++ List.replicate (r'.length - k) F0 ∧ H = H') (fun s _ => s.toNat) ⟨r'.length, by omega, Nat.le_refl _, by simp, rfl⟩ ?_
  rintro _ _ ⟨k, rfl, hk, hrk, rfl⟩ rec hrec
  refine Join.intro (fun b H' => b = decide (∃ y, 0 < k ∧ r'[k - 1]? = some y ∧ y.1 = 240) ∧ H = H') ?_ fun J hJ => ?_
  rotate_left
  · by_cases hk0 : 0 < k
    · obtain ⟨y, hy⟩ : ∃ y, r'[k - 1]? = some y := ⟨_, List.getElem?_eq_getElem (by omega)⟩
      have hy' : (x :: (r' ++ [e]))[k]? = some y := by
        obtain ⟨k, rfl⟩ : ∃ k', k = k' + 1 := ⟨k - 1, by omega⟩
        rw [List.getElem?_cons_succ, List.getElem?_append_left (by omega)]
        exact hy
      obtain ⟨b, o, ha, hA⟩ := hv.get hy'
      refine ite_t (dect (by omega)) ?_
      rw [show ((k + 1 : Nat) : Int) - 1 = (k : Int) from by omega, w64n (by omega)]
      refine ⟨by omega, by omega, _, ha, ?_⟩
      rw [Int.toNat_natCast]
      refine ldI_of hA (v := (y.1 : Int)) rfl (hJ _ _ ⟨?_, rfl⟩)
      by_cases h240 : y.1 = 240
      · exact (beqi (by omega)).trans (dect ⟨y, hk0, hy, h240⟩).symm
      · exact (beqf (by omega)).trans (decf fun ⟨z, _, hz, hz2⟩ => by rw [hy] at hz; injection hz with hz; subst hz; exact h240 hz2).symm
    · exact ite_f (decf (by omega)) (hJ _ _ ⟨(decf fun ⟨z, hz, _⟩ => hk0 hz).symm, rfl⟩)
  rintro _ _ ⟨rfl, rfl⟩
  by_cases hb : ∃ y, 0 < k ∧ r'[k - 1]? = some y ∧ y.1 = 240
  · refine ite_t (dect hb) ?_
    obtain ⟨y, hk0, hy, h240⟩ := hb
    rw [show ((k + 1 : Nat) : Int) - 1 = ((k - 1 + 1 : Nat) : Int) from by omega, w64n (by omega)]
    refine hrec _ _ ⟨k - 1, rfl, by omega, ?_, rfl⟩ (by simp; omega)
    have hyF := (hr' y (List.mem_of_getElem? hy)).2 h240
    subst hyF
    have := take_snoc' hy
    rw [show k - 1 + 1 = k from by omega] at this
    rw [this, List.append_assoc] at hrk
    rw [show r'.length - (k - 1) = (r'.length - k) + 1 from by omega, List.replicate_succ]
    simpa using hrk
  refine ite_f (decf hb) ⟨by omega, by omega, ?_⟩
  have vt := hv.take (i := k + 1) (by simp; omega)
  refine copy_ok vt (by simp; omega) fun l H17 o17 k17 f17 => ?_
  obtain ⟨b, o, ha, hA⟩ := (hv.keep k17).get he
  refine ⟨by omega, by omega, _, ha, ?_⟩
  rw [show ((a.n : Int) - 1).toNat = r'.length + 1 from by omega]
  refine ⟨_, _, _, hA, ?_⟩
  refine push1 (x := e) o17 cS_len cS_ones rfl (by omega) (by omega) (by simp; omega) fun l' H' o' c' f' => h _ _ ?_ ?_
  · rw [hrk, List.append_assoc, shp_end h0]
    · have : (x :: (r' ++ [e])).take (k + 1) ++ [e] = x :: ((if r'.take k = [] then [] else List.replicate 0 F0) ++ r'.take k ++ [e]) := by
        rw [List.take_succ_cons, List.take_append_of_le_length hk]
        split <;> simp
      rw [this] at o'
      exact o'.view cS_len (by omega)
    · exact fun y hy => hr' y (List.mem_of_mem_take hy)
    · by_cases hk0 : 0 < k
      · refine .inr ⟨r'[k - 1]'(by omega), ?_, fun h240 => hb ⟨_, hk0, List.getElem?_eq_getElem (by omega), h240⟩⟩
        rw [List.getLast?_eq_getElem?, List.getElem?_take, List.length_take, if_pos (by omega), show min k r'.length - 1 = k - 1 from by omega, List.getElem?_eq_getElem (by omega)]
      · exact .inl (by simp; omega)
  · exact (k17.ch (F := [])).trans c' (fun b hb => .inr (f17 b hb)) |>.keep (by simp)
theorem same_ok7 {a b : Sl} {xs ys : List Sy} {H : Hp} {Q : Bool → Hp → Prop} (ha : SlV H a 3 cS xs) (hb : SlV H b 3 cS ys) (hl : xs.length ≤ 140737488355328) (h : ∀ r : Bool, (r = true ↔ xs = ys) → Q r H) : mosaiclaw07_same.s a b H Q := rSame_ok7 ha hb hl h
theorem RunsOnce_row (s : Sl) (p cut : Int) (m0 m1 m2 : Int) (W : World) (hs : SlH W.heap none 4 3 (X42 none W.heap) s) (hp : -32768 ≤ p ∧ p ≤ 32767) (hcut : -9223372036854775808 ≤ cut ∧ cut ≤ 9223372036854775807) (hm0 : 0 ≤ m0 ∧ m0 ≤ 255) (hm1 : -128 ≤ m1 ∧ m1 ≤ 127) (hm2 : 0 ≤ m2 ∧ m2 ≤ 65535) :
    mosaiclaw07_RunsOnce.s s p cut m0 m1 m2 W.heap (fun r H' => r = true ∧ Keep W.heap H') := by
  obtain ⟨xs, v0, hx, z0⟩ := syms_view hs
  have n0 := v0.n
  have c0 := v0.c
  have hb : xs.length * 4 ≤ 140737488351232 := by
    rcases z0 with z | z
    · omega
    · have : s.c * 4 ≤ 140737488351232 := z
      omega
  obtain ⟨y, rfl⟩ : ∃ y : Nat, m0 = y := ⟨m0.toNat, by omega⟩
  obtain ⟨q, rfl⟩ : ∃ q : Nat, m2 = q := ⟨m2.toNat, by omega⟩
  unfold mosaiclaw07_RunsOnce.s
  intro b1 H2 c2 g1 g1'
  have k2 : Keep W.heap H2 := c2.keep (by simp)
  refine alive_ok fun H4 k4 => ⟨Pv.keep k4 (by simp; omega), copy_ok ((v0.keep k2).keep k4) (by omega) fun l H8 o8 k8 f8 => ⟨Pv.keep k8 (by have := k4.size; simp; omega), ?_⟩⟩
  have y4 := k4.size
  have y8 := k8.size
  have v8 := o8.view cS_len (by omega)
  have n8 := v8.n
  have c8 := v8.c
  have kW8 := (k2.trans k4).trans k8
  refine Block_ok7 hp v8 hx (by omega) fun D e H14 hD he k14 => ⟨Pv.keep k14 (by simp; omega), ?_⟩
  intro b16 H18 c18 g16 g16'
  have y14 := k14.size
  have k18 : Keep H8 H18 := k14.trans (c18.keep (by simp))
  have y18 := k18.size
  have kW18 := kW8.trans k18
  have hbl := bF_err (pred := p) xs zB 0
  generalize hBF : blkF p xs = BF at hD he
  obtain ⟨B, f⟩ := BF
  simp only at hD he
  by_cases hf : f = 0
  rotate_left
  · refine ite_t (bnet (by omega)) (Join.intro (fun b H' => b = true ∧ H18 = H') (fun _ _ ⟨h1, h2⟩ => ⟨h1, h2 ▸ kW18⟩) fun J hJ => ite_t rfl (hJ _ _ ⟨?_, rfl⟩))
    have := hbl (by rw [show bF p zB 0 xs = blkF p xs from rfl, hBF]; exact hf)
    rw [show bF p zB 0 xs = blkF p xs from rfl, hBF] at this
    show (D.1 == (zInts 64).1) = true
    rw [hD, show B = zB from this]
    exact beq_self_eq_true _
  subst hf
  obtain ⟨x, r, rfl, hBl, hmB, hdB, hsy, hr⟩ := once hp hx hBF
  simp only [List.length_cons] at n0 n8 hb
  refine ite_f (bnei he) ⟨by omega, ?_⟩
  refine Join.intro (fun (t : Int) H' => (∃ k : Nat, t = (k : Int) ∧ k < r.length + 1) ∧ H18 = H') ?_ fun J hJ => ?_
  rotate_left
  · have t1 := Int.tmod_lt_of_pos cut (b := (s.n : Int)) (by omega)
    have t2 : -(s.n : Int) < Int.tmod cut (s.n : Int) := by
      have := Int.tmod_lt_of_pos (-cut) (b := (s.n : Int)) (by omega)
      rw [Int.neg_tmod] at this
      omega
    by_cases h0 : Int.tmod cut (s.n : Int) < 0
    · refine ite_t (dect h0) (Lt.of (hJ _ _ ⟨⟨(Int.tmod cut (s.n : Int) + s.n).toNat, ?_, by omega⟩, rfl⟩))
      rw [w64 (by omega)]
      omega
    · exact ite_f (decf h0) (hJ _ _ ⟨⟨(Int.tmod cut (s.n : Int)).toNat, by omega, by omega⟩, rfl⟩)
  rintro _ _ ⟨⟨k, rfl, hk⟩, rfl⟩
  have v18 := v8.keep k18
  have vt := v18.take (i := k) (by simp; omega)
  refine ⟨by omega, by omega, Block_ok7 hp vt (fun y hy => hx y (List.mem_of_mem_take hy)) (by simp; omega) fun D2 e2 H29 hD2 he2 k29 => ⟨Pv.keep k29 (by simp; omega), ?_⟩⟩
  intro b31 H33 c33 g31 g31'
  have y29 := k29.size
  have y33 := c33.size
  have k33 : Keep H18 H33 := k29.trans (c33.keep (by simp))
  refine nw_i fun H35 b35 k35 z35 => ⟨Pv.keep k35 (by simp; omega), ?_⟩
  have y35 := k35.size
  have o35 := ((o8.kp k18).kp k33).kp k35
  have kk35 := (k18.trans k33).trans k35
  refine apS_list (f := cS) (ys := [((y, m1, q) : Sy)]) o35 cS_len cS_ones rfl (by omega) rfl (by simp; omega) (by omega) fun l' H41 o41 c41 f41 => ⟨Pv.ch c41 (fun b hb => ⟨by simp at hb; omega, fun hh => by have := o8.fp_lt b hh; simp at hb; omega⟩), ?_⟩
  have y41 := c41.size
  have kW41 : Keep W.heap H41 := ((kW8.trans kk35).ch (F := [])).trans c41 (fun b hb => .inr (by have := f8 b hb; have := k2.size; have := k4.size; omega)) |>.keep (by simp)
  refine Block_ok7 hp (o41.view cS_len (by omega)) (fun z hz => ?_) (by simp; omega) fun D3 e3 H44 hD3 he3 k44 => ⟨Pv.keep k44 (by simp; omega), ?_⟩
  · rcases List.mem_append.1 hz with hz | hz
    · exact hx z hz
    · obtain rfl : z = (y, m1, q) := by simpa using hz
      exact ⟨by show y < 256; omega, hm1, by show q < 65536; omega⟩
  intro b46 H48 c48 g46 g46'
  have y44 := k44.size
  have kW48 := (kW41.trans k44).trans (c48.keep (by simp))
  refine Symbols_x hp fun t H50 o50 k50 f50 => ?_
  have hsR : syR D.1 p = (0, syF B p) := by
    unfold syR
    rw [hD, if_pos hmB, if_neg (by omega)]
  rw [hsR] at o50 ⊢
  have kW50 := kW48.trans k50
  unfold blkF at hBF
  refine ite_t rfl (ite_t (beqi ?_) (ite_t (beqi ?_) (ite_t rfl (shorter_ok (v0.keep kW50) (by simp; omega) ?_ hr fun u H52 v52 k52 => same_ok7 ((o50.kp k52).view cS_len (by omega)) v52 ?_ fun r hr => ⟨hr.2 hsy, kW50.trans k52⟩))))
  · rw [he2]
    unfold blkF
    rw [bF_pre _ _ _ (by simp [zB]) (by omega) hBF k (by simpa using hk)]
    rfl
  · rw [he3]
    unfold blkF
    rw [bF_more _ _ _ hBF]
    rfl
  · rintro rfl
    have := syF_len (pred := p) hBl
    rw [hsy] at this
    simp [shp] at this
  · have := syF_len (pred := p) hBl
    show (syF B p).length ≤ _
    omega
end Go.Proofs.Ythblohaffipkhaa.G
