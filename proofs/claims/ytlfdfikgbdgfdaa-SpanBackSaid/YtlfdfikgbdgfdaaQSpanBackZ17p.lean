/- Of this text what the row needs. -/
import Derived.Test.YtlfdfikgbdgfdaaQSpanBackZ17
namespace Go.Proofs.Ytlfdfikgbdgfdaa.G
open Go.RowKit
set_option linter.unusedVariables false
set_option linter.unusedSimpArgs false
section
variable {A D : TB} {pred : Int}
theorem rdB_end {k : Nat} {X : List Int} {B : List Bool} {t : Nat} : rdB A pred (k + 1) D X 64 B t = (0, X, B, t) := by rw [rdB, if_pos rfl]
theorem rdB_go {k n : Nat} {X X' : List Int} {B : List Bool} {t y c w n' : Nat} (hn : n ≠ 64) (h1 : rd4 D.1 D.2 (B.take 16) = (y, 0, c)) (h2 : wF n y = (w, 0)) (h3 : c + w ≤ B.length) (h4 : tF pred X n y (w : Int) (num ((B.drop c).take w)) = (0, X', n')) :
    rdB A pred (k + 1) D X n B t = rdB A pred k A X' n' (B.drop (c + w)) (t + (c + w)) := by
  rw [rdB, if_neg hn, h1]
  dsimp only
  rw [if_neg (by decide), if_neg (by decide), h2]
  dsimp only
  rw [if_neg (by decide), if_neg (by rw [List.length_drop]; omega), h4]
  dsimp only
  rw [if_neg (by decide), List.drop_drop]
theorem rdB_s1 {k n : Nat} {X : List Int} {B : List Bool} {t : Nat} (hn : n ≠ 64) (h1 : (rd4 D.1 D.2 (B.take 16)).2.1 = 44) : rdB A pred (k + 1) D X n B t = (2, X, B, t) := by
  rw [rdB, if_neg hn, if_pos h1]
theorem rdB_s2 {k n : Nat} {X : List Int} {B : List Bool} {t y c w : Nat} (hn : n ≠ 64) (h1 : rd4 D.1 D.2 (B.take 16) = (y, 0, c)) (h2 : wF n y = (w, 0)) (h3 : B.length < c + w) (h4 : c ≤ B.length) : rdB A pred (k + 1) D X n B t = (2, X, B, t) := by
  rw [rdB, if_neg hn, h1]
  dsimp only
  rw [if_neg (by decide), if_neg (by decide), h2]
  dsimp only
  rw [if_neg (by decide), if_pos (by rw [List.length_drop]; omega)]
theorem rdB_cases (hD : TbOk D) (k n : Nat) (X : List Int) (B : List Bool) (t : Nat) :
    (n = 64 ∧ rdB A pred (k + 1) D X n B t = (0, X, B, t)) ∨ (∃ s, (s = 2 ∨ s = 4) ∧ rdB A pred (k + 1) D X n B t = (s, X, B, t)) ∨
    (n ≠ 64 ∧ ∃ y c w X' n', rd4 D.1 D.2 (B.take 16) = (y, 0, c) ∧ y < 256 ∧ 1 ≤ c ∧ wF n y = (w, 0) ∧ c + w ≤ B.length ∧ tF pred X n y (w : Int) (num ((B.drop c).take w)) = (0, X', n') ∧
      rdB A pred (k + 1) D X n B t = rdB A pred k A X' n' (B.drop (c + w)) (t + (c + w))) := by
  by_cases hn : n = 64
  · subst hn; exact .inl ⟨rfl, rdB_end⟩
  refine .inr ?_
  obtain ⟨r1, r2, r3, r4, r5⟩ := rd4_v hD (B.take 16)
  generalize hr : rd4 D.1 D.2 (B.take 16) = r at *
  obtain ⟨y, e, c⟩ := r
  dsimp only at r1 r2 r3 r4 r5
  rcases r2 with rfl | rfl | rfl
  rotate_left
  · exact .inl ⟨2, .inl rfl, rdB_s1 hn (by rw [hr])⟩
  · exact .inl ⟨4, .inr rfl, by rw [rdB, if_neg hn, hr]; dsimp only; rw [if_neg (by decide), if_pos (by decide)]⟩
  have hc : c ≤ B.length := by rw [List.length_take] at r3; omega
  generalize hw : wF n y = w2
  obtain ⟨w, e⟩ := w2
  by_cases he : e = 0
  rotate_left
  · exact .inl ⟨4, .inr rfl, by rw [rdB, if_neg hn, hr]; dsimp only; rw [if_neg (by decide), if_neg (by decide), hw]; dsimp only; rw [if_pos he]⟩
  subst he
  by_cases hl : B.length < c + w
  · exact .inl ⟨2, .inl rfl, rdB_s2 hn hr hw hl hc⟩
  generalize ht : tF pred X n y (w : Int) (num ((B.drop c).take w)) = f
  obtain ⟨e, X', n'⟩ := f
  by_cases he : e = 0
  rotate_left
  · exact .inl ⟨4, .inr rfl, by
      rw [rdB, if_neg hn, hr]; dsimp only; rw [if_neg (by decide), if_neg (by decide), hw]; dsimp only; rw [if_neg (by decide), if_neg (by rw [List.length_drop]; omega), ht]; dsimp only; rw [if_pos he]⟩
  subst he
  exact .inr ⟨hn, y, c, w, X', n', rfl, r1, r5 rfl, hw, by omega, ht, rdB_go hn hr hw (by omega) ht⟩
theorem rdB_bits (hA : TbOk A) : ∀ (k : Nat) (D : TB), TbOk D → ∀ (X : List Int) (n : Nat) (B : List Bool) (t : Nat), ∃ d, (rdB A pred k D X n B t).2.2.2 = t + d ∧ d ≤ B.length ∧ ((rdB A pred k D X n B t).1 = 0 → (rdB A pred k D X n B t).2.2.1 = B.drop d) ∧ ((rdB A pred k D X n B t).1 = 0 ∨ (rdB A pred k D X n B t).1 = 2 ∨ (rdB A pred k D X n B t).1 = 4)
  | 0, D, _, X, n, B, t => ⟨0, rfl, Nat.zero_le _, fun (h : (4 : Nat) = 0) => by omega, .inr (.inr rfl)⟩
  | k + 1, D, hD, X, n, B, t => by
    rcases rdB_cases (A := A) (pred := pred) hD k n X B t with ⟨_, h⟩ | ⟨s, hs, h⟩ | ⟨_, y, c, w, X', n', h1, h2, h3, h4, h5, h6, h⟩
    · rw [h]; exact ⟨0, rfl, by omega, fun _ => rfl, .inl rfl⟩
    · rw [h]; exact ⟨0, rfl, by omega, fun q => by dsimp only at q; omega, .inr hs⟩
    · rw [h]
      obtain ⟨d, q1, q2, q3, q4⟩ := rdB_bits hA k A hA X' n' (B.drop (c + w)) (t + (c + w))
      rw [List.length_drop] at q2
      exact ⟨c + w + d, by omega, by omega, fun q => by rw [q3 q, List.drop_drop], q4⟩
theorem tF_may {X X' : List Int} {n y w b n' : Nat} (hn : n ≤ 64) (hX : X.length = 64) (hm : mayB X) (h : tF pred X n y (w : Int) b = (0, X', n')) : X'.length = 64 ∧ mayB X' ∧ n' ≤ 64 := by
  have h0 := tF_ok (pred := pred) (y := y) (b := b) (z := (w : Int)) hn hX
  rw [h] at h0
  refine ⟨h0.1, ?_, h0.2.1⟩
  unfold tF at h
  by_cases h1 : (wF n y).2 ≠ 0
  · rw [if_pos h1] at h; injection h with h _; omega
  rw [if_neg h1] at h
  obtain ⟨q1, q2, q3, q4, q5, q6⟩ := wF_ok (y := y) hn (by omega)
  by_cases h2 : (w : Int) ≠ (wF n y).1 ∨ 2 ^ (wF n y).1 ≤ b
  · rw [if_pos h2] at h; injection h with h _; cases h
  rw [if_neg h2] at h
  have set_may : ∀ {i : Nat} {v : Int}, i < 64 → (i = 0 → -1024 ≤ v ∧ v ≤ 1023) → (1 ≤ i → -1023 ≤ v ∧ v ≤ 1023) → mayB (X.set i v) := fun {i v} hi a0 a1 => by
    have gd : ∀ k, (X.set i v).getD k 0 = if i = k then v else X.getD k 0 := fun k => by
      rw [List.getD_eq_getElem?_getD, List.getElem?_set]
      by_cases hk : i = k
      · subst hk; rw [if_pos rfl, if_pos rfl, if_pos (by omega)]; rfl
      · rw [if_neg hk, if_neg hk, ← List.getD_eq_getElem?_getD]
    refine ⟨?_, fun k k1 k2 => ?_⟩
    · rw [gd]; split
      · exact a0 (by omega)
      · exact hm.1
    · rw [gd]; split
      · exact a1 (by omega)
      · exact hm.2 k k1 k2
  by_cases h3 : n = 0
  · rw [if_pos h3] at h
    split at h
    · injection h with h _; cases h
    · injection h with _ h
      injection h with h _
      subst h
      exact set_may (by omega) (fun _ => by omega) (fun q => by omega)
  rw [if_neg h3] at h
  by_cases y0 : y = 0
  · rw [if_pos y0] at h; injection h with _ h; injection h with h _; subst h; exact hm
  rw [if_neg y0] at h
  by_cases yf0 : y = 240
  · rw [if_pos yf0] at h; injection h with _ h; injection h with h _; subst h; exact hm
  rw [if_neg yf0] at h
  · injection h with _ h
    injection h with h _
    subst h
    obtain ⟨z1, z2, z3, z4⟩ := q5 h3 y0 yf0
    have hp := pow_lt z3
    have p10 : (2 : Nat) ^ 10 = 1024 := rfl
    refine set_may (by omega) (fun q => by omega) (fun _ => ?_)
    unfold vF
    split <;> omega
theorem rdB_may (hA : TbOk A) : ∀ (k : Nat) (D : TB), TbOk D → ∀ (X : List Int) (n : Nat) (B : List Bool) (t : Nat), n ≤ 64 → X.length = 64 → mayB X → (rdB A pred k D X n B t).2.1.length = 64 ∧ mayB (rdB A pred k D X n B t).2.1
  | 0, D, _, X, n, B, t, _, hl, hm => ⟨hl, hm⟩
  | k + 1, D, hD, X, n, B, t, hn, hl, hm => by
    rcases rdB_cases (A := A) (pred := pred) hD k n X B t with ⟨_, h⟩ | ⟨s, hs, h⟩ | ⟨_, y, c, w, X', n', h1, h2, h3, h4, h5, h6, h⟩
    · rw [h]; exact ⟨hl, hm⟩
    · rw [h]; exact ⟨hl, hm⟩
    · rw [h]
      obtain ⟨q1, q2, q3⟩ := tF_may hn hl hm h6
      exact rdB_may hA k A hA X' n' _ _ q3 q1 q2
theorem zB_may : zB.length = 64 ∧ mayB zB := by
  refine ⟨rfl, ?_, fun k k1 k2 => ?_⟩
  · decide
  · unfold zB
    rw [List.getD_eq_getElem?_getD, List.getElem?_replicate]
    split <;> simp
end
structure Rdg where
  st : Nat
  P : List Int
  B : List Bool
  X : List (List Int)
  t : Nat
noncomputable def rd1 (T : Nat → TB × TB) (r : Rdg) (p : Nat) : Rdg :=
  if r.st ≠ 0 then r else
  if (rdb (T p).1 (T p).2 (r.P.getD p 0) r.B).1 ≠ 0 then ⟨(rdb (T p).1 (T p).2 (r.P.getD p 0) r.B).1, r.P, r.B, r.X, r.t + (rdb (T p).1 (T p).2 (r.P.getD p 0) r.B).2.2.2⟩
  else ⟨0, r.P.set p ((rdb (T p).1 (T p).2 (r.P.getD p 0) r.B).2.1.getD 0 0), (rdb (T p).1 (T p).2 (r.P.getD p 0) r.B).2.2.1, r.X ++ [(rdb (T p).1 (T p).2 (r.P.getD p 0) r.B).2.1], r.t + (rdb (T p).1 (T p).2 (r.P.getD p 0) r.B).2.2.2⟩
noncomputable def rdL (T : Nat → TB × TB) (r : Rdg) (l : List Nat) : Rdg := l.foldl (rd1 T) r
noncomputable def rdU (T : Nat → TB × TB) (L : Nat → List Nat) (r : Rdg) : Nat → Rdg × Nat
  | 0 => (r, 0)
  | n + 1 => if (rdU T L r n).1.st ≠ 0 then rdU T L r n else (rdL T (rdU T L r n).1 (L n), if (rdL T (rdU T L r n).1 (L n)).st = 0 then n + 1 else n)
section
variable {T : Nat → TB × TB}
theorem n00 : ¬ (0 : Nat) ≠ 0 := fun h => h rfl
theorem rd1_no {r : Rdg} {p : Nat} (h : r.st ≠ 0) : rd1 T r p = r := by rw [rd1, if_pos h]
theorem rdL_no : ∀ {l : List Nat} {r : Rdg}, r.st ≠ 0 → rdL T r l = r
  | [], r, h => rfl
  | p :: l, r, h => by
    show rdL T (rd1 T r p) l = r
    rw [rd1_no h]; exact rdL_no h
theorem rdL_app (r : Rdg) (l m : List Nat) : rdL T r (l ++ m) = rdL T (rdL T r l) m := List.foldl_append ..
theorem rdU_L (L : Nat → List Nat) (r : Rdg) : ∀ n, (rdU T L r n).1 = rdL T r (cat L n)
  | 0 => rfl
  | n + 1 => by
    rw [rdU]
    have ih := rdU_L L r n
    show _ = rdL T r (cat L n ++ L n)
    rw [rdL_app, ← ih]
    split
    · rename_i h; rw [rdL_no h]
    · rfl
theorem rdU_n (L : Nat → List Nat) (r : Rdg) (h0 : r.st = 0) : ∀ n, (rdU T L r n).2 ≤ n ∧ ((rdU T L r n).1.st = 0 ↔ (rdU T L r n).2 = n)
  | 0 => ⟨Nat.le_refl _, fun _ => rfl, fun _ => h0⟩
  | n + 1 => by
    have ih := rdU_n L r h0 n
    rw [rdU]
    split
    · rename_i h
      exact ⟨by omega, fun q => absurd q h, fun q => by omega⟩
    · by_cases hs : (rdL T (rdU T L r n).1 (L n)).st = 0
      · rw [if_pos hs]; exact ⟨Nat.le_refl _, fun _ => rfl, fun _ => hs⟩
      · rw [if_neg hs]; exact ⟨by dsimp only; omega, fun q => absurd q hs, fun q => by dsimp only at q; omega⟩
end
end Go.Proofs.Ytlfdfikgbdgfdaa.G
