/- Of this text what the row needs. -/
import Derived.Test.YtlfdfikgbdgfdaaQSpanBackZ17q
import Derived.Test.YtlfdfikgbdgfdaaQSpanBackM07e
namespace Go.Proofs.Ytlfdfikgbdgfdaa.G
open Go.RowKit
set_option linter.unusedVariables false
set_option linter.unusedSimpArgs false
theorem flat8_len : ∀ ys : List Nat, (ys.flatMap (bl 8)).length = 8 * ys.length
  | [] => rfl
  | y :: r => by rw [List.flatMap_cons, List.length_append, bl_len, flat8_len r, List.length_cons]; omega
def oneS (T : TB) (x : Sy) : List Bool := codB T.1 T.2 x.1 ++ bl x.2.1.toNat (low x.2.2 x.2.1.toNat)
def encS (D A : TB) : List Sy → List Bool
  | [] => []
  | x :: r => oneS D x ++ r.flatMap (oneS A)
theorem encS_A (A : TB) : ∀ l : List Sy, l.flatMap (oneS A) = encS A A l
  | [] => rfl
  | x :: r => rfl
def Has (D A : TB) : List Sy → Prop
  | [] => True
  | x :: r => x.1 ∈ D.2 ∧ ∀ y ∈ r, y.1 ∈ A.2
theorem Has_A {A : TB} : ∀ {l : List Sy}, (∀ y ∈ l, y.1 ∈ A.2) → Has A A l
  | [], _ => trivial
  | x :: r, h => ⟨h x (by simp), fun y hy => h y (by simp [hy])⟩
theorem rdB_enc {A : TB} {pred : Int} (hA : TbOk A) : ∀ (xs : List Sy) (k : Nat) (D : TB) (X : List Int) (n t : Nat) (Z : List Bool) (Y : List Int), TbOk D → xs.length < k → n ≤ 64 → X.length = 64 → Has D A xs → bF pred X n xs = (Y, 0) →
    rdB A pred k D X n (encS D A xs ++ Z) t = (0, Y, Z, t + (encS D A xs).length)
  | [], k, D, X, n, t, Z, Y, hD, hk, hn, hX, _, h => by
    obtain ⟨k, rfl⟩ : ∃ q, k = q + 1 := ⟨k - 1, by simp at hk; omega⟩
    rw [bF] at h
    split at h
    · rename_i h64
      subst h64
      injection h with h _
      subst h
      exact rdB_end
    · injection h with _ h; cases h
  | x :: r, k, D, X, n, t, Z, Y, hD, hk, hn, hX, hh, h => by
    obtain ⟨k, rfl⟩ : ∃ q, k = q + 1 := ⟨k - 1, by simp at hk; omega⟩
    rw [bF] at h
    split at h
    · rename_i hne
      injection h with _ h
      exact absurd h hne
    rename_i h0
    generalize hf : tF pred X n x.1 x.2.1 x.2.2 = f at h h0
    obtain ⟨e, X', n'⟩ := f
    have h0 : e = 0 := by dsimp only at h0; omega
    subst h0
    have htok := tF_ok (pred := pred) (y := x.1) (b := x.2.2) (z := x.2.1) hn hX
    rw [hf] at htok
    have hw : (wF n x.1).2 = 0 ∧ x.2.1 = (wF n x.1).1 ∧ x.2.2 < 2 ^ (wF n x.1).1 := by
      unfold tF at hf
      split at hf
      · rename_i q; injection hf with hf _; omega
      split at hf
      · injection hf with hf _; cases hf
      · rename_i q1 q2; exact ⟨by omega, by omega, by omega⟩
    obtain ⟨w0, w1, w2⟩ := hw
    have hn64 : n ≠ 64 := fun q => by
      subst q
      have : (wF 64 x.1).2 = 4 := rfl
      omega
    obtain ⟨hxD, hxA⟩ := hh
    have hwt : x.2.1.toNat = (wF n x.1).1 := by omega
    have hlow : low (x.2.2 : Int) x.2.1.toNat = x.2.2 := by rw [low_nat, hwt, Nat.mod_eq_of_lt w2]
    have e1 : encS D A (x :: r) ++ Z = codB D.1 D.2 x.1 ++ (bl (wF n x.1).1 x.2.2 ++ (encS A A r ++ Z)) := by
      rw [encS, oneS, hlow, hwt, encS_A]; simp only [List.append_assoc]
    have hr := rd4_cod (B := (encS D A (x :: r) ++ Z).take 16) hD.may hxD (by rw [e1])
    have hcl : (codB D.1 D.2 x.1).length = (lkp (prs D.1 D.2) x.1).1 := codB_len _
    have hgo := rdB_go (A := A) (pred := pred) (k := k) (t := t) hn64 hr (Prod.ext rfl w0 : wF n x.1 = ((wF n x.1).1, 0)) (by rw [e1, List.length_append, List.length_append, bl_len, hcl]; omega) (X' := X') (n' := n') (by
      rw [e1, ← hcl, List.drop_left' rfl, List.take_left' (bl_len _ _), num_bl, Nat.mod_eq_of_lt w2, ← w1]
      exact hf)
    rw [hgo]
    have e2 : (encS D A (x :: r) ++ Z).drop ((lkp (prs D.1 D.2) x.1).1 + (wF n x.1).1) = encS A A r ++ Z := by
      rw [e1, ← hcl, ← List.drop_drop, List.drop_left' rfl, List.drop_left' (bl_len _ _)]
    rw [e2, rdB_enc hA r k A X' n' _ Z Y hA (by simp at hk; omega) (by dsimp only at htok; omega) htok.1 (Has_A hxA) h]
    have e3 : (encS D A (x :: r)).length = (lkp (prs D.1 D.2) x.1).1 + (wF n x.1).1 + (encS A A r).length := by
      have := congrArg List.length e1
      simp only [List.length_append, bl_len, hcl] at this
      omega
    rw [e3, Nat.add_assoc, ← Nat.add_assoc]
theorem rdb_enc {D A : TB} {pred : Int} {B : List Int} {Z : List Bool} (hD : TbOk D) (hA : TbOk A) (hB : B.length = 64) (hm : mayB B) (hd : bln (B.getD 0 0 - pred).natAbs ≤ 11) (hh : Has D A (syF B pred)) :
    rdb D A pred (encS D A (syF B pred) ++ Z) = (0, B, Z, (encS D A (syF B pred)).length) := by
  have hl := syF_len (pred := pred) hB
  have := rdB_enc (pred := pred) hA (syF B pred) 65 D zB 0 0 Z B hD (by omega) (by omega) rfl hh (blk_back hB hm hd)
  rw [Nat.zero_add] at this
  exact this
theorem encS_take {D A : TB} {xs : List Sy} {i : Nat} {x : Sy} (h : xs[i]? = some x) : encS D A (xs.take (i + 1)) = encS D A (xs.take i) ++ oneS (if i = 0 then D else A) x := by
  cases xs with
  | nil => simp at h
  | cons y r =>
    cases i with
    | zero =>
      simp at h
      subst h
      simp [encS]
    | succ i =>
      have h' : r[i]? = some x := by simpa using h
      rw [List.take_succ_cons, List.take_succ_cons, encS, encS, take_snoc' h', List.flatMap_append, if_neg (by omega)]
      simp
theorem walk_map {j : Jb} {cs : List Cp} {ps : List Pa} : ∀ n, (walkL j.w j.h cs ps j.f.toNat n).map (fun x => x.1.toNat) = cat (jL j cs ps) n
  | 0 => rfl
  | n + 1 => by
    rw [walk_add, List.map_append, walk_map n]
    rfl
theorem rdL_one {T : Nat → TB × TB} {r : Rdg} {p : Nat} : rdL T r [p] = rd1 T r p := rfl
def Wr (j : Jb) (cs : List Cp) (ps : List Pa) (TV : Nat → List Nat) (L : List Nat) (lk : List Bool) (P4 : List Int) (XS : List (List Int)) : Prop :=
  ∃ P : List Int, P.length = ps.length ∧ (∀ p, p < ps.length → P4.getD p 0 = P.getD p 0) ∧ ∀ Z, rdL (jT j TV ps) (jR0 ps (lk ++ Z)) L = ⟨0, P, Z, XS, lk.length⟩
theorem Wr.nil {j : Jb} {cs : List Cp} {ps : List Pa} {TV : Nat → List Nat} {P4 : List Int} (h : ∀ p, P4.getD p 0 = 0) : Wr j cs ps TV [] [] P4 [] :=
  ⟨List.replicate ps.length 0, by simp, fun p hp => by rw [h, List.getD_eq_getElem?_getD, List.getElem?_replicate, if_pos hp]; rfl, fun Z => rfl⟩
theorem getD_set {l : List Int} {p q : Nat} {v : Int} (hp : p < l.length) : (l.set p v).getD q 0 = if p = q then v else l.getD q 0 := by
  rw [List.getD_eq_getElem?_getD, List.getElem?_set]
  by_cases h : p = q
  · subst h; rw [if_pos rfl, if_pos rfl, if_pos hp]; rfl
  · rw [if_neg h, if_neg h, ← List.getD_eq_getElem?_getD]
theorem Wr.step {j : Jb} {cs : List Cp} {ps : List Pa} {TV : Nat → List Nat} {L : List Nat} {lk : List Bool} {P4 : List Int} {XS : List (List Int)} {p : Nat} {D A : TB} {B : List Int} (h : Wr j cs ps TV L lk P4 XS) (hp : p < ps.length) (h4 : p < P4.length) (hT : jT j TV ps p = (D, A)) (hD : TbOk D) (hA : TbOk A)
    (hB : B.length = 64) (hm : mayB B) (hd : bln (B.getD 0 0 - P4.getD p 0).natAbs ≤ 11) (hh : Has D A (syF B (P4.getD p 0))) :
    Wr j cs ps TV (L ++ [p]) (lk ++ encS D A (syF B (P4.getD p 0))) (P4.set p (B.getD 0 0)) (XS ++ [B]) := by
  obtain ⟨P, h1, h2, h3⟩ := h
  have hPp := h2 p hp
  refine ⟨P.set p (B.getD 0 0), by rw [List.length_set, h1], fun q hq => ?_, fun Z => ?_⟩
  · rw [getD_set h4, getD_set (by omega), h2 q hq]
  · rw [rdL_app, List.append_assoc, h3]
    rw [rdL_one, rd1_eq hT rfl]
    dsimp only
    rw [← hPp, rdb_enc hD hA hB hm hd hh]
    dsimp only
    rw [if_neg n00, List.length_append]
end Go.Proofs.Ytlfdfikgbdgfdaa.G
