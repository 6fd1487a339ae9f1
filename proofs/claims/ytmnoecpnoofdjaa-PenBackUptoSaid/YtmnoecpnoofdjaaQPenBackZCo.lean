/- Of this text what the row needs. -/
import Derived.Test.YtmnoecpnoofdjaaQPenBackZC
namespace Go.Proofs.Ytmnoecpnoofdjaa.G
open Go.RowKit
set_option linter.unusedVariables false
set_option linter.unusedSimpArgs false
theorem Left_ok {H : Hp} {k : Nat} {l : List (Bool × Nat)} {e u : Nat} {Q : Int → Hp → Prop} (hs : Src H k l e u) (h : Q (l.length : Int) H) : bits_Source_Left.s (some ⟨k, 0, none⟩) H Q := by
 obtain ⟨f, p, b, xs, bk, hr, hb8, _, hf, hu⟩ := hs
 exact ⟨_, rfl, ldI_a bk rfl h⟩
theorem Used_ok {H : Hp} {k : Nat} {l : List (Bool × Nat)} {e u : Nat} {Q : Int → Hp → Prop} (hs : Src H k l e u) (h : Q (u : Int) H) : bits_Source_Used.s (some ⟨k, 0, none⟩) H Q := by
 obtain ⟨f, p, b, xs, bk, hr, hb8, _, hf, hu⟩ := hs
 exact ⟨_, rfl, ldI_a bk rfl h⟩
def placeOf (l : List (Bool × Nat)) (e : Nat) : Nat := match l with | [] => e | c :: _ => c.2
theorem At_ok {H : Hp} {k : Nat} {l : List (Bool × Nat)} {e u : Nat} {Q : Int → Hp → Prop} (hs : Src H k l e u) (h : Q (placeOf l e : Int) H) : bits_Source_At.s (some ⟨k, 0, none⟩) H Q := by
 obtain ⟨f, p, b, xs, bk, hr, hb8, rfl, hf, hu⟩ := hs
 refine ⟨_, rfl, ldI_a bk rfl ?_⟩
 cases xs with
 | nil =>
  obtain rfl : p = e := hr
  exact h
 | cons x r => exact h
theorem num_ones : ∀ n, num (List.replicate n true) = 2 ^ n - 1
 | 0 => rfl
 | n + 1 => by
  have := num_ones n
  have h2 : 0 < 2 ^ n := Nat.pow_pos (by omega)
  rw [List.replicate_succ', num_snoc, this, Nat.pow_succ]
  simp
  omega
theorem num_full {l : List Bool} : num l = 2 ^ l.length - 1 ↔ l = List.replicate l.length true := by
 constructor
 ·intro h
  rw [← num_ones] at h
  have h1 := bl_num l
  have h2 := bl_num (List.replicate l.length true)
  rw [List.length_replicate, ← h, h1] at h2
  exact h2
 ·intro h
  conv => lhs; rw [h]
  exact num_ones _
theorem ext_all (l : List (Bool × Nat)) : ext l l.length = l.map (·.1) := by
 refine List.ext_getElem (by simp [ext]) fun i h1 h2 => ?_
 simp at h2
 simp [ext, bitAt, List.getElem?_eq_getElem h2]
def padd (l : List (Bool × Nat)) : Bool := decide (l.length < 8) && l.all (·.1)
theorem Padded_ok {H : Hp} {k : Nat} {l : List (Bool × Nat)} {e u : Nat} {Q : Bool → Hp → Prop} (hs : Src H k l e u) (h : ∀ H', Keep H H' → Q (padd l) H') : bits_Source_Padded.s (some ⟨k, 0, none⟩) H Q := by
 have hs0 := hs
 obtain ⟨f, p, b, xs, bk, hr, hb8, _, hf, hu⟩ := hs
 unfold bits_Source_Padded.s
 refine ⟨_, rfl, ldI_a bk rfl ?_⟩
 unfold padd at h
 by_cases h8 : 8 ≤ l.length
 ·refine ite_t (dect (by omega)) ?_
  rw [decf (show ¬ l.length < 8 by omega), Bool.false_and] at h
  exact h H (Keep.refl _)
 ·refine ite_f (decf (by omega)) (ldI_a bk rfl (Peek_ok hs0 (by omega) fun _ _ H2 k2 => ldI_a (bk.keep k2) rfl ⟨by omega, ?_⟩))
  have e1 := shln (k := .i64) (x := 1) (n := l.length) (by show l.length ≤ 64; omega) (w64n (by
   have := pow_lt (show l.length ≤ 8 by omega)
   have e8 : (2 : Nat) ^ 8 = 256 := rfl
   omega))
  have hp : 0 < 2 ^ l.length := Nat.pow_pos (by omega)
  have hp2 := pow_lt (show l.length ≤ 8 by omega)
  have e8 : (2 : Nat) ^ 8 = 256 := rfl
  rw [show ((1 : Nat) : Int) = (1 : Int) from rfl, Nat.one_mul] at e1
  rw [Int.toNat_natCast, e1, show ((2 ^ l.length : Nat) : Int) - 1 = ((2 ^ l.length - 1 : Nat) : Int) from by omega, w64n (by omega), ext_all]
  rw [dect (show l.length < 8 by omega), Bool.true_and] at h
  have key : (((num (l.map (·.1)) : Nat) : Int) == ((2 ^ l.length - 1 : Nat) : Int)) = l.all (·.1) := by
   have hf := num_full (l := l.map (·.1))
   rw [List.length_map] at hf
   rw [Bool.eq_iff_iff, beq_iff_eq, Int.natCast_inj, hf, List.all_eq_true, List.eq_replicate_iff]
   simp
  show Q (((num (l.map (·.1)) : Nat) : Int) == ((2 ^ l.length - 1 : Nat) : Int)) H2
  rw [key]
  exact h H2 k2
def tk (l : List (Bool × Nat)) (n : Int) : Nat := if 0 ≤ n ∧ n ≤ l.length then n.toNat else 0
theorem Skip_x {H : Hp} {k : Nat} {l : List (Bool × Nat)} {e u : Nat} {n : Int} {Q : Bool → Hp → Prop} (hs : Src H k l e u)
  (h : ∀ H', Src H' k (l.drop (tk l n)) e (u + tk l n) → Same H H' k → Q (decide (0 ≤ n ∧ n ≤ l.length)) H') : bits_Source_Skip.s (some ⟨k, 0, none⟩) n H Q := by
 unfold tk at h
 by_cases hb : 0 ≤ n ∧ n ≤ l.length
 ·rw [if_pos hb, dect hb] at h
  exact Skip_ok hs (by omega) fun _ _ H' S s => h H' S s
 ·rw [if_neg hb, decf hb] at h
  exact Skip_ok hs (fun _ => h H (by simpa using hs) (Same.refl _ _)) (by omega)
theorem Next_x {H : Hp} {k : Nat} {l : List (Bool × Nat)} {e u m : Nat} {Q : Int × Bool → Hp → Prop} (hs : Src H k l e u) (hm : m ≤ 16)
  (h : ∀ H', Src H' k (l.drop (tk l m)) e (u + tk l m) → Ch [k] H H' → Q ((if m ≤ l.length then (num (ext l m) : Int) else 0), decide (m ≤ l.length)) H') : bits_Source_Next.s (some ⟨k, 0, none⟩) (m : Int) H Q := by
 unfold tk at h
 by_cases hb : m ≤ l.length
 ·rw [if_pos (by omega), if_pos hb, dect hb] at h
  exact Next_ok hs (by omega) fun _ _ _ H' S s => h H' S s
 ·rw [if_neg (by omega), if_neg hb, decf hb] at h
  exact Next_ok hs (fun _ H' k' => h H' (by simpa using hs.keep k') k'.ch) (by omega)
def Cut (f : ByteArray) (b : Nat) : Nat → List Nat → Nat → Prop
 | p, [], e => p = e ∧ (p = b ∨ p < b ∧ byt f p = 255 ∧ (b ≤ p + 1 ∨ byt f (p + 1) ≠ 0))
 | p, x :: r, e => p < b ∧ byt f p = x ∧ (x = 255 → p + 1 < b ∧ byt f (p + 1) = 0) ∧ Cut f b (p + wd x) r e
theorem Cut.run {f : ByteArray} {b : Nat} (hb : b ≤ f.size) : ∀ {xs : List Nat} {p e : Nat}, Cut f b p xs e → Run f p xs e
 | [], p, e, h => h.1
 | x :: r, p, e, h => ⟨by have := h.1; omega, h.2.1, Cut.run hb h.2.2.2⟩
theorem Cut.le {f : ByteArray} {b : Nat} : ∀ {xs : List Nat} {p e : Nat}, Cut f b p xs e → p + xs.length ≤ e ∧ e ≤ b
 | [], p, e, h => by have := h.1; have := h.2; simp; omega
 | x :: r, p, e, h => by
  have := Cut.le h.2.2.2
  have := wd_pos x
  simp only [List.length_cons]
  omega
theorem remB_len : ∀ (xs : List Nat) (p : Nat), (remB p 7 xs).length = 8 * xs.length
 | [], p => rfl
 | x :: r, p => by simp [remB, bl_len, remB_len r]; omega
def loOf (n : Nat) (a : Int) : Nat := (min (max a 0) n).toNat
def hiOf (n : Nat) (a b : Int) : Nat := (max (min b n) (loOf n a)).toNat
theorem lohi (n : Nat) (a b : Int) : loOf n a ≤ hiOf n a b ∧ hiOf n a b ≤ n := by unfold hiOf loOf; omega
theorem Open_ok {f : ByteArray} {a b : Int} {H : Hp} {xs : List Nat} {e : Nat} {Q : Option Addr → Hp → Prop} (hf : f.size ≤ 1125899906842624) (hc : Cut f (hiOf f.size a b) (loOf f.size a) xs e)
  (h : ∀ k H', Src H' k (remB (loOf f.size a) 7 xs) e 0 → Keep H H' → H.size ≤ k → Q (some ⟨k, 0, none⟩) H') : bits_Open.s f a b H Q := by
 unfold bits_Open.s
 obtain ⟨hl1, hl2⟩ := lohi f.size a b
 refine Lt.of ?_
 have e1 : (if (f.size : Int) < (if a < 0 then 0 else a) then (f.size : Int) else (if a < 0 then 0 else a)) = (loOf f.size a : Int) := by unfold loOf; split <;> split at * <;> omega
 rw [e1]
 refine Lt.of ?_
 have e2 : (if (if (f.size : Int) < b then (f.size : Int) else b) < (loOf f.size a : Int) then (loOf f.size a : Int) else (if (f.size : Int) < b then (f.size : Int) else b)) = (hiOf f.size a b : Int) := by unfold hiOf; split <;> split at * <;> omega
 rw [e2]
 generalize loOf f.size a = lo at *
 generalize hiOf f.size a b = hi at *
 intro b5 H6 c6 g1 g2 hbk
 have k6 : Keep H H6 := c6.keep (by simp)
 have hle := hc.le
 refine Join.intro (fun _ H' => Bk H' b5 125 (c125 f (lo : Int) 7 (e : Int) ((8 * xs.length : Nat) : Int) 0) ∧ Keep H H') ?_ ?_
 ·rintro ⟨⟩ H9 ⟨b9, k9⟩
  refine h b5 H9 ⟨f, lo, 7, xs, ?_, hc.run hl2, by omega, rfl, by omega, ?_⟩ k9 g1
  ·rw [remB_len]; exact b9
  ·rw [remB_len]; omega
 intro J hJ
 refine Fix.intro (fun (x : Int) H' => ∃ (p : Nat) (ys zs : List Nat), x = (p : Int) ∧ xs = ys ++ zs ∧ Cut f hi p zs e ∧ lo ≤ p ∧ Bk H' b5 125 (c125 f (lo : Int) 7 (hi : Int) ((8 * ys.length : Nat) : Int) 0) ∧ Keep H H') (fun x _ => hi - x.toNat)
  ⟨lo, [], xs, rfl, rfl, hc, by omega, by simpa using hbk, k6⟩ ?_
 rintro _ H13 ⟨p, ys, zs, rfl, rfl, hz, hp, b13, k13⟩ rec hrec
 have hzl := hz.le
 simp only [List.length_append] at hle hJ
 by_cases hph : p < hi
 ·refine ite_t (dect (by omega)) (Join.intro (fun (q : Int) H' => ∃ x r, zs = x :: r ∧ q = ((p + wd x - 1 : Nat) : Int) ∧ H13 = H') ?_ ?_)
  ·rintro _ _ ⟨x, r, rfl, rfl, rfl⟩
   have hw := wd_pos x
   simp only [List.length_cons] at hle
   refine ldI_i b13 rfl (st_i b13 (by simp) fun H21 b21 s21 => ?_)
   rw [show ((p + wd x - 1 : Nat) : Int) + 1 = ((p + wd x : Nat) : Int) from by omega, w64n (by omega)]
   rw [show ((8 * ys.length : Nat) : Int) + 8 = ((8 * (ys ++ [x]).length : Nat) : Int) from by simp; omega, w64n (by simp; omega)] at b21
   exact hrec _ _ ⟨p + wd x, ys ++ [x], r, rfl, by simp, hz.2.2.2, by omega, b21, k13.same s21 g1⟩ (by simp; omega)
  ·intro J2 hJ2
   refine ⟨by omega, by omega, ?_⟩
   rw [show (p : Int) + 1 = ((p + 1 : Nat) : Int) from by omega, w64n (by omega), byt_cast, byt_cast]
   cases zs with
   | nil =>
    obtain ⟨rfl, hz2⟩ := hz
    have hz3 : byt f p = 255 ∧ (hi ≤ p + 1 ∨ byt f (p + 1) ≠ 0) := by
     rcases hz2 with h | h
     ·omega
     ·exact h.2
    refine ite_t (beqi (by omega)) (Join.intro (fun (c : Bool) H' => c = true ∧ H13 = H') ?_ ?_)
    ·rintro _ _ ⟨rfl, rfl⟩
     refine ite_t rfl (st_i b13 (by simp) fun H27 b27 s27 => hJ _ _ ⟨?_, k13.same s27 g1⟩)
     simpa using b27
    ·intro J3 hJ3
     by_cases h1 : hi ≤ p + 1
     ·exact ite_t (dect (by omega)) (hJ3 _ _ ⟨rfl, rfl⟩)
     ·refine ite_f (decf (by omega)) ⟨by omega, by omega, hJ3 _ _ ⟨bnet (by omega), rfl⟩⟩
   | cons x r =>
    obtain ⟨hz1, hz2, hz3, hz4⟩ := hz
    by_cases hff : x = 255
    ·obtain ⟨h1, h2⟩ := hz3 hff
     refine ite_t (beqi (by omega)) (Join.intro (fun (c : Bool) H' => c = false ∧ H13 = H') ?_ ?_)
     ·rintro _ _ ⟨rfl, rfl⟩
      refine ite_f rfl (hJ2 _ _ ⟨x, r, rfl, ?_, rfl⟩)
      unfold wd; rw [if_pos hff]
      congr 1
     ·intro J3 hJ3
      exact ite_f (decf (by omega)) ⟨by omega, by omega, hJ3 _ _ ⟨bnei (by omega), rfl⟩⟩
    ·refine ite_f (beqf (by omega)) (hJ2 _ _ ⟨x, r, rfl, ?_, rfl⟩)
     unfold wd; rw [if_neg hff]
     congr 1
 ·refine ite_f (decf (by omega)) ?_
  cases zs with
  | nil =>
   obtain ⟨rfl, _⟩ := hz
   obtain rfl : p = hi := by omega
   refine hJ _ _ ⟨by simpa using b13, k13⟩
  | cons x r => exact absurd hz.1 hph
end Go.Proofs.Ytmnoecpnoofdjaa.G
