/- Of this text what the row needs. -/
import Derived.Test.YtmnoecpnoofdjaaQPenBackZBt
namespace Go.Proofs.Ytmnoecpnoofdjaa.G
open Go.RowKit
set_option linter.unusedVariables false
set_option linter.unusedSimpArgs false
def byt (f : ByteArray) (p : Nat) : Nat := (bt f (p : Int)).toNat
theorem byt_cast (f : ByteArray) (p : Nat) : bt f (p : Int) = (byt f p : Int) := by have := bt_range f p; unfold byt; omega
theorem byt_lt (f : ByteArray) (p : Nat) : byt f p < 256 := by have := bt_range f p; unfold byt; omega
def wd (x : Nat) : Nat := if x = 255 then 2 else 1
theorem wd_pos (x : Nat) : 1 ≤ wd x ∧ wd x ≤ 2 := by unfold wd; split <;> omega
def Run (f : ByteArray) : Nat → List Nat → Nat → Prop
 | p, [], e => p = e
 | p, x :: r, e => p < f.size ∧ byt f p = x ∧ Run f (p + wd x) r e
def remB : Nat → Nat → List Nat → List (Bool × Nat)
 | _, _, [] => []
 | p, b, x :: r => (bl (b + 1) x).map (fun c => (c, p)) ++ remB (p + wd x) 7 r
def Src (H : Hp) (k : Nat) (l : List (Bool × Nat)) (e u : Nat) : Prop := ∃ (f : ByteArray) (p b : Nat) (xs : List Nat), Bk H k 125 (c125 f (p : Int) (b : Int) (e : Int) (l.length : Int) (u : Int)) ∧ Run f p xs e ∧ b < 8 ∧ l = remB p b xs ∧ f.size ≤ 1152921504606846976 ∧ l.length + u ≤ 9223372036854775800
theorem Src.ch {H H' : Hp} {k : Nat} {l : List (Bool × Nat)} {e u : Nat} {F : List Nat} (h : Src H k l e u) (c : Ch F H H') (hk : k ∉ F) : Src H' k l e u := by
 obtain ⟨f, p, b, xs, h1, h2⟩ := h
 exact ⟨f, p, b, xs, h1.ch c hk, h2⟩
theorem Src.keep {H H' : Hp} {k : Nat} {l : List (Bool × Nat)} {e u : Nat} (h : Src H k l e u) (c : Keep H H') : Src H' k l e u := h.ch (c.ch (F := [])) (by simp)
theorem Src.lt {H : Hp} {k : Nat} {l : List (Bool × Nat)} {e u : Nat} (h : Src H k l e u) : k < H.size := by
 obtain ⟨f, p, b, xs, h1, _⟩ := h
 exact h1.lt
theorem and_one8 {x b : Nat} (hx : x < 256) (hb : b < 8) : IntKind.wrap .i64 (Go.bits .and .u8 (shrI .u8 (x : Int) (b : Int)) 1) = ((x.testBit b).toNat : Int) := by
 have h1 : x / 2 ^ b ≤ x := Nat.div_le_self _ _
 rw [shrn (by show b ≤ 8; omega)]
 have e := gand (k := .u8) (x := x / 2 ^ b) (y := 1) (by show _ < 2 ^ 8; omega) (by decide) (wu8n (by rw [Nat.and_one_is_mod]; omega))
 rw [show ((1 : Nat) : Int) = (1 : Int) from rfl] at e
 rw [e, Nat.and_one_is_mod, w64n (by omega), Nat.testBit_eq_decide_div_mod_eq]
 rcases Nat.mod_two_eq_zero_or_one (x / 2 ^ b) with h | h <;> simp [h]
theorem step_ok {H : Hp} {k : Nat} {l : List (Bool × Nat)} {e u : Nat} {Q : Int → Hp → Prop} (hs : Src H k l e u) (h0 : l = [] → Q 1 H) (h1 : ∀ c p l', l = (c, p) :: l' → ∀ H', Src H' k l' e (u + 1) → Same H H' k → Q (c.toNat : Int) H') :
  bits_Source_step.s (some ⟨k, 0, none⟩) H Q := by
 obtain ⟨f, p, b, xs, bk, hr, hb, rfl, hf, hu⟩ := hs
 unfold bits_Source_step.s
 refine ⟨_, rfl, ldI_a bk rfl ?_⟩
 cases xs with
 | nil => exact ite_t (beqi rfl) (h0 rfl)
 | cons x r =>
  have hl : (remB p b (x :: r)).length = b + 1 + (remB (p + wd x) 7 r).length := by simp [remB, bl_len]
  obtain ⟨hp, hx, hr'⟩ := hr
  rw [hl] at bk hu
  have hx8 := byt_lt f p
  rw [hl]
  refine ite_f (beqf (by omega)) (ldS_a bk rfl (ldI_a bk rfl ⟨by omega, by omega, ldI_a bk rfl ⟨by omega, Lt.of ?_⟩⟩))
  rw [byt_cast, hx, and_one8 (by omega) hb]
  refine ldI_a bk rfl (st_a bk (by simp) fun H1 b1 s1 => ldI_a b1 rfl (st_a b1 (by simp) fun H2 b2 s2 => ldI_a b2 rfl ?_))
  rw [w64 (by omega), w64 (by omega)] at b2
  have s12 := s1.trans s2
  by_cases hb0 : 0 < b
  ·refine ite_t (dect (by omega)) (ldI_a b2 rfl (st_a b2 (by simp) fun H3 b3 s3 => ?_))
   rw [show (b : Int) - 1 = ((b - 1 : Nat) : Int) from by omega, wu8n (by omega)] at b3
   have e2 : remB p b (x :: r) = (x.testBit b, p) :: remB p (b - 1) (x :: r) := by
    simp only [remB]
    rw [bl, show b - 1 + 1 = b from by omega]
    rfl
   refine h1 _ _ _ e2 H3 ⟨f, p, b - 1, x :: r, ?_, ⟨hp, hx, hr'⟩, by omega, rfl, hf, ?_⟩ (s12.trans s3)
   ·have hl' : (remB p (b - 1) (x :: r)).length = b + (remB (p + wd x) 7 r).length := by simp [remB, bl_len]; omega
    rw [hl']
    have g1 : ((b + 1 + (remB (p + wd x) 7 r).length : Nat) : Int) - 1 = ((b + (remB (p + wd x) 7 r).length : Nat) : Int) := by omega
    rw [g1] at b3
    exact b3
   ·have hl' : (remB p (b - 1) (x :: r)).length = b + (remB (p + wd x) 7 r).length := by simp [remB, bl_len]; omega
    omega
  ·obtain rfl : b = 0 := by omega
   have e2 : remB p 0 (x :: r) = (x.testBit 0, p) :: remB (p + wd x) 7 r := rfl
   refine ite_f (decf (by omega)) (st_a b2 (by simp) fun H3 b3 s3 => ldI_a b3 rfl (st_a b3 (by simp) fun H4 b4 s4 => ?_))
   rw [show (p : Int) + 1 = ((p + 1 : Nat) : Int) from by omega, w64n (by omega)] at b4
   have g1 : ((0 + 1 + (remB (p + wd x) 7 r).length : Nat) : Int) - 1 = ((remB (p + wd x) 7 r).length : Int) := by omega
   rw [g1] at b4
   have s14 := (s12.trans s3).trans s4
   refine Join.intro (fun _ H' => Src H' k (remB (p + wd x) 7 r) e (u + 1) ∧ Same H H' k) ?_ ?_
   ·rintro ⟨⟩ H5 ⟨a, s⟩
    exact h1 _ _ _ e2 H5 a s
   ·intro J hJ
    by_cases hff : x = 255
    ·refine ite_t (beqi (by omega)) (ldI_a b4 rfl (st_a b4 (by simp) fun H5 b5 s5 => hJ _ _ ⟨⟨f, p + wd x, 7, r, ?_, hr', by omega, rfl, hf, by omega⟩, s14.trans s5⟩))
     have : wd x = 2 := by unfold wd; rw [if_pos hff]
     rw [show ((p + 1 : Nat) : Int) + 1 = ((p + wd x : Nat) : Int) from by omega, w64n (by omega)] at b5
     exact b5
    ·refine ite_f (beqf (by omega)) (hJ _ _ ⟨⟨f, p + wd x, 7, r, ?_, hr', by omega, rfl, hf, by omega⟩, s14⟩)
     have : wd x = 1 := by unfold wd; rw [if_neg hff]
     rw [this] at b4 ⊢
     exact b4
def bitAt (l : List (Bool × Nat)) (i : Nat) : Bool := match l[i]? with | some c => c.1 | none => true
def ext (l : List (Bool × Nat)) (n : Nat) : List Bool := (List.range n).map (bitAt l)
theorem ext_len (l : List (Bool × Nat)) (n : Nat) : (ext l n).length = n := by simp [ext]
theorem ext_succ (l : List (Bool × Nat)) (n : Nat) : ext l (n + 1) = ext l n ++ [bitAt l n] := by simp [ext, List.range_succ]
theorem ext_lt (l : List (Bool × Nat)) (n : Nat) : num (ext l n) < 2 ^ n := by have := num_lt (ext l n); rwa [ext_len] at this
theorem or_bit {v : Nat} (c : Bool) (hv : v < 65536) : Go.bits .or .i64 (shlI .i64 (v : Int) 1) (c.toNat : Int) = ((2 * v + c.toNat : Nat) : Int) := by
 have hc : ∀ c : Bool, c.toNat < 2 ^ 1 := by decide
 have h1 := hc c
 have e := shln (k := .i64) (x := v) (n := 1) (by decide) (w64n (by omega))
 rw [show ((1 : Nat) : Int) = (1 : Int) from rfl] at e
 have h2 := Nat.two_pow_add_eq_or_of_lt h1 v
 rw [e, gor (by show _ < 2 ^ 64; omega) (by show _ < 2 ^ 64; omega) (w64n (by rw [Nat.mul_comm, ← h2]; omega)), Nat.mul_comm, ← h2]
theorem Peek_ok {H : Hp} {k : Nat} {l : List (Bool × Nat)} {e u : Nat} {n : Int} {Q : Int × Bool → Hp → Prop} (hs : Src H k l e u) (h0 : n < 0 ∨ 16 < n → Q (0, false) H)
  (h : 0 ≤ n → n ≤ 16 → ∀ H', Keep H H' → Q ((num (ext l n.toNat) : Int), true) H') : bits_Source_Peek.s (some ⟨k, 0, none⟩) n H Q := by
 unfold bits_Source_Peek.s
 refine Join.intro (fun b H' => b = decide (n < 0 ∨ 16 < n) ∧ H = H') ?_ ?_
 rotate_left
 ·intro J hJ
  by_cases h1 : n < 0
  ·exact ite_t (dect h1) (hJ _ _ ⟨by simp [h1], rfl⟩)
  ·exact ite_f (decf h1) (hJ _ _ ⟨by simp [h1], rfl⟩)
 rintro _ _ ⟨rfl, rfl⟩
 by_cases hb : n < 0 ∨ 16 < n
 ·exact ite_t (dect hb) (h0 hb)
 refine ite_f (decf hb) ?_
 obtain ⟨m, rfl⟩ : ∃ m : Nat, n = (m : Int) := ⟨n.toNat, by omega⟩
 have hsl := hs.lt
 obtain ⟨f, p, b, xs, bk, hr, hb8, rfl, hf, hu⟩ := hs
 refine ⟨_, rfl, _, _, _, _, _, _, ldA_full bk, fun b1 H2 c2 g1 g2 hbk => ?_⟩
 have k2 : Keep H H2 := c2.keep (by simp)
 generalize hl : remB p b xs = l at *
 refine Fix.intro (fun (x : Int × Int) H' => ∃ i : Nat, x = ((num (ext l i) : Int), (i : Int)) ∧ i ≤ m ∧ Src H' b1 (l.drop i) e (u + min i l.length) ∧ Keep H H') (fun x _ => m - x.2.toNat)
  ⟨0, rfl, by omega, ⟨f, p, b, xs, by simpa using hbk, hr, hb8, by rw [hl]; rfl, hf, by simpa using hu⟩, k2⟩ ?_
 rintro _ H3 ⟨i, rfl, hi, S3, k3⟩ rec hrec
 simp only
 by_cases him : i < m
 ·have hv := ext_lt l i
  have hv2 : 2 ^ i ≤ 2 ^ 15 := pow_lt (by omega)
  have e15 : (2 : Nat) ^ 15 = 32768 := rfl
  have fin : ∀ c H4, bitAt l i = c → Src H4 b1 (l.drop (i + 1)) e (u + min (i + 1) l.length) → Keep H H4 → rec (Go.bits .or .i64 (shlI .i64 (num (ext l i) : Int) 1) (c.toNat : Int), IntKind.wrap .i64 ((i : Int) + 1)) H4 := fun c H4 hc S4 k4 => by
   rw [or_bit c (by omega), show (i : Int) + 1 = ((i + 1 : Nat) : Int) from by omega, w64n (by omega)]
   refine hrec _ _ ⟨i + 1, ?_, by omega, S4, k4⟩ (by simp; omega)
   rw [ext_succ, num_snoc, hc]
  refine ite_t (dect (by omega)) (step_ok S3 (fun h => ?_) fun c q l' h H4 S4 s4 => ?_)
  ·have hl := List.drop_eq_nil_iff.1 h
   have hc : bitAt l i = true := by unfold bitAt; rw [List.getElem?_eq_none hl]
   refine fin true H3 hc ?_ k3
   rw [List.drop_eq_nil_of_le (by omega)]
   rw [h] at S3
   rwa [show min (i + 1) l.length = min i l.length from by omega]
  ·have hil : i < l.length := by
    rcases Nat.lt_or_ge i l.length with h1 | h1
    ·exact h1
    ·rw [List.drop_eq_nil_of_le h1] at h; cases h
   rw [List.drop_eq_getElem_cons hil] at h
   injection h with h1 h2
   subst h2
   refine fin c H4 ?_ ?_ (k3.same s4 g1)
   ·unfold bitAt; rw [List.getElem?_eq_getElem hil, h1]
   ·rwa [show u + min (i + 1) l.length = u + min i l.length + 1 from by omega]
 ·obtain rfl : i = m := by omega
  exact ite_f (decf (by omega)) (h (by omega) (by omega) H3 k3)
theorem Skip_ok {H : Hp} {k : Nat} {l : List (Bool × Nat)} {e u : Nat} {n : Int} {Q : Bool → Hp → Prop} (hs : Src H k l e u) (h0 : n < 0 ∨ l.length < n → Q false H)
  (h : 0 ≤ n → n ≤ l.length → ∀ H', Src H' k (l.drop n.toNat) e (u + n.toNat) → Same H H' k → Q true H') : bits_Source_Skip.s (some ⟨k, 0, none⟩) n H Q := by
 have bnd : l.length + u ≤ 9223372036854775800 := by
  obtain ⟨f, p, b, xs, bk, hr, hb8, _, hf, hu⟩ := hs
  exact hu
 unfold bits_Source_Skip.s
 refine Join.intro (fun b H' => b = decide (n < 0 ∨ l.length < n) ∧ H = H') ?_ ?_
 rotate_left
 ·intro J hJ
  by_cases h1 : n < 0
  ·exact ite_t (dect h1) (hJ _ _ ⟨by simp [h1], rfl⟩)
  ·obtain ⟨f, p, b, xs, bk, hr, hb8, rfl, hf, hu⟩ := hs
   exact ite_f (decf h1) ⟨_, rfl, ldI_a bk rfl (hJ _ _ ⟨by simp [h1], rfl⟩)⟩
 rintro _ _ ⟨rfl, rfl⟩
 by_cases hb : n < 0 ∨ l.length < n
 ·exact ite_t (dect hb) (h0 hb)
 refine ite_f (decf hb) ?_
 obtain ⟨m, rfl⟩ : ∃ m : Nat, n = (m : Int) := ⟨n.toNat, by omega⟩
 refine Fix.intro (fun (x : Int) H' => ∃ i : Nat, x = (i : Int) ∧ i ≤ m ∧ Src H' k (l.drop i) e (u + i) ∧ Same H H' k) (fun x _ => m - x.toNat) ⟨0, rfl, by omega, by simpa using hs, Same.refl _ _⟩ ?_
 rintro _ H3 ⟨i, rfl, hi, S3, s3⟩ rec hrec
 by_cases him : i < m
 ·refine ite_t (dect (by omega)) (step_ok S3 (fun h => ?_) fun c q l' h H4 S4 s4 => ?_)
  ·have hl := List.drop_eq_nil_iff.1 h
   omega
  ·have hil : i < l.length := by omega
   rw [List.drop_eq_getElem_cons hil] at h
   injection h with h1 h2
   subst h2
   rw [show (i : Int) + 1 = ((i + 1 : Nat) : Int) from by omega, w64n (by omega)]
   exact hrec _ _ ⟨i + 1, rfl, by omega, S4, s3.trans s4⟩ (by simp; omega)
 ·obtain rfl : i = m := by omega
  exact ite_f (decf (by omega)) (h (by omega) (by omega) H3 S3 s3)
theorem Next_ok {H : Hp} {k : Nat} {l : List (Bool × Nat)} {e u : Nat} {n : Int} {Q : Int × Bool → Hp → Prop} (hs : Src H k l e u) (h0 : n < 0 ∨ 16 < n ∨ l.length < n → ∀ H', Keep H H' → Q (0, false) H')
  (h : 0 ≤ n → n ≤ 16 → n ≤ l.length → ∀ H', Src H' k (l.drop n.toNat) e (u + n.toNat) → Ch [k] H H' → Q ((num (ext l n.toNat) : Int), true) H') : bits_Source_Next.s (some ⟨k, 0, none⟩) n H Q := by
 unfold bits_Source_Next.s
 refine Peek_ok hs (fun hb => ?_) fun h1 h2 H2 k2 => ?_
 ·refine Join.intro (fun b H' => b = true ∧ H = H') ?_ ?_
  ·rintro _ _ ⟨rfl, rfl⟩
   exact ite_t rfl (h0 (by omega) _ (Keep.refl _))
  ·exact fun J hJ => ite_t rfl (hJ _ _ ⟨rfl, rfl⟩)
 ·refine Join.intro (fun b H' => if b = true then l.length < n ∧ H2 = H' else n ≤ l.length ∧ Src H' k (l.drop n.toNat) e (u + n.toNat) ∧ Same H2 H' k) ?_ ?_
  ·rintro b H' hb
   cases b with
   | true =>
    simp only [if_true] at hb
    obtain ⟨hb, rfl⟩ := hb
    exact ite_t rfl (h0 (by omega) _ k2)
   | false =>
    simp only [Bool.false_eq_true, if_false] at hb
    exact ite_f rfl (h h1 h2 hb.1 H' hb.2.1 ((k2.ch (F := [k])).trans hb.2.2.ch (by simp)))
  ·intro J hJ
   refine ite_f rfl (Skip_ok (hs.keep k2) (fun hb => hJ _ _ (by simp; omega)) fun q1 q2 H3 S3 s3 => hJ _ _ (by simp; exact ⟨q2, S3, s3⟩))
end Go.Proofs.Ytmnoecpnoofdjaa.G
