/- The document's bits: sources. -/
import Derived.Test.YtbefacccdaafeaaZR
import Derived.Test.YtbefacccdaafeaaZCo
namespace Go.Proofs.Ytbefacccdaafeaa.G
open Go.RowKit
set_option linter.unusedVariables false
set_option linter.unusedSimpArgs false

theorem slS_fp (s : Sl) (sz : Nat) (lo hi : Int) : ∀ b ∈ fp (slS s sz lo hi), b ∈ fp s := by
  intro b hb
  unfold fp slS at *
  split at hb
  · rename_i p hp
    split at hp
    · rw [hp]; exact hb
    · cases ha : s.a with
      | none => rw [ha] at hp; cases hp
      | some q =>
        rw [ha] at hp
        simp only [Option.map_some, Option.some.injEq] at hp
        subst hp
        have : (q.add (lo.toNat * sz)).block = q.block := by unfold Addr.add; split <;> (try split) <;> rfl
        rw [this] at hb
        exact hb
  · cases hb
theorem SlV.drop {α : Type} {H : Hp} {s : Sl} {sz : Nat} {f : α → List Value} {xs : List α} {i : Nat} (h : SlV H s sz f xs) (hi : i ≤ xs.length) : SlV H (slS s sz (i : Int) (s.n : Int)) sz f (xs.drop i) := by
  have hn := h.n
  have hc := h.c
  refine ⟨by simp [slS]; omega, by simp [slS]; omega, fun j x hx => ?_⟩
  rw [List.getElem?_drop] at hx
  have hl := (List.getElem?_eq_some_iff.1 hx).1
  obtain ⟨b, o, ha, hA⟩ := h.at_ _ _ hx
  refine ⟨b, o + i * sz, ?_, by rw [Nat.add_assoc, ← Nat.add_mul]; exact hA⟩
  unfold slS
  simp only [Int.toNat_natCast]
  rw [if_neg (by omega), ha]
  simp [add_mk]
def cBit (c : Bool × Nat) : List Value := c109 c.1 (c.2 : Int)
theorem cBit_len (c : Bool × Nat) : (cBit c).length = 2 := rfl
theorem cBit_ones (c : Bool × Nat) : ∀ u ∈ cBit c, u.oneCell' = true := one109 _ _
/-- The document's source: the bits that are left, their slice s. -/
structure Rsc (H : Hp) (r : Nat) (s : Sl) (l : List (Bool × Nat)) (e u : Nat) : Prop where
  bk : Bk H r 107 (c107 s (e : Int) (u : Int))
  v : SlV H s 2 cBit l
  lt : ∀ b ∈ fp s, b < H.size
  ne : r ∉ fp s
  bnd : l.length + u ≤ 9223372036854775800
theorem Rsc.ch {H H' : Hp} {r : Nat} {s : Sl} {l : List (Bool × Nat)} {e u : Nat} {F : List Nat} (h : Rsc H r s l e u) (c : Ch F H H') (hF : ∀ b ∈ r :: fp s, b ∉ F) : Rsc H' r s l e u :=
  ⟨h.bk.ch c (hF r (by simp)), h.v.ch c fun b hb => hF b (by simp [hb]), fun b hb => by have := h.lt b hb; have := c.size; omega, h.ne, h.bnd⟩
theorem Rsc.keep {H H' : Hp} {r : Nat} {s : Sl} {l : List (Bool × Nat)} {e u : Nat} (h : Rsc H r s l e u) (c : Keep H H') : Rsc H' r s l e u := h.ch (c.ch (F := [])) (by simp)
theorem Rsc.lts {H : Hp} {r : Nat} {s : Sl} {l : List (Bool × Nat)} {e u : Nat} (h : Rsc H r s l e u) : ∀ b ∈ r :: fp s, b < H.size := by
  intro b hb
  rcases List.mem_cons.1 hb with rfl | hb
  · exact h.bk.lt
  · exact h.lt b hb
section
variable {H : Hp} {r : Nat} {s : Sl} {l : List (Bool × Nat)} {e u : Nat}
theorem rLeft_ok {Q : Int → Hp → Prop} (hs : Rsc H r s l e u) (h : Q (l.length : Int) H) : mosaicref01_Source_Left.s (some ⟨r, 0, none⟩) H Q := by
  refine ⟨_, rfl, ldL_a hs.bk rfl ?_⟩
  rw [hs.v.n]; exact h
theorem rAt_ok {Q : Int → Hp → Prop} (hs : Rsc H r s l e u) (h : Q (placeOf l e : Int) H) : mosaicref01_Source_At.s (some ⟨r, 0, none⟩) H Q := by
  have hn := hs.v.n
  refine ⟨_, rfl, ldL_a hs.bk rfl ?_⟩
  cases l with
  | nil => exact ite_t (beqi (by simp at hn; omega)) (ldI_a hs.bk rfl h)
  | cons c l' =>
    simp only [List.length_cons] at hn
    obtain ⟨b, o, ha, hA⟩ := hs.v.get (i := 0) rfl
    exact ite_f (beqf (by omega)) (ldL_a hs.bk rfl ⟨by omega, by omega, _, ha, ldI_of hA (j := 1) rfl h⟩)
theorem rSkip_x {n : Int} {Q : Bool → Hp → Prop} (hs : Rsc H r s l e u)
    (h : ∀ s' H', Rsc H' r s' (l.drop (tk l n)) e (u + tk l n) → Same H H' r → (∀ b ∈ fp s', b ∈ fp s) → Q (decide (0 ≤ n ∧ n ≤ l.length)) H') : mosaicref01_Source_Skip.s (some ⟨r, 0, none⟩) n H Q := by
  unfold mosaicref01_Source_Skip.s
  have hsn := hs.v.n
  have hbn := hs.bnd
  refine Join.intro (fun b H' => b = decide (n < 0 ∨ l.length < n) ∧ H = H') ?_ ?_
  rotate_left
  · intro J hJ
    by_cases h1 : n < 0
    · exact ite_t (dect h1) (hJ _ _ ⟨by simp [h1], rfl⟩)
    · exact ite_f (decf h1) ⟨_, rfl, ldL_a hs.bk rfl (hJ _ _ ⟨by simp [h1, hsn], rfl⟩)⟩
  rintro _ _ ⟨rfl, rfl⟩
  by_cases hb : n < 0 ∨ l.length < n
  · have e0 : tk l n = 0 := by unfold tk; rw [if_neg (by omega)]
    rw [e0, decf (by omega)] at h
    exact ite_t (dect hb) (h s H (by simpa using hs) (Same.refl _ _) fun b hb => hb)
  refine ite_f (decf hb) ?_
  obtain ⟨m, rfl⟩ : ∃ m : Nat, n = (m : Int) := ⟨n.toNat, by omega⟩
  have e0 : tk l (m : Int) = m := by unfold tk; rw [if_pos (by omega)]; omega
  rw [e0, dect (by omega)] at h
  refine ⟨_, rfl, ldL_a hs.bk rfl ⟨by omega, by omega, st_a hs.bk (by simp) fun H1 b1 s1 => ldI_a b1 rfl (st_a b1 (by simp) fun H2 b2 s2 => ?_)⟩⟩
  rw [show (u : Int) + (m : Int) = ((u + m : Nat) : Int) from by omega, w64n (by omega)] at b2
  have s12 := s1.trans s2
  have hfp := slS_fp s 2 (m : Int) (s.n : Int)
  refine h _ H2 ⟨b2, (hs.v.drop (by omega)).ch s12.ch fun b hb => ?_, fun b hb => ?_, fun hb => hs.ne (hfp _ hb), by rw [List.length_drop]; omega⟩ s12 hfp
  · simp; exact fun h => hs.ne (h ▸ hfp b hb)
  · rw [s12.size]; exact hs.lt b (hfp b hb)
end
theorem Bounds_ok {f : ByteArray} {a b : Int} {H : Hp} {Q : Int × Int → Hp → Prop} (h : Q ((loOf f.size a : Int), (hiOf f.size a b : Int)) H) : mosaicref01_Bounds.s f a b H Q := by
  unfold mosaicref01_Bounds.s
  refine Join.intro (fun x H' => x = max a 0 ∧ H = H') ?_ fun J hJ => ?_
  rotate_left
  · by_cases h1 : a < 0
    · exact ite_t (dect h1) (hJ _ _ ⟨by omega, rfl⟩)
    · exact ite_f (decf h1) (hJ _ _ ⟨by omega, rfl⟩)
  rintro _ _ ⟨rfl, rfl⟩
  refine Join.intro (fun x H' => x = (loOf f.size a : Int) ∧ H = H') ?_ fun J hJ => ?_
  rotate_left
  · unfold loOf at hJ
    by_cases h1 : (f.size : Int) < max a 0
    · exact ite_t (dect h1) (hJ _ _ ⟨by omega, rfl⟩)
    · exact ite_f (decf h1) (hJ _ _ ⟨by omega, rfl⟩)
  rintro _ _ ⟨rfl, rfl⟩
  refine Join.intro (fun x H' => x = min b f.size ∧ H = H') ?_ fun J hJ => ?_
  rotate_left
  · by_cases h1 : (f.size : Int) < b
    · exact ite_t (dect h1) (hJ _ _ ⟨by omega, rfl⟩)
    · exact ite_f (decf h1) (hJ _ _ ⟨by omega, rfl⟩)
  rintro _ _ ⟨rfl, rfl⟩
  refine Join.intro (fun x H' => x = (hiOf f.size a b : Int) ∧ H = H') ?_ fun J hJ => ?_
  rotate_left
  · unfold hiOf at hJ
    by_cases h1 : min b f.size < (loOf f.size a : Int)
    · exact ite_t (dect h1) (hJ _ _ ⟨by omega, rfl⟩)
    · exact ite_f (decf h1) (hJ _ _ ⟨by omega, rfl⟩)
  rintro _ _ ⟨rfl, rfl⟩
  exact h
theorem bit_of {x j : Nat} (hx : x < 256) (hj : j < 8) : (Int.tmod (IntKind.wrap .i64 (Int.tdiv (x : Int) ((128 / 2 ^ j : Nat) : Int))) 2 == 1) = x.testBit (7 - j) := by
  have e : 128 / 2 ^ j = 2 ^ (7 - j) := by
    have : ∀ j : Fin 8, 128 / 2 ^ j.val = 2 ^ (7 - j.val) := by decide
    exact this ⟨j, hj⟩
  rw [e, show Int.tdiv (x : Int) ((2 ^ (7 - j) : Nat) : Int) = ((x / 2 ^ (7 - j) : Nat) : Int) from rfl]
  have h1 : x / 2 ^ (7 - j) ≤ x := Nat.div_le_self _ _
  rw [w64n (by omega), show Int.tmod ((x / 2 ^ (7 - j) : Nat) : Int) 2 = ((x / 2 ^ (7 - j) % 2 : Nat) : Int) from rfl, Nat.testBit_eq_decide_div_mod_eq]
  rcases Nat.mod_two_eq_zero_or_one (x / 2 ^ (7 - j)) with h | h <;> rw [h] <;> rfl
theorem bl_get : ∀ (n v i : Nat), i < n → (bl n v)[i]? = some (v.testBit (n - 1 - i))
  | 0, v, i, h => by omega
  | n + 1, v, 0, h => rfl
  | n + 1, v, i + 1, h => by rw [bl, List.getElem?_cons_succ, bl_get n v i (by omega)]; congr 2; omega
theorem Stop_ok {f : ByteArray} {lo hi : Nat} {H : Hp} {xs : List Nat} {e : Nat} {Q : Int × Sl → Hp → Prop} (hf : f.size ≤ 549755813888) (hhi : hi ≤ f.size) (hc : Cut f hi lo xs e)
    (h : ∀ s H', Own H' 109 2 s ((remB lo 7 xs).flatMap cBit) → Keep H H' → (∀ b ∈ fp s, H.size ≤ b) → Q ((e : Int), s) H') : mosaicref01_Stop.s f lo hi H Q := by
  unfold mosaicref01_Stop.s
  have hrl := remB_len xs lo
  have hcl := hc.le
  refine Fix.intro (fun (x : Sl × Int) H' => ∃ (p : Nat) (zs : List Nat) (L : List (Bool × Nat)), x.2 = (p : Int) ∧ remB lo 7 xs = L ++ remB p 7 zs ∧ Cut f hi p zs e ∧ Own H' 109 2 x.1 (L.flatMap cBit) ∧ Keep H H' ∧ ∀ b ∈ fp x.1, H.size ≤ b) (fun x _ => hi - x.2.toNat)
    ⟨lo, xs, [], rfl, rfl, hc, Own.nil _ _ _, Keep.refl _, by simp [fp]⟩ ?_
  rintro ⟨t, _⟩ H4 ⟨p, zs, L, rfl, hL, hz, o4, k4, f4⟩ rec hrec
  replace o4 : Own H4 109 2 t (L.flatMap cBit) := o4
  replace f4 : ∀ b ∈ fp t, H.size ≤ b := f4
  have hzl := hz.le
  have hLl := congrArg List.length hL
  rw [List.length_append] at hLl
  simp only
  by_cases hph : p < hi
  · have e1 : IntKind.wrap .i64 ((p : Int) + 1) = ((p + 1 : Nat) : Int) := by rw [show (p : Int) + 1 = ((p + 1 : Nat) : Int) from by omega, w64n (by omega)]
    refine ite_t (dect (by omega)) (Join.intro (fun b H' => b = zs.isEmpty ∧ H4 = H') ?_ ?_)
    rotate_left
    · intro J hJ
      refine ⟨by omega, by omega, ?_⟩
      rw [e1, byt_cast, byt_cast]
      cases zs with
      | nil =>
        obtain ⟨rfl, hz2⟩ := hz
        have hz3 : byt f p = 255 ∧ (hi ≤ p + 1 ∨ byt f (p + 1) ≠ 0) := by
          rcases hz2 with h | h
          · omega
          · exact h.2
        refine ite_t (beqi (by omega)) ?_
        by_cases h1 : hi ≤ p + 1
        · exact ite_t (beqi (by omega)) (hJ _ _ ⟨rfl, rfl⟩)
        · exact ite_f (beqf (by omega)) ⟨by omega, by omega, hJ _ _ ⟨bnet (by omega), rfl⟩⟩
      | cons x r =>
        obtain ⟨hz1, hz2, hz3, hz4⟩ := hz
        by_cases hff : x = 255
        · obtain ⟨h1, h2⟩ := hz3 hff
          exact ite_t (beqi (by omega)) (ite_f (beqf (by omega)) ⟨by omega, by omega, hJ _ _ ⟨bnei (by omega), rfl⟩⟩)
        · exact ite_f (beqf (by omega)) (hJ _ _ ⟨rfl, rfl⟩)
    rintro _ _ ⟨rfl, rfl⟩
    cases zs with
    | nil =>
      obtain ⟨rfl, _⟩ := hz
      refine ite_t rfl (h t H4 ?_ k4 f4)
      rw [hL]
      simpa [remB] using o4
    | cons x r =>
      obtain ⟨hz1, hz2, hz3, hz4⟩ := hz
      have hx8 := byt_lt f p
      have ex : IntKind.wrap .i64 (bt f (p : Int)) = (x : Int) := by rw [byt_cast, hz2, w64n (by omega)]
      have hrr : remB p 7 (x :: r) = (bl 8 x).map (fun c => (c, p)) ++ remB (p + wd x) 7 r := rfl
      have hl8 : ((bl 8 x).map (fun c => (c, p))).length = 8 := by simp [bl_len]
      refine ite_f rfl ⟨by omega, by omega, ?_⟩
      rw [ex]
      refine Fix.intro (fun (y : Sl × Int) H' => ∃ j : Nat, y.2 = ((128 / 2 ^ j : Nat) : Int) ∧ j ≤ 8 ∧ Own H' 109 2 y.1 ((L ++ ((bl 8 x).map (fun c => (c, p))).take j).flatMap cBit) ∧ Keep H H' ∧ ∀ b ∈ fp y.1, H.size ≤ b) (fun y _ => y.2.toNat)
        ⟨0, rfl, by omega, by simpa using o4, k4, f4⟩ ?_
      rintro ⟨t5, _⟩ H5 ⟨j, rfl, hj, o5, k5, f5⟩ rec2 hrec2
      replace o5 : Own H5 109 2 t5 ((L ++ ((bl 8 x).map (fun c => (c, p))).take j).flatMap cBit) := o5
      replace f5 : ∀ b ∈ fp t5, H.size ≤ b := f5
      simp only
      by_cases hj8 : j < 8
      · have hpos : 0 < 128 / 2 ^ j := by
          have : ∀ j : Fin 8, 0 < 128 / 2 ^ j.val := by decide
          exact this ⟨j, hj8⟩
        have hget : ((bl 8 x).map (fun c => (c, p)))[j]? = some (x.testBit (7 - j), p) := by rw [List.getElem?_map, bl_get 8 x j hj8]; rfl
        refine ite_t (dect (by omega)) ⟨by omega, ?_⟩
        rw [bit_of (by omega) hj8]
        refine nw_i fun H6 b6 k6 z6 => ?_
        have hcc : c109 (x.testBit (7 - j)) (p : Int) = [(x.testBit (7 - j), p)].flatMap cBit := by simp [cBit]
        rw [hcc]
        refine apS_list (o5.ch (k6.ch (F := [])) (by simp)) cBit_len cBit_ones rfl (by omega) rfl (by simp [bl_len] at hLl ⊢; omega) (by omega) fun s7 H7 o7 c7 f7 => ?_
        have k7 : Keep H H7 := (((k5.trans k6).ch (F := [])).trans c7 fun b hb => .inr (f5 b hb)).keep (by simp)
        rw [show Int.tdiv ((128 / 2 ^ j : Nat) : Int) 2 = ((128 / 2 ^ j / 2 : Nat) : Int) from rfl, w64n (by have := Nat.div_le_self 128 (2 ^ j); omega)]
        refine hrec2 _ _ ⟨j + 1, ?_, by omega, ?_, k7, fun b hb => ?_⟩ (by
          show ((128 / 2 ^ j / 2 : Nat) : Int).toNat < ((128 / 2 ^ j : Nat) : Int).toNat
          rw [Int.toNat_natCast, Int.toNat_natCast]
          exact Nat.div_lt_self hpos (by omega))
        · rw [Nat.pow_succ, Nat.div_div_eq_div_mul]
        · rw [List.take_add_one, hget, ← List.append_assoc]; exact o7
        · have := k5.size
          have := k6.size
          rcases f7 b hb with h | h
          · exact f5 b h
          · omega
      · obtain rfl : j = 8 := by omega
        rw [List.take_of_length_le (by omega)] at o5
        have hw := wd_pos x
        refine ite_f (decf (by simp)) ?_
        rw [e1, show ((p + 1 : Nat) : Int) + 1 = ((p + 2 : Nat) : Int) from by omega, w64n (by omega)]
        by_cases hff : x = 255
        · refine ite_t (beqi (by omega)) (Lt.of (hrec _ _ ⟨p + wd x, r, _, ?_, by rw [hL, hrr, List.append_assoc], hz4, o5, k5, f5⟩ (by simp; omega)))
          unfold wd; rw [if_pos hff]
        · refine ite_f (beqf (by omega)) (hrec _ _ ⟨p + wd x, r, _, ?_, by rw [hL, hrr, List.append_assoc], hz4, o5, k5, f5⟩ (by simp; omega))
          unfold wd; rw [if_neg hff]
  · refine ite_f (decf (by omega)) ?_
    cases zs with
    | nil =>
      obtain ⟨rfl, _⟩ := hz
      obtain rfl : p = hi := by omega
      refine h t H4 ?_ k4 f4
      rw [hL]
      simpa [remB] using o4
    | cons x r => exact absurd hz.1 hph
theorem rOpen_ok {f : ByteArray} {a b : Int} {H : Hp} {xs : List Nat} {e : Nat} {Q : Option Addr → Hp → Prop} (hf : f.size ≤ 549755813888) (hc : Cut f (hiOf f.size a b) (loOf f.size a) xs e)
    (h : ∀ r s H', Rsc H' r s (remB (loOf f.size a) 7 xs) e 0 → Keep H H' → (∀ b ∈ r :: fp s, H.size ≤ b) → Q (some ⟨r, 0, none⟩) H') : mosaicref01_Open.s f a b H Q := by
  unfold mosaicref01_Open.s
  obtain ⟨h1, h2⟩ := lohi f.size a b
  have hrl := remB_len xs (loOf f.size a)
  have hle := hc.le
  refine Bounds_ok (Stop_ok hf h2 hc fun s H4 o4 k4 f4 => ?_)
  intro b5 H6 c6 g1 g2 hbk
  have k6 : Keep H4 H6 := c6.keep (by simp)
  have hlt := o4.fp_lt
  have := k4.size
  refine h b5 s H6 ⟨hbk, (o4.view cBit_len (by omega)).keep k6, fun b hb => by have := hlt b hb; have := k6.size; omega, fun hb => by have := hlt _ hb; omega, by omega⟩ (k4.trans k6) fun b hb => ?_
  rcases List.mem_cons.1 hb with rfl | hb
  · omega
  · exact f4 b hb
end Go.Proofs.Ytbefacccdaafeaa.G
