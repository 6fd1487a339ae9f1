/- Layer 19: CutsMade: what was joined is cut again. -/
import Derived.Test.YtdcjjoihlnjpnaaZ19d
import Derived.Test.YtdcjjoihlnjpnaaZY
import Derived.Test.YtdcjjoihlnjpnaaKCutsMade
import Derived.Test.YtdcjjoihlnjpnaaGT
namespace Go.Proofs.Ytdcjjoihlnjpnaa.G
open Go.RowKit
set_option linter.unusedVariables false
set_option linter.unusedSimpArgs false
set_option maxRecDepth 20000

/-! ### the joined bytes -/
theorem stuff_ff : ∀ (l : List Nat) (i : Nat), (stuff l)[i]? = some 255 → (stuff l)[i + 1]? = some 0
  | [], i, h => by simp [stuff] at h
  | b :: l, i, h => by
    have e : stuff (b :: l) = (if b = 255 then [255, 0] else [b]) ++ stuff l := by simp [stuff]
    rw [e] at h ⊢
    by_cases hb : b = 255
    · rw [if_pos hb] at h ⊢
      match i, h with
      | 0, _ => rfl
      | 1, h => simp at h
      | i + 2, h => exact stuff_ff l i (by simpa using h)
    · rw [if_neg hb] at h ⊢
      match i, h with
      | 0, h => simp at h; exact absurd h hb
      | i + 1, h => exact stuff_ff l i (by simpa using h)
/-- From a on the bytes S stand, then q bytes FF. -/
structure Seg (f : ByteArray) (a : Nat) (S : List Nat) (q : Nat) : Prop where
  s : ∀ i (x : Nat), S[i]? = some x → bt f ((a + i : Nat) : Int) = (x : Int)
  ff : ∀ i, i < q → bt f ((a + S.length + i : Nat) : Int) = 255
theorem Seg.free {f : ByteArray} {a q : Nat} {l : List Nat} (h : Seg f a (stuff l) q) (he : bt f ((a + (stuff l).length + q : Nat) : Int) = 255 ∨ f.size = a + (stuff l).length + q) : ∀ k, a ≤ k → k < a + (stuff l).length + q → ¬ isMark f k := by
  intro k h1 h2 hm
  by_cases hk : k < a + (stuff l).length
  · obtain ⟨x, hx⟩ : ∃ x, (stuff l)[k - a]? = some x := ⟨_, List.getElem?_eq_getElem (by omega)⟩
    have e := h.s _ _ hx
    rw [show a + (k - a) = k from by omega, hm.2.1] at e
    have : x = 255 := by omega
    subst this
    have e2 := h.s _ _ (stuff_ff l _ hx)
    rw [show a + (k - a + 1) = k + 1 from by omega] at e2
    exact hm.2.2.1 (by omega)
  · by_cases hk2 : k + 1 < a + (stuff l).length + q
    · have := h.ff (k + 1 - (a + (stuff l).length)) (by omega)
      rw [show a + (stuff l).length + (k + 1 - (a + (stuff l).length)) = k + 1 from by omega] at this
      exact hm.2.2.2 this
    · rcases he with he | he
      · rw [show a + (stuff l).length + q = k + 1 from by omega] at he
        exact hm.2.2.2 he
      · have := hm.1
        omega
theorem bkw_eq {f : ByteArray} {a b : Nat} (hab : a ≤ b) (hs : a < b → bt f ((b - 1 : Nat) : Int) ≠ 255) : ∀ t, b ≤ t → (∀ k, b ≤ k → k < t → bt f (k : Int) = 255) → bkw f a t = b
  | 0, h, _ => by
    obtain rfl : b = 0 := by omega
    rfl
  | t + 1, h, hk => by
    rw [bkw]
    by_cases e : b = t + 1
    · subst e
      rw [if_neg]
      rintro ⟨h1, h2⟩
      exact hs h1 (by simpa using h2)
    · rw [if_pos ⟨by omega, hk t (by omega) (by omega)⟩]
      exact bkw_eq hab hs t (by omega) fun k h1 h2 => hk k h1 (by omega)
theorem Seg.back {f : ByteArray} {a q : Nat} {l : List Nat} (h : Seg f a (stuff l) q) : bkw f a (a + (stuff l).length + q) = a + (stuff l).length := by
  refine bkw_eq (by omega) (fun hlt e => ?_) _ (by omega) fun k h1 h2 => ?_
  · obtain ⟨x, hx⟩ : ∃ x, (stuff l)[(stuff l).length - 1]? = some x := ⟨_, List.getElem?_eq_getElem (by omega)⟩
    have e1 := h.s _ _ hx
    rw [show a + ((stuff l).length - 1) = a + (stuff l).length - 1 from by omega, e] at e1
    have : x = 255 := by omega
    subst this
    have := (List.getElem?_eq_some_iff.1 (stuff_ff l _ hx)).1
    omega
  · have := h.ff (k - (a + (stuff l).length)) (by omega)
    rwa [show a + (stuff l).length + (k - (a + (stuff l).length)) = k from by omega] at this
/-- Where the bytes of a part stand in the whole. -/
theorem mid_get {A B C : List Nat} {i x : Nat} (h : B[i]? = some x) : (A ++ B ++ C)[A.length + i]? = some x := by
  have hi := (List.getElem?_eq_some_iff.1 h).1
  rw [List.append_assoc, List.getElem?_append_right (by omega), show A.length + i - A.length = i from by omega, List.getElem?_append_left hi]
  exact h
theorem seg_of {f : ByteArray} {A S Z : List Nat} {q : Nat} (h : byL f = A ++ (S ++ List.replicate q 255) ++ Z) : Seg f A.length S q := by
  constructor
  · intro i x hx
    refine bt_byL ?_
    rw [h]
    exact mid_get (by rw [List.getElem?_append_left (List.getElem?_eq_some_iff.1 hx).1]; exact hx)
  · intro i hi
    have : (byL f)[A.length + (S.length + i)]? = some 255 := by
      rw [h]
      refine mid_get ?_
      rw [List.getElem?_append_right (by omega), show S.length + i - S.length = i from by omega, List.getElem?_replicate, if_pos hi]
    have := bt_byL this
    rw [Nat.add_assoc]
    exact this
/-- A piece with a restart marker behind it. -/
theorem pcs_step {f : ByteArray} {A Z l : List Nat} {q m : Nat} {r : List Pc} (hm : m < 8) (h : byL f = A ++ (stuff l ++ List.replicate q 255) ++ (255 :: (208 + m) :: Z)) (hr : Pcs f (A.length + (stuff l).length + q + 2) r) :
    Pcs f A.length (((A.length : Int), ((A.length + (stuff l).length : Nat) : Int), (m : Int), ((A.length + (stuff l).length + q + 2 : Nat) : Int)) :: r) := by
  have sg := seg_of h
  have g0 : (byL f)[A.length + (stuff l).length + q]? = some 255 := by
    rw [h, List.getElem?_append_right (by simp; omega)]
    simp only [List.length_append, List.length_replicate]
    rw [show A.length + (stuff l).length + q - (A.length + ((stuff l).length + q)) = 0 from by omega]
    rfl
  have g1 : (byL f)[A.length + (stuff l).length + q + 1]? = some (208 + m) := by
    rw [h, List.getElem?_append_right (by simp; omega)]
    simp only [List.length_append, List.length_replicate]
    rw [show A.length + (stuff l).length + q + 1 - (A.length + ((stuff l).length + q)) = 1 from by omega]
    rfl
  have b0 := bt_byL g0
  have b1 := bt_byL g1
  have hsz := (List.getElem?_eq_some_iff.1 g1).1
  rw [byL_len] at hsz
  refine .inl ⟨A.length + (stuff l).length + q, by omega, ⟨hsz, b0, by rw [b1]; omega, by rw [b1]; omega⟩, sg.free (.inl b0), .inl ⟨by rw [b1]; omega, by rw [b1]; omega, ?_, hr⟩⟩
  rw [sg.back, b1]
  have : ((208 + m : Nat) : Int) - 208 = (m : Int) := by omega
  rw [this]
/-- The last piece: another marker stands behind it. -/
theorem pcs_last {f : ByteArray} {A Z l : List Nat} {q e : Nat} (he : e ≠ 0 ∧ e ≠ 255 ∧ ¬ (208 ≤ e ∧ e ≤ 215)) (h : byL f = A ++ (stuff l ++ List.replicate q 255) ++ (255 :: e :: Z)) :
    Pcs f A.length [((A.length : Int), ((A.length + (stuff l).length : Nat) : Int), -1, ((A.length + (stuff l).length + q : Nat) : Int))] := by
  have sg := seg_of h
  have g0 : (byL f)[A.length + (stuff l).length + q]? = some 255 := by
    rw [h, List.getElem?_append_right (by simp; omega)]
    simp only [List.length_append, List.length_replicate]
    rw [show A.length + (stuff l).length + q - (A.length + ((stuff l).length + q)) = 0 from by omega]
    rfl
  have g1 : (byL f)[A.length + (stuff l).length + q + 1]? = some e := by
    rw [h, List.getElem?_append_right (by simp; omega)]
    simp only [List.length_append, List.length_replicate]
    rw [show A.length + (stuff l).length + q + 1 - (A.length + ((stuff l).length + q)) = 1 from by omega]
    rfl
  have b0 := bt_byL g0
  have b1 := bt_byL g1
  have hsz := (List.getElem?_eq_some_iff.1 g1).1
  rw [byL_len] at hsz
  refine .inl ⟨A.length + (stuff l).length + q, by omega, ⟨hsz, b0, by rw [b1]; omega, by rw [b1]; omega⟩, sg.free (.inl b0), .inr ⟨by rw [b1]; omega, ?_, rfl⟩⟩
  rw [sg.back]
/-- The last piece: the file ends. -/
theorem pcs_end {f : ByteArray} {A l : List Nat} {q : Nat} (h : byL f = A ++ (stuff l ++ List.replicate q 255)) :
    Pcs f A.length [((A.length : Int), ((A.length + (stuff l).length : Nat) : Int), -2, ((A.length + (stuff l).length + q : Nat) : Int))] := by
  have sg := seg_of (Z := []) (by rw [h, List.append_nil])
  have hsz : f.size = A.length + (stuff l).length + q := by rw [← byL_len, h]; simp; omega
  refine .inr ⟨fun k h1 hm => sg.free (.inr hsz) k h1 (by have := hm.1; omega) hm, ?_, rfl⟩
  rw [hsz, sg.back]

/-! ### what is joined -/
theorem stuffed_ok {s : ByteArray} {H : Hp} {Q : ByteArray → Hp → Prop} (hs : s.size ≤ 1048576) (h : ∀ H', Keep H H' → Q (bytesOf (stuff (byL s))) H') : mosaiclaw19_stuffed.s s H Q := by
  unfold mosaiclaw19_stuffed.s
  have hl := byL_len s
  refine Fix.intro (fun (x : Sl × Int) H' => ∃ i : Nat, x.2 = (i : Int) ∧ i ≤ s.size ∧ Own H' 5 1 x.1 ((stuff ((byL s).take i)).flatMap cB) ∧ Keep H H' ∧ ∀ b ∈ fp x.1, H.size ≤ b) (fun x _ => s.size - x.2.toNat) ⟨0, rfl, by omega, Own.nil _ _ _, Keep.refl _, by simp [fp]⟩ ?_
  rintro ⟨t, _⟩ H4 ⟨i, rfl, hi, o4, k4, f4⟩ rec hrec
  replace o4 : Own H4 5 1 t ((stuff ((byL s).take i)).flatMap cB) := o4
  replace f4 : ∀ b ∈ fp t, H.size ≤ b := f4
  simp only
  have y4 := k4.size
  have hst := stuff_len ((byL s).take i)
  simp only [List.length_take] at hst
  by_cases hil : i < s.size
  · obtain ⟨x, hx⟩ : ∃ x, (byL s)[i]? = some x := ⟨_, List.getElem?_eq_getElem (by omega)⟩
    have hxb := bt_byL hx
    have hx256 := byL_byte s x (List.mem_of_getElem? hx)
    have etk := take_snoc' hx
    refine ite_t (dect (by omega)) (Join.intro (fun (l : Sl) H' => Own H' 5 1 l ((stuff ((byL s).take (i + 1))).flatMap cB) ∧ Keep H H' ∧ ∀ b ∈ fp l, H.size ≤ b) ?_ fun J hJ => ⟨by omega, by omega, ?_⟩)
    · rintro l H9 ⟨q1, q2, q3⟩
      rw [show (i : Int) + 1 = ((i + 1 : Nat) : Int) from by omega, w64n (by omega)]
      exact hrec _ _ ⟨i + 1, rfl, by omega, q1, q2, q3⟩ (by simp; omega)
    · rw [hxb]
      refine push1 (f := cB) (x := x) o4 cB_len cB_ones rfl (by omega) (by omega) (by omega) fun l1 H18 o18 c18 f18 => ⟨by omega, by omega, ?_⟩
      have k18 : Keep H H18 := (k4.ch (F := [])).trans c18 (fun b hb => .inr (f4 b hb)) |>.keep (by simp)
      have g18 : ∀ b ∈ fp l1, H.size ≤ b := fun b hb => by
        rcases f18 b hb with h | h
        · exact f4 b h
        · omega
      by_cases h255 : x = 255
      · refine ite_t (beqi (by omega)) (push1 (f := cB) (x := 0) o18 cB_len cB_ones rfl (by omega) (by omega) (by simp; omega) fun l2 H27 o27 c27 f27 => hJ _ _ ⟨?_, (k18.ch (F := [])).trans c27 (fun b hb => .inr (g18 b hb)) |>.keep (by simp), fun b hb => ?_⟩)
        · rw [etk, stuff_snoc, if_pos h255]
          rw [h255] at o27
          simpa using o27
        · have := k18.size
          rcases f27 b hb with h | h
          · exact g18 b h
          · omega
      · refine ite_f (beqf (by omega)) (hJ _ _ ⟨?_, k18, g18⟩)
        rw [etk, stuff_snoc, if_neg h255]
        exact o18
  · rw [List.take_of_length_le (by omega)] at o4
    have hsb := stuff_byte (byL_byte s)
    have v4 := o4.view cB_len (by omega)
    have hc := v4.cells cB_len cB_ones
    have := hc.1
    refine ite_f (decf (by omega)) ⟨bytesOf (stuff (byL s)), by rw [bytesOf_size]; exact v4.n, ?_, h _ k4⟩
    rw [bytesOf_cells hsb]
    exact hc.2
/-- How many bytes FF. -/
theorem fill_ok (x : Int) : ∃ q : Nat, q ≤ 5 ∧ ∀ {G : Hp} {Q : ByteArray → Hp → Prop}, Q (bytesOf (List.replicate q 255)) G → mosaiclaw19_fill.s x G Q := by
  have hb : -6 < Int.tmod x 6 ∧ Int.tmod x 6 < 6 := by
    constructor
    · rcases Int.lt_or_le x 0 with hn | hn
      · have e : Int.tmod x 6 = - Int.tmod (-x) 6 := by rw [Int.neg_tmod]; omega
        have := Int.tmod_lt_of_pos (-x) (show (0 : Int) < 6 by omega)
        omega
      · have := Int.tmod_nonneg 6 hn
        omega
    · exact Int.tmod_lt_of_pos _ (by omega)
  unfold mosaiclaw19_fill.s
  generalize Int.tmod x 6 = t at hb ⊢
  refine ⟨t.natAbs, by omega, fun {G Q} hQ => ?_⟩
  refine Join.intro (fun y H' => y = (t.natAbs : Int) ∧ G = H') ?_ fun J hJ => ?_
  rotate_left
  · by_cases h0 : t < 0
    · exact ite_t (dect h0) (hJ _ _ ⟨by rw [w64 (by omega)]; omega, rfl⟩)
    · exact ite_f (decf h0) (hJ _ _ ⟨by omega, rfl⟩)
  rintro _ _ ⟨rfl, rfl⟩
  refine Fix.intro (fun (y : ByteArray × Int) H' => ∃ i : Nat, y = (bytesOf (List.replicate i 255), (i : Int)) ∧ i ≤ t.natAbs ∧ G = H') (fun y _ => t.natAbs - y.2.toNat) ⟨0, rfl, by omega, rfl⟩ ?_
  rintro _ _ ⟨i, rfl, hi, rfl⟩ rec hrec
  simp only
  by_cases hil : i < t.natAbs
  · have e1 : (⟨#[255]⟩ : ByteArray) = bytesOf [255] := rfl
    refine ite_t (dect (by omega)) ⟨by rw [e1, bytesOf_size, bytesOf_size]; simp; omega, ?_⟩
    rw [e1, bytesOf_app, ← List.replicate_succ', show (i : Int) + 1 = ((i + 1 : Nat) : Int) from by omega, w64n (by omega)]
    exact hrec _ _ ⟨i + 1, rfl, by omega, rfl⟩ (by simp; omega)
  · obtain rfl : i = t.natAbs := by omega
    exact ite_f (decf (by omega)) hQ
end Go.Proofs.Ytdcjjoihlnjpnaa.G
