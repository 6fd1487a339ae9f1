/- Of this text what the row needs. -/
import Derived.Test.YtkplpbnifinlbaaDoorQMarkerBetweenZ02x
import Derived.Test.YtkplpbnifinlbaaDoorQMarkerBetweenKMarkerBetween
import Derived.Test.YtkplpbnifinlbaaDoorQMarkerBetweenGI
namespace Go.Proofs.YtkplpbnifinlbaaDoor.G
open Go.RowKit
set_option linter.unusedVariables false
set_option linter.unusedSimpArgs false
abbrev Mk := Int × Int × Int
def Chn (f : ByteArray) : Nat → List Mk → Prop
  | i, [] => ∀ k, i ≤ k → ¬ isMark f k
  | i, m :: l => ∃ j : Nat, i ≤ j ∧ isMark f j ∧ (∀ k, i ≤ k → k < j → ¬ isMark f k) ∧ m = ((j : Int), ((j + 2 : Nat) : Int), bt f ((j + 1 : Nat) : Int)) ∧ Chn f (j + 2) l
theorem All_seq {f : ByteArray} {p : Nat} {H : Hp} {xs : List Mk} (hs : f.size < 140737488355328) (hp : Bk H p 9 [.string f]) (hc : Chn f 0 xs) : SeqOk (fun Y H Q => marker_All_1.s Y ⟨p, 0, none⟩ H Q) H [p] xs := by
  intro Y Q F I Z hF h0 hk hY hQ hZ
  unfold marker_All_1.s
  refine Fix.intro (fun (x : Int) H' => ∃ i n : Nat, x = (i : Int) ∧ i ≤ f.size ∧ n ≤ xs.length ∧ Chn f i (xs.drop n) ∧ I n H' ∧ Ch F H H') (fun (x : Int) _ => f.size - x.toNat) ⟨0, 0, rfl, by omega, by omega, hc, h0, Ch.refl _ _⟩ ?_
  rintro _ H1 ⟨i, n, rfl, hi, hn, hch, hI, c1⟩ rec hrec
  have hp1 := hp.ch c1 fun h => (hF p h).2 (by simp)
  refine ldS_i hp1 rfl (Next_ok hs (by omega) fun r H2 hr k2 => ?_)
  intro b11 H13 c13 g g'
  have k4 : Keep H1 H13 := k2.trans (c13.keep (by simp))
  have c4 : Ch F H H13 := c1.trans (k4.ch (F := [])) (by simp)
  rw [Int.toNat_natCast] at hr
  have hI4 := hk _ _ _ hI k4
  have hsz : H.size ≤ H2.size := Nat.le_trans c1.size k2.size
  have hb : b11 ∉ F := fun h => by have := (hF _ h).1; omega
  refine Join.intro (fun b H' => if b = true then (I xs.length H' ∨ Z H') ∧ Ch F H H' else ∃ j : Nat, r = ((j : Int), ((j + 2 : Nat) : Int), bt f ((j + 1 : Nat) : Int), true) ∧ i ≤ j ∧ j + 1 < f.size ∧ n < xs.length ∧ Chn f (j + 2) (xs.drop (n + 1)) ∧ I (n + 1) H' ∧ Ch F H13 H') ?_ ?_
  · intro b H' hb
    cases b with
    | true =>
      simp only [if_true] at hb
      refine ite_t rfl ?_
      rcases hb with ⟨hb | hb, c⟩
      · exact hQ _ hb c
      · exact hZ _ hb c
    | false =>
      simp only [Bool.false_eq_true, if_false] at hb
      obtain ⟨j, rfl, h1, h2, h3, h4, h5, c5⟩ := hb
      exact ite_f rfl (hrec _ _ ⟨j + 2, n + 1, rfl, by omega, by omega, h4, h5, c4.same c5⟩ (by simp only [Int.toNat_natCast]; omega))
  · intro J hJ
    cases hd : xs.drop n with
    | nil =>
      rw [hd] at hch
      obtain rfl := hr.uniq (q := (0, 0, 0, false)) (.inr ⟨hch, rfl⟩)
      have : xs.length ≤ n := List.drop_eq_nil_iff.1 hd
      obtain rfl : n = xs.length := by omega
      exact ite_t rfl (hJ _ _ (by simp; exact ⟨.inl hI4, c4⟩))
    | cons m l =>
      rw [hd] at hch
      obtain ⟨j, h1, h2, h3, rfl, h5⟩ := hch
      obtain rfl := hr.uniq (q := ((j : Int), ((j + 2 : Nat) : Int), bt f ((j + 1 : Nat) : Int), true)) (.inl ⟨j, h1, h2, h3, rfl⟩)
      have hlt : n < xs.length := by
        rcases Nat.lt_or_ge n xs.length with h | h
        · exact h
        · rw [List.drop_eq_nil_of_le h] at hd; cases hd
      rw [List.drop_eq_getElem_cons hlt] at hd
      have hx : xs[n]? = some ((j : Int), ((j + 2 : Nat) : Int), bt f ((j + 1 : Nat) : Int)) := by rw [List.getElem?_eq_getElem hlt]; exact congrArg some (List.cons.inj hd).1
      have hl : xs.drop (n + 1) = l := (List.cons.inj hd).2
      rw [← hl] at h5
      refine ite_f rfl (hY n _ H13 _ hx hI4 c4 ?_ ?_)
      · exact fun H5 q5 c5 => ⟨Pv.ch c5 (by simp; exact ⟨g', hb⟩), hJ _ _ (by simp; exact ⟨j, ⟨rfl, rfl⟩, h1, h2.1, hlt, h5, q5, c5⟩)⟩
      · exact fun H5 q5 c5 => ⟨Pv.ch c5 (by simp; exact ⟨g', hb⟩), hJ _ _ (by simp; exact ⟨.inr q5, c4.same c5⟩)⟩
theorem stL_app (a b : List UInt8) : stL (a ++ b) = stL a ++ stL b := by simp [stL]
theorem stL_at {l : List UInt8} {i : Nat} (h : i < l.length) : (stL l)[(stL (l.take i)).length]? = some l[i] := by
  have e : stL l = stL (l.take i) ++ stL (l.drop i) := by rw [← stL_app, List.take_append_drop]
  rw [e, List.getElem?_append_right (Nat.le_refl _), Nat.sub_self, List.drop_eq_getElem_cons h, stL_cons]
  by_cases q : l[i] = 255
  · rw [if_pos q, q]; rfl
  · rw [if_neg q]; rfl
theorem unst_ok {l : List UInt8} {H : Hp} {Q : ByteArray → Hp → Prop} (hl : l.length ≤ 1048576) (h : Q (bL l) H) : mosaiclaw02_unstuffed.s (bL (stL l)) H Q := by
  unfold mosaiclaw02_unstuffed.s
  have hz := bL_size (stL l)
  have hle := stL_le l
  refine Fix.intro (fun (x : ByteArray × Int) H' => ∃ i : Nat, x = (bL (l.take i), (((stL (l.take i)).length : Nat) : Int)) ∧ i ≤ l.length ∧ H = H') (fun x _ => (stL l).length - x.2.toNat) ⟨0, rfl, by omega, rfl⟩ ?_
  rintro _ _ ⟨i, rfl, hi, rfl⟩ rec hrec
  dsimp only
  by_cases hil : i < l.length
  · have hat := stL_at hil
    have hlt := (List.getElem?_eq_some_iff.1 hat).1
    have hge : (By (bL (stL l)))[(stL (l.take i)).length]? = some l[i] := by rw [By_bL]; exact hat
    have hstp : (stL (l.take (i + 1))).length = (stL (l.take i)).length + if l[i] = 255 then 2 else 1 := by
      rw [stL_take hil, List.length_append]
      by_cases q : l[i] = 255
      · rw [if_pos q, if_pos q]; rfl
      · rw [if_neg q, if_neg q]; rfl
    have hlt2 : (stL (l.take (i + 1))).length ≤ (stL l).length := by
      have e : stL l = stL (l.take (i + 1)) ++ stL (l.drop (i + 1)) := by rw [← stL_app, List.take_append_drop]
      rw [e, List.length_append]; omega
    have htk : l.take (i + 1) = l.take i ++ [l[i]] := List.take_succ_eq_append_getElem hil
    have hlen := List.length_take_le i l
    generalize hp : (stL (l.take i)).length = p at *
    have e1 : IntKind.wrap .i64 ((p : Int) + 1) = ((p + 1 : Nat) : Int) := by rw [w64 (by omega)]; omega
    have hpl : p < (By (bL (stL l))).length := by rw [By_bL]; exact hlt
    have hx : (bL (stL l)).extract p (p + 1) = bL [l[i]] := by
      rw [ext_one hpl]
      rw [List.getElem?_eq_getElem hpl] at hge
      rw [Option.some.inj hge]
    have hb := bt_255 (s := bL (stL l)) (k := p) (by omega)
    rw [hge] at hb
    rw [e1, Int.toNat_natCast, Int.toNat_natCast, hx, bL_app, ← htk]
    refine ite_t (dect (by omega)) (Join.intro (fun (x : ByteArray × Int) H' => x.1 = bL (l.take (i + 1)) ∧ x.2 + 1 = (((stL (l.take (i + 1))).length : Nat) : Int) ∧ 0 ≤ x.2 ∧ H = H') ?_ fun J hJ => ⟨by omega, by omega, by omega, ?_, Lt.of ⟨by omega, by omega, ?_⟩⟩)
    · rintro ⟨x1, x2⟩ _ ⟨q1, q2, q3, rfl⟩
      dsimp only at q1 q2 q3 ⊢
      rw [w64 (by omega)]
      refine hrec _ _ ⟨i + 1, by rw [q1, q2], by omega, rfl⟩ ?_
      dsimp only
      split at hstp <;> omega
    · rw [bL_size, bL_size]; simp only [List.length_cons, List.length_nil]; omega
    · by_cases q : l[i] = 255
      · rw [if_pos q] at hstp
        exact ite_t (beqi (hb.2 (by rw [q]))) (hJ _ _ ⟨rfl, by dsimp only; omega, by dsimp only; omega, rfl⟩)
      · rw [if_neg q] at hstp
        exact ite_f (beqf fun e => q (by simpa using hb.1 e)) (hJ _ _ ⟨rfl, by dsimp only; omega, by dsimp only; omega, rfl⟩)
  · obtain rfl : i = l.length := by omega
    rw [List.take_length]
    exact ite_f (decf (by omega)) h
theorem code_ok {a : Int} {H : Hp} {Q : Int → Hp → Prop} (h : ∀ c : Nat, 1 ≤ c → c ≤ 254 → Q (c : Int) H) : mosaiclaw02_code.s a H Q := by
  unfold mosaiclaw02_code.s
  have h1 : Int.tmod a 254 < 254 := Int.tmod_lt_of_pos _ (by omega)
  have h2 : -254 < Int.tmod a 254 := Int.lt_tmod_of_pos _ (by omega)
  generalize Int.tmod a 254 = t at *
  refine Join.intro (fun (x : Int) H' => 0 ≤ x ∧ x ≤ 253 ∧ H = H') ?_ fun J hJ => ?_
  · rintro x _ ⟨q1, q2, rfl⟩
    refine Lt.of ?_
    rw [w64 (by omega), wu8 (by omega)]
    have := h (x.toNat + 1) (by omega) (by omega)
    rw [show ((x.toNat + 1 : Nat) : Int) = x + 1 from by omega] at this
    exact this
  · by_cases q : t < 0
    · exact ite_t (dect q) (hJ _ _ ⟨by rw [w64 (by omega)]; omega, by rw [w64 (by omega)]; omega, rfl⟩)
    · exact ite_f (decf q) (hJ _ _ ⟨by omega, by omega, rfl⟩)
def u8 (c : Nat) : UInt8 := UInt8.ofNat c
theorem u8_nat {c : Nat} (h : c < 256) : (u8 c).toNat = c := by
  simp [u8]; omega
theorem two_by {H : Hp} {b c : Nat} (h : Bk H b 5 [.int .u8 255, .int .u8 (c : Int)]) (hc : c < 256) : 2 = (bL [255, u8 c]).size ∧ rdS H (some ⟨b, 0, none⟩) (byteCells (bL [255, u8 c])) := by
  have e : byteCells (bL [255, u8 c]) = [.int .u8 255, .int .u8 (c : Int)] := by
    unfold byteCells bL
    simp [u8_nat hc]
  rw [e]
  refine ⟨by rw [bL_size]; rfl, fun u hu => ?_, fun j v hv => ⟨_, rfl, by rw [add_mk, h.cell, Nat.zero_add]; exact hv⟩⟩
  simp only [List.mem_cons, List.mem_nil_iff, or_false] at hu
  rcases hu with rfl | rfl <;> rfl
theorem file_chn {s : ByteArray} {n c d : Nat} (fs : Fr s) (hc : 1 ≤ c ∧ c ≤ 254) (hd : 1 ≤ d ∧ d ≤ 254) {f : ByteArray} (hf : f = ((bL [255, u8 c] ++ s) ++ bL (List.replicate n 255)) ++ bL [255, u8 d]) :
    f.size = s.size + n + 4 ∧ Chn f 0 [(0, 2, (c : Int)), (((f.size - 2 : Nat) : Int), (f.size : Int), (d : Int))] := by
  have za : (bL [255, u8 c]).size = 2 := by rw [bL_size]; rfl
  have zr : (bL (List.replicate n 255 ++ [255, u8 d])).size = n + 2 := by rw [bL_size]; simp
  have hf2 : f = bL [255, u8 c] ++ (s ++ bL (List.replicate n 255 ++ [255, u8 d])) := by
    rw [hf, ← bL_By s]
    simp only [bL_app, List.append_assoc]
  have hz : f.size = s.size + n + 4 := by rw [hf2, ByteArray.size_append, ByteArray.size_append, za, zr]; omega
  have hR : ∀ k, k ≤ n → bt (bL (List.replicate n 255 ++ [255, u8 d])) (k : Int) = 255 := by
    intro k hk
    refine (bt_255 (by omega)).2 ?_
    rw [By_bL]
    rcases Nat.lt_or_ge k n with h | h
    · rw [List.getElem?_append_left (by simpa using h), List.getElem?_replicate, if_pos h]
    · obtain rfl : k = n := by omega
      rw [List.getElem?_append_right (by simp)]; simp
  have hE : bt (bL (List.replicate n 255 ++ [255, u8 d])) ((n + 1 : Nat) : Int) = (d : Int) := by
    have := (bt_iff (s := bL (List.replicate n 255 ++ [255, u8 d])) (k := n + 1) (by omega) (u8 d)).2 (by rw [By_bL, List.getElem?_append_right (by simp)]; simp)
    rw [this, u8_nat (by omega)]
  have hA0 : bt f ((0 : Nat) : Int) = 255 := by
    rw [hf2, bt_l (by omega)]
    exact (bt_255 (by omega)).2 (by rw [By_bL]; rfl)
  have hA1 : bt f ((1 : Nat) : Int) = (c : Int) := by
    rw [hf2, bt_l (by omega)]
    have := (bt_iff (s := bL [255, u8 c]) (k := 1) (by omega) (u8 c)).2 (by rw [By_bL]; rfl)
    rw [this, u8_nat (by omega)]
  have hmid : ∀ k, k < s.size + n → ¬ isMark f (2 + k) := by
    intro k hk
    rw [hf2, ← za, mark_r]
    rcases Nat.lt_or_ge k s.size with h | h
    · exact fs.no h
    · obtain ⟨j, rfl⟩ : ∃ j, k = s.size + j := ⟨k - s.size, by omega⟩
      rw [mark_r]
      exact fun q => q.2.2.2 (hR (j + 1) (by omega))
  have hlast : isMark f (2 + (s.size + n)) := by
    rw [hf2, ← za, mark_r, mark_r]
    refine ⟨by omega, hR n (Nat.le_refl _), ?_, ?_⟩ <;> rw [hE] <;> omega
  have hbt : bt f ((2 + (s.size + n) + 1 : Nat) : Int) = (d : Int) := by
    rw [hf2, ← za, show (bL [255, u8 c]).size + (s.size + n) + 1 = (bL [255, u8 c]).size + (s.size + (n + 1)) from by omega, bt_r (by rw [ByteArray.size_append]; omega), bt_r (by omega), hE]
  refine ⟨hz, 0, Nat.le_refl _, ⟨by omega, hA0, ?_, ?_⟩, fun k h1 h2 => by omega, by rw [show ((0 + 1 : Nat) : Int) = ((1 : Nat) : Int) from rfl, hA1]; rfl, 2 + (s.size + n), by omega, hlast, fun k h1 h2 => ?_, ?_, fun k h1 h2 => ?_⟩
  · rw [show ((0 + 1 : Nat) : Int) = ((1 : Nat) : Int) from rfl, hA1]; omega
  · rw [show ((0 + 1 : Nat) : Int) = ((1 : Nat) : Int) from rfl, hA1]; omega
  · obtain ⟨j, rfl⟩ : ∃ j, k = 2 + j := ⟨k - 2, by omega⟩
    exact hmid j (by omega)
  · rw [hbt, hz]
    refine Prod.ext ?_ (Prod.ext ?_ rfl)
    · dsimp only; omega
    · dsimp only; omega
  · have := h2.1; omega
structure MB (W : Hp) (p1 p46 p49 p52 D : Nat) (x y : Mk) (r : Loop) (n : Int) (H : Hp) : Prop where
  k : Keep W H
  b1 : Bk H p1 4 [.bool false]
  b46 : Bk H p46 32 (c32 x.1 x.2.1 x.2.2)
  b49 : Bk H p49 32 (c32 y.1 y.2.1 y.2.2)
  b52 : Bk H p52 3 [.int .i64 n]
  d : H[D]? = some (.deferred (some []))
  lp : Lp H (D + 1) r
  ord : W.size ≤ p1 ∧ p1 < p46 ∧ p46 < p49 ∧ p49 < p52 ∧ p52 < D
section
variable {W : Hp} {p1 p46 p49 p52 D : Nat} {x y : Mk} {r q : Loop} {n m : Int} {H H' : Hp}
theorem MB.keep (h : MB W p1 p46 p49 p52 D x y r n H) (k : Keep H H') : MB W p1 p46 p49 p52 D x y r n H' :=
  ⟨h.k.trans k, h.b1.keep k, h.b46.keep k, h.b49.keep k, h.b52.keep k, at_ch h.d (k.ch (F := [])) (by simp), h.lp.ch (k.ch (F := [])) (by simp), h.ord⟩
theorem MB.lps (h : MB W p1 p46 p49 p52 D x y r n H) (s : Same H H' (D + 1)) (l : Lp H' (D + 1) q) : MB W p1 p46 p49 p52 D x y q n H' := by
  have := h.ord
  exact ⟨h.k.same s (by omega), h.b1.same s (by omega), h.b46.same s (by omega), h.b49.same s (by omega), h.b52.same s (by omega), (s.block D (by omega)).trans h.d, l, h.ord⟩
theorem MB.set (h : MB W p1 p46 p49 p52 D x y r n H) (b : Bk H' p52 3 [.int .i64 m]) (s : Same H H' p52) : MB W p1 p46 p49 p52 D x y r m H' := by
  have := h.ord
  exact ⟨h.k.same s (by omega), h.b1.same s (by omega), h.b46.same s (by omega), h.b49.same s (by omega), b, (s.block D (by omega)).trans h.d, h.lp.ch s.ch (by simp; omega), h.ord⟩
end
set_option maxHeartbeats 1000000 in
theorem MarkerBetween_row (s : ByteArray) (a b e : Int) (W : World) (hs : s.size ≤ 1048576) (ha : -9223372036854775808 ≤ a ∧ a ≤ 9223372036854775807) (hb : -9223372036854775808 ≤ b ∧ b ≤ 9223372036854775807) (he : -9223372036854775808 ≤ e ∧ e ≤ 9223372036854775807)
    (hm : Mx W.heap) : mosaiclaw02_MarkerBetween.s s a b e W.heap (fun r H' => r = true ∧ Keep W.heap H') := by
  unfold mosaiclaw02_MarkerBetween.s
  intro b1 H2 c2 g1 g1'
  have k2 : Keep W.heap H2 := c2.keep (by simp)
  refine alive_ok (hm.keep k2) fun H4 k4 => ⟨Pv.keep k4 (by simp; omega), Stuff_ok ((hm.keep k2).keep k4) hs fun H7 k7 => ?_⟩
  have y4 := k4.size
  have y7 := k7.size
  have k27 := (k2.trans k4).trans k7
  have m7 := hm.keep k27
  have zst := bL_size (stL (By s))
  have zl := stL_len (By s)
  have zc := List.count_le_length (a := (255 : UInt8)) (l := By s)
  have zs := size_By s
  refine ⟨Pv.keep k7 (by simp; omega), Join.intro (fun (x : Bool) H' => x = false ∧ H7 = H') ?_ fun J hJ => ite_f rfl ?_⟩
  rotate_left
  · refine Free_ok m7 (by omega) ⟨fun b hb => rfl, ?_⟩
    rw [By_bL, stL_free]
    refine ite_f rfl (ffs_ok (by omega) ⟨fun b hb => rfl, ite_f (bnei ?_) (unst_ok (by omega) ⟨fun b hb => rfl, hJ _ _ ⟨?_, rfl⟩⟩)⟩)
    · rw [w64 (by omega)]; omega
    · rw [bL_By]; simp
  rintro _ _ ⟨rfl, rfl⟩
  refine ite_f rfl (code_ok fun c hc1 hc2 => ⟨fun b hb => rfl, code_ok fun d hd1 hd2 => ⟨fun b hb => rfl, ?_⟩⟩)
  have ht : Int.tmod e 8 < 8 := Int.tmod_lt_of_pos _ (by omega)
  generalize Int.tmod e 8 = t at *
  refine Fix.intro (fun (x : ByteArray × Int) H' => ∃ n : Nat, x = (bL (List.replicate n 255), (n : Int)) ∧ n ≤ 8 ∧ H7 = H') (fun x _ => 8 - x.2.toNat) ⟨0, rfl, by omega, rfl⟩ ?_
  rintro _ _ ⟨n, rfl, hn, rfl⟩ rec hrec
  dsimp only
  have zr : (bL (List.replicate n 255)).size = n := by rw [bL_size]; simp
  by_cases hnt : (n : Int) < t
  · refine ite_t (dect hnt) ⟨by rw [zr, show (⟨#[255]⟩ : ByteArray).size = 1 from rfl]; omega, ?_⟩
    rw [show (⟨#[255]⟩ : ByteArray) = bL [255] from rfl, bL_app, ← List.replicate_succ', w64 (by omega)]
    exact hrec _ _ ⟨n + 1, rfl, by omega, rfl⟩ (by dsimp only; omega)
  have za : ∀ {c : Nat}, (bL [255, u8 c]).size = 2 := fun {c} => by rw [bL_size]; rfl
  refine ite_f (decf hnt) (nw_i fun H28 b28 k28 s28 => ⟨Pv.keep k28 (by simp; omega), bL [255, u8 c], (two_by b28 (by omega)).1, (two_by b28 (by omega)).2, by rw [za]; omega, by rw [ByteArray.size_append, za, zr]; omega, nw_i fun H38 b38 k38 s38 =>
    ⟨Pv.keep k38 (by simp; omega), bL [255, u8 d], (two_by b38 (by omega)).1, (two_by b38 (by omega)).2, by rw [ByteArray.size_append, ByteArray.size_append, za, za, zr]; omega, ?_⟩⟩)
  intro b46 H48 c48 g46 g46' b49 H51 c51 g49 g49' b52 H54 c54 g52 g52'
  unfold marker_All.s
  intro bA H56 c56 gA gA' bkA
  obtain ⟨fz, fc⟩ := file_chn (s := bL (stL (By s))) (n := n) (c := c) (d := d) (Fr_iff.1 (by rw [By_bL]; exact stL_free _)) ⟨hc1, hc2⟩ ⟨hd1, hd2⟩ rfl
  have y28 := k28.size
  have y38 := k38.size
  have y48 := c48.size
  have y51 := c51.size
  have y54 := c54.size
  have y56 := c56.size
  refine ⟨Pv.ch c56 (by simp; omega), ?_⟩
  revert bkA fz fc
  generalize (((bL [255, u8 c] ++ bL (stL (By s))) ++ bL (List.replicate n 255)) ++ bL [255, u8 d]) = f
  intro bkA fz fc t1 t46 t49 t52
  rw [w64 (by omega), show (f.size : Int) - 2 = ((f.size - 2 : Nat) : Int) from by omega] at t49
  have k56 : Keep W.heap H56 := ((((((k27.trans k28).trans k38).trans (c48.keep (by simp))).trans (c51.keep (by simp))).trans (c54.keep (by simp))).trans (c56.keep (by simp)))
  have hord : W.heap.size ≤ b1 ∧ b1 < b46 ∧ b46 < b49 ∧ b49 < b52 ∧ b52 < H56.size := ⟨g1, by omega, by omega, by omega, by omega⟩
  refine Rg_i fun r H61 hr k61 s61 hD hl => ?_
  refine All_seq (by omega) (bkA.keep k61) fc _ _ [H56.size + 1, b52] (fun i H' => MB W.heap b1 b46 b49 b52 H56.size (0, 2, (c : Int)) (((f.size - 2 : Nat) : Int), (f.size : Int), (d : Int)) r i H') (fun _ => False) ?_ ?_ ?_ ?_ ?_ (fun _ h => h.elim)
  · intro k hk
    simp at hk ⊢
    omega
  · exact ⟨k56.trans k61, t1.keep k61, t46.keep k61, t49.keep k61, t52.keep k61, hD, hl, hord⟩
  · exact fun i H H' h k => h.keep k
  · rintro i x H64 K hx h c64 hT hF
    refine ⟨h.lp, ?_⟩
    intro b67 H69 c69 g67 g67'
    have h69 := h.keep (c69.keep (by simp))
    have l64 := h.lp.lt
    have hi2 : i < 2 := (List.getElem?_eq_some_iff.1 hx).1
    refine ⟨h69.lp, Up_s h69.lp fun H70 s70 l70 => ⟨Pv.ch s70.ch (by simp; omega), ?_⟩⟩
    have h70 := h69.lps s70 l70
    refine Join.intro (fun b H' => b = false ∧ H70 = H') ?_ fun J hJ => ?_
    · rintro _ _ ⟨rfl, rfl⟩
      refine ite_f rfl (ldI_i h70.b52 rfl (st_i h70.b52 (by simp) fun H78 b78 s78 => ?_))
      rw [w64 (by omega)] at b78
      have h78 := h70.set b78 s78
      refine ⟨h78.lp, hT _ (h78.lps putL_same (putL_lp h78.lp)) ?_⟩
      have c1 : Ch [H56.size + 1, b52] H64 H69 := c69.mono (by simp)
      exact ((c1.trans s70.ch (by simp)).trans s78.ch (by simp)).trans putL_same.ch (by simp)
    · have hi : i = 0 ∨ i = 1 := by omega
      rcases hi with rfl | rfl
      · obtain rfl := Option.some.inj hx
        exact ldI_i h70.b52 rfl (ite_t rfl ⟨_, _, _, ldA_full h70.b46, ite_f (by simp) (ldI_i h70.b52 rfl (ite_f rfl (ldI_i h70.b52 rfl (hJ _ _ ⟨rfl, rfl⟩))))⟩)
      · obtain rfl := Option.some.inj hx
        exact ldI_i h70.b52 rfl (ite_f rfl (ldI_i h70.b52 rfl (ite_t rfl ⟨_, _, _, ldA_full h70.b49, ite_f (by simp) (ldI_i h70.b52 rfl (hJ _ _ ⟨rfl, rfl⟩))⟩)))
  · rintro H' h c
    refine .inl ⟨h.lp, Up_s h.lp fun H106 s106 l106 => ?_⟩
    have h106 := h.lps s106 l106
    have ho := h106.ord
    refine ldI_i h106.b52 rfl (st_i h106.b1 (by simp) fun H109 b109 s109 => tkD_one ((s109.block _ (by omega)).trans h106.d) fun H110 s110 => ldB_i (b109.same s110 (by omega)) rfl ⟨rfl, ?_⟩)
    exact (h106.k.same s109 (by omega)).same s110 (by omega)
end Go.Proofs.YtkplpbnifinlbaaDoor.G
