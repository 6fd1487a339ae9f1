/- Layer 19: the document's list of pieces; lists that are the same. -/
import Derived.Test.YtdcjjoihlnjpnaaZ19
namespace Go.Proofs.Ytdcjjoihlnjpnaa.G
open Go.RowKit
set_option linter.unusedVariables false
set_option linter.unusedSimpArgs false
set_option maxRecDepth 20000

theorem from_eq (n : Nat) (a : Int) : (if (n : Int) < (if a < 0 then 0 else a) then (n : Int) else (if a < 0 then 0 else a)) = ((fromOf n a : Nat) : Int) := by
  unfold fromOf
  split <;> split <;> omega
theorem Each_ok {s : ByteArray} {a : Int} {H : Hp} {Q : Addr × Addr → Hp → Prop}
    (h : ∀ b3 b1 H', Bk H' b3 3 [.int .i64 (fromOf s.size a : Int)] → Bk H' b1 9 [.string s] → Keep H H' → H.size ≤ b1 → b1 < b3 → b3 < H'.size → Q (⟨b3, 0, none⟩, ⟨b1, 0, none⟩) H') : cuts_Each.s s a H Q := by
  unfold cuts_Each.s
  intro b1 H2 c2 g1 g1' b3 H5 c5 g3 g3' hb3 hb1
  rw [from_eq] at hb3
  exact h b3 b1 H5 hb3 hb1 ((c2.keep (by simp)).trans (c5.keep (by simp))) g1 (by omega) g3'
theorem Same_ok {a b : Sl} {xs ys : List Pc} {H : Hp} {Q : Bool → Hp → Prop} (ha : SlV H a 4 cP xs) (hb : SlV H b 4 cP ys) (hl : xs.length ≤ 140737488355328) (h : ∀ r : Bool, (r = true ↔ xs = ys) → Q r H) : mosaicref19_Same.s a b H Q := by
  unfold mosaicref19_Same.s
  have n1 := ha.n
  have n2 := hb.n
  by_cases hn : xs.length = ys.length
  rotate_left
  · refine ite_t (bnet (by omega)) (h false ⟨fun e => (by cases e), fun e => ?_⟩)
    subst e
    exact absurd rfl hn
  refine ite_f (bnei (by omega)) ?_
  refine Fix.intro (fun (x : Int) H' => ∃ i : Nat, x = (i : Int) ∧ i ≤ xs.length ∧ xs.take i = ys.take i ∧ H = H') (fun x _ => xs.length - x.toNat) ⟨0, rfl, by omega, by simp, rfl⟩ ?_
  rintro _ _ ⟨i, rfl, hi, he, rfl⟩ rec hrec
  by_cases hil : i < xs.length
  · have hx : xs[i]? = some xs[i] := List.getElem?_eq_getElem hil
    have hy : ys[i]? = some (ys[i]'(by omega)) := List.getElem?_eq_getElem (by omega)
    obtain ⟨b1, o1, ha1, hA1⟩ := ha.get hx
    obtain ⟨b2, o2, ha2, hA2⟩ := hb.get hy
    refine ite_t (dect (by omega)) ⟨by omega, by omega, _, ha1, ?_⟩
    rw [Int.toNat_natCast]
    refine ⟨_, _, _, _, hA1, by omega, by omega, _, ha2, _, _, _, _, hA2, ?_⟩
    by_cases hxy : xs[i] = ys[i]'(by omega)
    · refine ite_f (by rw [hxy]; simp) ?_
      rw [show (i : Int) + 1 = ((i + 1 : Nat) : Int) from by omega, w64n (by omega)]
      exact hrec _ _ ⟨i + 1, rfl, by omega, by rw [take_snoc' hx, take_snoc' hy, he, hxy], rfl⟩ (by simp; omega)
    · refine ite_t ?_ (h false ⟨fun e => (by cases e), fun e => ?_⟩)
      · generalize xs[i] = p at hxy ⊢
        generalize ys[i]'(by omega) = q at hxy ⊢
        obtain ⟨p1, p2, p3, p4⟩ := p
        obtain ⟨q1, q2, q3, q4⟩ := q
        simp at hxy ⊢
        omega
      · subst e
        exact absurd rfl hxy
  · refine ite_f (decf (by omega)) (h true ⟨fun _ => ?_, fun _ => rfl⟩)
    rw [List.take_of_length_le (by omega), List.take_of_length_le (by omega)] at he
    exact he
theorem rAll_ok {s : ByteArray} {a : Int} {l : List Pc} {H : Hp} {Q : Sl → Hp → Prop} (hs : s.size ≤ 1048576) (hl : Pcs s (fromOf s.size a) l) (h : ∀ t H', Own H' 29 4 t (l.flatMap cP) → Keep H H' → (∀ b ∈ fp t, H.size ≤ b) → Q t H') : mosaicref19_All.s s a H Q := by
  have hll := hl.len (fromOf_le _ _)
  have hfl := fromOf_le s.size a
  unfold mosaicref19_All.s
  refine Join.intro (fun x H' => x = max a 0 ∧ H = H') ?_ fun J hJ => ?_
  rotate_left
  · by_cases h0 : a < 0
    · exact ite_t (dect h0) (hJ _ _ ⟨by omega, rfl⟩)
    · exact ite_f (decf h0) (hJ _ _ ⟨by omega, rfl⟩)
  rintro _ _ ⟨rfl, rfl⟩
  refine Join.intro (fun x H' => x = (fromOf s.size a : Int) ∧ H = H') ?_ fun J hJ => ?_
  rotate_left
  · by_cases h0 : (s.size : Int) < max a 0
    · exact ite_t (dect h0) (hJ _ _ ⟨by unfold fromOf; omega, rfl⟩)
    · exact ite_f (decf h0) (hJ _ _ ⟨by unfold fromOf; omega, rfl⟩)
  rintro _ _ ⟨rfl, rfl⟩
  intro b7 H9 c9 f9 f9' hb7
  have k9 : Keep H H9 := c9.keep (by simp)
  refine Fix.intro (fun (x : Sl × Int × Int) H' => ∃ k i b : Nat, x.2.2 = (i : Int) ∧ x.2.1 = ((i - bkw s b i : Nat) : Int) ∧ b ≤ i ∧ i ≤ s.size ∧ Pcs s b (l.drop k) ∧ (∀ j, b ≤ j → j + 1 < i → ¬ isMark s j) ∧ Bk H' b7 29 (c29 (b : Int) 0 0 0) ∧ Own H' 29 4 x.1 ((l.take k).flatMap cP) ∧ b7 ∉ fp x.1 ∧ Keep H H' ∧ ∀ b ∈ fp x.1, H.size ≤ b) (fun x _ => s.size - x.2.2.toNat)
    ⟨0, fromOf s.size a, fromOf s.size a, rfl, ?_, Nat.le_refl _, hfl, hl, fun j h1 h2 => by omega, hb7, Own.nil _ _ _, by simp [fp], k9, by simp [fp]⟩ ?_
  · have h1 := bkw_ge s (fromOf s.size a) _ (Nat.le_refl _)
    simp only
    omega
  rintro ⟨t, row, i0⟩ H13 ⟨k, i, b, e1, e2, hbi, hi, hp, hno, b13, o13, n13, k13, f13⟩ rec hrec
  simp only at e1 e2 o13 n13 f13
  subst e1 e2
  simp only
  obtain ⟨p, r, e⟩ : ∃ p r, l.drop k = p :: r := by
    cases e : l.drop k with
    | nil => rw [e] at hp; exact hp.elim
    | cons p r => exact ⟨p, r, rfl⟩
  have hget : l[k]? = some p := by
    have := congrArg (fun x => x[0]?) e
    simpa [List.getElem?_drop] using this
  have hdr : l.drop (k + 1) = r := by
    have := congrArg (List.drop 1) e
    simpa [List.drop_drop] using this
  have htk := take_snoc' hget
  have hkl := (List.getElem?_eq_some_iff.1 hget).1
  have htl : (l.take k).length = k := by simp; omega
  rw [e] at hp
  have y13 := k13.size
  have hbl := bkw_le s b i
  have hbg := bkw_ge s b i hbi
  -- the piece is written, and goes to the list
  have put : ∀ {G : Hp} {t1 x1 x2 x3 : Int} {K : Sl → Hp → Prop}, Bk G b7 29 (c29 (b : Int) 0 0 0) → Own G 29 4 t ((l.take k).flatMap cP) → Keep H G → p = ((b : Int), x1, x2, x3) →
      (∀ t' G', Bk G' b7 29 (cP p) → Own G' 29 4 t' ((l.take (k + 1)).flatMap cP) → b7 ∉ fp t' → Keep H G' → (∀ b ∈ fp t', H.size ≤ b) → K t' G') →
      st G (⟨b7, 1, none⟩ : Addr) (.int .i64 x1) (fun H24 => st H24 (⟨b7, 2, none⟩ : Addr) (.int .i8 x2) (fun H25 => st H25 (⟨b7, 3, none⟩ : Addr) (.int .i64 x3) (fun H26 => ∃ x27 : Int, ∃ x28 : Int, ∃ x29 : Int, ∃ x30 : Int, ldA H26 (⟨b7, 0, none⟩ : Addr) (c29 x27 x28 x29 x30) ∧ (nw H26 29 (c29 x27 x28 x29 x30) (fun p32 H33 => apS H33 t 29 4 32 z29.cells 1 (c29 x27 x28 x29 x30) K))))) := by
    intro G t1 x1 x2 x3 K bG oG kG ep hK
    refine st_i bG (by simp) fun G1 b1 s1 => st_i b1 (by simp) fun G2 b2 s2 => st_i b2 (by simp) fun G3 b3 s3 => ?_
    have o3 := ((oG.ch s1.ch (ni n13)).ch s2.ch (ni n13)).ch s3.ch (ni n13)
    have k3 := ((kG.same s1 f9).same s2 f9).same s3 f9
    have b3' : Bk G3 b7 29 (cP p) := by rw [ep]; exact b3
    refine ⟨p.1, p.2.1, p.2.2.1, p.2.2.2, ldA_full b3', push1 (f := cP) (x := p) o3 cP_len cP_ones rfl (by omega) (by omega) (by omega) fun t' G4 o4 c4 f4 => hK t' G4 (b3'.ch c4 n13) (by rw [htk]; exact o4) (fun hh => ?_) ((k3.ch (F := [])).trans c4 (fun j hj => .inr (f13 j hj)) |>.keep (by simp)) fun j hj => ?_⟩
    · rcases f4 b7 hh with h | h
      · exact n13 h
      · have := b3.lt; omega
    · have := k3.size
      rcases f4 j hj with h | h
      · exact f13 j h
      · omega
  by_cases his : i < s.size
  rotate_left
  · obtain rfl : i = s.size := by omega
    rcases hp with ⟨j, q1, q2, _⟩ | ⟨q1, q2, q3⟩
    · have := q2.1
      exact absurd q2 (hno j q1 (by omega))
    refine ite_f (decf (by omega)) ?_
    have ew : IntKind.wrap .i64 ((s.size : Int) - ((s.size - bkw s b s.size : Nat) : Int)) = (bkw s b s.size : Int) := by rw [w64 (by omega)]; omega
    rw [ew]
    subst q3
    refine put (t1 := 0) b13 o13 k13 q2 fun t' G' b' o' n' k' f' => h t' G' ?_ k' f'
    have : l.length ≤ k + 1 := by
      have := congrArg List.length hdr
      simp at this
      omega
    rwa [List.take_of_length_le this] at o'
  have hbt := bt_range s (i : Int)
  have ebt : IntKind.wrap .i64 (bt s (i : Int)) = bt s (i : Int) := w64 (by omega)
  rw [ebt]
  refine ite_t (dect (by omega)) (Join.intro (fun (x : Sl × Int) H' => ∃ k b : Nat, x.2 = ((i + 1 - bkw s b (i + 1) : Nat) : Int) ∧ b ≤ i + 1 ∧ Pcs s b (l.drop k) ∧ (∀ j, b ≤ j → j + 1 < i + 1 → ¬ isMark s j) ∧ Bk H' b7 29 (c29 (b : Int) 0 0 0) ∧ Own H' 29 4 x.1 ((l.take k).flatMap cP) ∧ b7 ∉ fp x.1 ∧ Keep H H' ∧ ∀ b ∈ fp x.1, H.size ≤ b) ?_ fun J hJ => ⟨by omega, by omega, ?_⟩)
  · rintro ⟨t', row'⟩ H18 ⟨k', b', q1, q2, q3, q4, q5, q6, q7, q8, q9⟩
    simp only at q1 q6 q7 q9
    rw [show (i : Int) + 1 = ((i + 1 : Nat) : Int) from by omega, w64n (by omega)]
    exact hrec _ _ ⟨k', i + 1, b', rfl, q1, q2, by omega, q3, q4, q5, q6, q7, q8, q9⟩ (by simp; omega)
  have mk : ∀ {j : Nat}, isMark s j → j + 1 = i → bt s (j : Int) = 255 ∧ bt s (i : Int) ≠ 0 ∧ bt s (i : Int) ≠ 255 := fun {j} hm e => by
    subst e
    exact ⟨hm.2.1, hm.2.2.1, hm.2.2.2⟩
  have bk1 : bkw s b (i + 1) = if bt s (i : Int) = 255 then bkw s b i else i + 1 := by
    rw [bkw]
    by_cases g : bt s (i : Int) = 255
    · rw [if_pos ⟨by omega, g⟩, if_pos g]
    · rw [if_neg fun x => g x.2, if_neg g]
  -- nothing is told here
  have stay : bt s (i : Int) ≠ 255 → (0 < i - bkw s b i → bt s (i : Int) = 0) → J (t, 0) H13 := fun g1 g2 => by
    refine hJ _ _ ⟨k, b, ?_, by omega, by rw [e]; exact hp, fun j h1 h2 hm => ?_, b13, o13, n13, k13, f13⟩
    · rw [bk1, if_neg g1]; simp
    · by_cases hj : j + 1 < i
      · exact hno j h1 hj hm
      · obtain ⟨m1, m2, m3⟩ := mk hm (by omega)
        have : bkw s b i < i := by
          obtain ⟨i', rfl⟩ : ∃ i', i = i' + 1 := ⟨i - 1, by omega⟩
          obtain rfl : j = i' := by omega
          rw [bkw, if_pos ⟨by omega, m1⟩]
          have := bkw_le s b j
          omega
        exact m2 (g2 (by omega))
  by_cases h255 : bt s (i : Int) = 255
  · refine ite_t (beqi h255) (hJ _ _ ⟨k, b, ?_, by omega, by rw [e]; exact hp, fun j h1 h2 hm => ?_, b13, o13, n13, k13, f13⟩)
    · rw [bk1, if_pos h255, w64 (by omega)]
      omega
    · by_cases hj : j + 1 < i
      · exact hno j h1 hj hm
      · exact (mk hm (by omega)).2.2 h255
  refine ite_f (beqf h255) ?_
  by_cases hrow : 0 < i - bkw s b i
  rotate_left
  · -- no row stands here
    refine Join.intro (fun x H' => x = false ∧ H13 = H') ?_ fun J hJ => ite_f (decf (by omega)) (hJ _ _ ⟨rfl, rfl⟩)
    rintro _ _ ⟨rfl, rfl⟩
    refine ite_f rfl (Join.intro (fun x H' => x = false ∧ H13 = H') ?_ fun J hJ => ite_f (decf (by omega)) (hJ _ _ ⟨rfl, rfl⟩))
    rintro _ _ ⟨rfl, rfl⟩
    exact ite_f rfl (stay h255 fun g => absurd g hrow)
  obtain ⟨i', rfl⟩ : ∃ i', i = i' + 1 := ⟨i - 1, by omega⟩
  have hprev : b < i' + 1 ∧ bt s (i' : Int) = 255 := by
    have e : bkw s b (i' + 1) = if b < i' + 1 ∧ bt s (i' : Int) = 255 then bkw s b i' else i' + 1 := by rw [bkw]
    by_cases g : b < i' + 1 ∧ bt s (i' : Int) = 255
    · exact g
    · rw [if_neg g] at e; omega
  have hbk : bkw s b (i' + 1) = bkw s b i' := by rw [bkw, if_pos hprev]
  have ew : IntKind.wrap .i64 (((i' + 1 : Nat) : Int) - ((i' + 1 - bkw s b (i' + 1) : Nat) : Int)) = (bkw s b i' : Int) := by rw [w64 (by omega)]; omega
  rw [ew]
  -- which piece ends here
  have here : bt s ((i' + 1 : Nat) : Int) ≠ 0 → isMark s i' := fun g => ⟨his, hprev.2, g, h255⟩
  have pick : bt s ((i' + 1 : Nat) : Int) ≠ 0 → ((208 ≤ bt s ((i' + 1 : Nat) : Int) ∧ bt s ((i' + 1 : Nat) : Int) ≤ 215 ∧ p = ((b : Int), (bkw s b i' : Int), bt s ((i' + 1 : Nat) : Int) - 208, ((i' + 2 : Nat) : Int)) ∧ Pcs s (i' + 2) r) ∨
        (¬ (208 ≤ bt s ((i' + 1 : Nat) : Int) ∧ bt s ((i' + 1 : Nat) : Int) ≤ 215) ∧ p = ((b : Int), (bkw s b i' : Int), -1, (i' : Int)) ∧ r = [])) := fun g => by
    have hm := here g
    rcases hp with ⟨j, q1, q2, q3, q4⟩ | ⟨q1, _⟩
    · have ej : j = i' := by
        rcases Nat.lt_trichotomy j i' with x | x | x
        · exact absurd q2 (hno j q1 (by omega))
        · exact x
        · exact absurd hm (q3 i' (by omega) x)
      subst ej
      exact q4
    · exact absurd hm (q1 i' (by omega))
  refine Join.intro (fun x H' => x = decide (208 ≤ bt s ((i' + 1 : Nat) : Int) ∧ bt s ((i' + 1 : Nat) : Int) ≤ 215) ∧ H13 = H') ?_ fun J hJ => ?_
  rotate_left
  · refine ite_t (dect (by omega)) ?_
    by_cases g : 208 ≤ bt s ((i' + 1 : Nat) : Int)
    · refine ite_t (dect g) (hJ _ _ ⟨?_, rfl⟩)
      by_cases g2 : bt s ((i' + 1 : Nat) : Int) ≤ 215
      · exact (dect g2).trans (dect ⟨g, g2⟩).symm
      · exact (decf g2).trans (decf fun x => g2 x.2).symm
    · exact ite_f (decf g) (hJ _ _ ⟨(decf fun x => g x.1).symm, rfl⟩)
  rintro _ _ ⟨rfl, rfl⟩
  by_cases hr : 208 ≤ bt s ((i' + 1 : Nat) : Int) ∧ bt s ((i' + 1 : Nat) : Int) ≤ 215
  · refine ite_t (dect hr) ?_
    rcases pick (by omega) with ⟨_, _, q6, q7⟩ | ⟨q4, _⟩
    rotate_left
    · exact absurd hr q4
    rw [w64 (x := bt s ((i' + 1 : Nat) : Int) - 208) (by omega), w8 (x := bt s ((i' + 1 : Nat) : Int) - 208) (by omega), show ((i' + 1 : Nat) : Int) + 1 = ((i' + 2 : Nat) : Int) from by omega, w64n (x := i' + 2) (by omega)]
    refine put (t1 := 0) b13 o13 k13 q6 fun t' G' b' o' n' k' f' => stA_full b' rfl fun H39 b39 s39 => hJ _ _ ⟨k + 1, i' + 2, ?_, by omega, by rw [hdr]; exact q7, fun j h1 h2 => by omega, b39, o'.ch s39.ch (ni n'), n', k'.same s39 f9, f'⟩
    show (0 : Int) = _
    rw [bkw, if_neg (by omega)]
    omega
  · refine ite_f (decf hr) (Join.intro (fun x H' => x = decide (bt s ((i' + 1 : Nat) : Int) ≠ 0) ∧ H13 = H') ?_ fun J hJ => ?_)
    rotate_left
    · refine ite_t (dect (by omega)) (hJ _ _ ⟨?_, rfl⟩)
      by_cases g : bt s ((i' + 1 : Nat) : Int) = 0
      · exact (bnei g).trans (decf fun x => x g).symm
      · exact (bnet g).trans (dect g).symm
    rintro _ _ ⟨rfl, rfl⟩
    by_cases g : bt s ((i' + 1 : Nat) : Int) = 0
    · exact ite_f (decf (by omega)) (stay h255 fun _ => g)
    · refine ite_t (dect g) ?_
      rcases pick g with ⟨q4, q5, _⟩ | ⟨_, q5, q6⟩
      · exact absurd ⟨q4, q5⟩ hr
      rw [show ((i' + 1 : Nat) : Int) - 1 = (i' : Int) from by omega, w64n (x := i') (by omega)]
      refine put (t1 := 0) b13 o13 k13 q5 fun t' G' b' o' n' k' f' => h t' G' ?_ k' f'
      subst q6
      have : l.length ≤ k + 1 := by
        have := congrArg List.length hdr
        simp at this
        omega
      rwa [List.take_of_length_le this] at o'
end Go.Proofs.Ytdcjjoihlnjpnaa.G
