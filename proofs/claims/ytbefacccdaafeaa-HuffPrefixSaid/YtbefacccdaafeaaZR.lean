/- The document's bits: sinks. -/
import Derived.Test.YtbefacccdaafeaaZBt
import Derived.Test.YtbefacccdaafeaaKmosaicref01
namespace Go.Proofs.Ytbefacccdaafeaa.G
open Go.RowKit
set_option linter.unusedVariables false
set_option linter.unusedSimpArgs false

abbrev cBo (b : Bool) : List Value := [.bool b]
theorem cBo_len (b : Bool) : (cBo b).length = 1 := rfl
theorem cBo_ones (b : Bool) : ∀ u ∈ cBo b, u.oneCell' = true := ones_cons rfl ones_nil
structure Rsn (H : Hp) (k : Nat) (s : Sl) (l : List Bool) : Prop where
  bk : Bk H k 89 (c89 s)
  own : Own H 4 1 s (l.flatMap cBo)
  ne : k ∉ fp s
theorem Rsn.ch {H H' : Hp} {k : Nat} {s : Sl} {l : List Bool} {F : List Nat} (h : Rsn H k s l) (c : Ch F H H') (hF : ∀ b ∈ k :: fp s, b ∉ F) : Rsn H' k s l :=
  ⟨h.bk.ch c (hF k (by simp)), h.own.ch c fun b hb => hF b (by simp [hb]), h.ne⟩
theorem Rsn.lts {H : Hp} {k : Nat} {s : Sl} {l : List Bool} (h : Rsn H k s l) : ∀ b ∈ k :: fp s, b < H.size := by
  intro b hb
  rcases List.mem_cons.1 hb with rfl | hb
  · exact h.bk.lt
  · exact h.own.fp_lt b hb
theorem Rsn.count {H : Hp} {k : Nat} {s : Sl} {l : List Bool} (h : Rsn H k s l) : s.n = l.length := h.own.count cBo_len (by omega)
theorem rNew_ok {H : Hp} {Q : Option Addr → Hp → Prop} (h : ∀ k H', Rsn H' k ⟨none, 0, 0⟩ [] → Keep H H' → H.size ≤ k → Q (some ⟨k, 0, none⟩) H') : mosaicref01_New.s H Q := by
  unfold mosaicref01_New.s
  intro b H' c hb hb' hbk
  exact h b H' ⟨hbk, Own.nil _ _ _, by simp [fp]⟩ (c.keep (by simp)) hb
/-- One bit behind. -/
theorem push_ok {H : Hp} {k : Nat} {s : Sl} {l : List Bool} {b : Bool} {K : Hp → Prop} (h : Rsn H k s l) (hl : l.length + 1 ≤ 140737488355328)
    (hK : ∀ s' H', Rsn H' k s' (l ++ [b]) → Ch (k :: fp s) H H' → (∀ i ∈ fp s', i ∈ fp s ∨ H.size ≤ i) → K H') :
    nw H 4 [.bool b] fun p H1 => apS H1 s 4 1 1 z4.cells 1 [.bool b] fun t H2 => st H2 ((⟨k, 0, none⟩ : Addr).add 0) (.slice t.a t.n t.c) K := by
  refine nw_i fun H1 b1 k1 z1 => ?_
  have hk := h.bk.lt
  refine apS_list (ys := [b]) (h.own.ch (k1.ch (F := [])) (by simp)) cBo_len cBo_ones rfl (by omega) rfl (by simp; omega) (by omega) fun s2 H2 o2 c2 f2 => ?_
  have b2 := (h.bk.keep k1).ch c2 h.ne
  have ne2 : k ∉ fp s2 := fun hh => by
    rcases f2 k hh with hh | hh
    · exact h.ne hh
    · omega
  refine st_a b2 (by simp) fun H3 b3 s3 => hK s2 H3 ⟨b3, o2.ch s3.ch (ni ne2), ne2⟩ ?_ ?_
  · exact ((k1.ch (F := k :: fp s)).trans c2 fun i hi => .inl (by simp [hi])).trans s3.ch (by simp)
  · intro i hi
    rcases f2 i hi with hh | hh
    · exact .inl hh
    · exact .inr (by omega)
theorem push_ok' {H : Hp} {k : Nat} {s : Sl} {l : List Bool} {b : Bool} {K : Hp → Prop} (h : Rsn H k s l) (hl : l.length + 1 ≤ 140737488355328)
    (hK : ∀ s' H', Rsn H' k s' (l ++ [b]) → Ch (k :: fp s) H H' → (∀ i ∈ fp s', i ∈ fp s ∨ H.size ≤ i) → K H') :
    nw H 4 [.bool b] fun p H1 => cellAt H1 ((⟨k, 0, none⟩ : Addr).add 0) = some (.slice s.a s.n s.c) ∧ apS H1 s 4 1 1 z4.cells 1 [.bool b] fun t H2 => st H2 ((⟨k, 0, none⟩ : Addr).add 0) (.slice t.a t.n t.c) K := by
  refine nw_i fun H1 b1 k1 z1 => ?_
  have hk := h.bk.lt
  refine ⟨cell_a (h.bk.keep k1) rfl, ?_⟩
  refine apS_list (ys := [b]) (h.own.ch (k1.ch (F := [])) (by simp)) cBo_len cBo_ones rfl (by omega) rfl (by simp; omega) (by omega) fun s2 H2 o2 c2 f2 => ?_
  have b2 := (h.bk.keep k1).ch c2 h.ne
  have ne2 : k ∉ fp s2 := fun hh => by
    rcases f2 k hh with hh | hh
    · exact h.ne hh
    · omega
  refine st_a b2 (by simp) fun H3 b3 s3 => hK s2 H3 ⟨b3, o2.ch s3.ch (ni ne2), ne2⟩ ?_ ?_
  · exact ((k1.ch (F := k :: fp s)).trans c2 fun i hi => .inl (by simp [hi])).trans s3.ch (by simp)
  · intro i hi
    rcases f2 i hi with hh | hh
    · exact .inl hh
    · exact .inr (by omega)
theorem low_bit (v : Int) {n i : Nat} (hi : i < n) (hn : n ≤ 62) : (Go.bits .and .i64 (shrI .i64 v (i : Int)) 1 == 1) = (low v n).testBit i := by
  have h1 := and_mask (shrI .i64 v (i : Int)) (n := 1) (by omega)
  rw [show (1 : Int) = ((2 ^ 1 : Nat) : Int) - 1 from rfl, h1]
  unfold shrI
  rw [Int.toNat_natCast, Nat.min_eq_left (show i ≤ IntKind.bits .i64 by show i ≤ 64; omega)]
  rw [Nat.testBit_eq_decide_div_mod_eq]
  have e : (((low v n) / 2 ^ i % 2 : Nat) : Int) = v / 2 ^ i % 2 := by
    rw [Int.natCast_emod, Int.natCast_ediv, low_cast]
    obtain ⟨d, rfl⟩ : ∃ d, n = i + 1 + d := ⟨n - i - 1, by omega⟩
    have hp : ((2 ^ i : Nat) : Int) ≠ 0 := by have : 0 < 2 ^ i := Nat.pow_pos (by omega); omega
    have e1 : ((2 ^ (i + 1 + d) : Nat) : Int) = ((2 ^ i : Nat) : Int) * (2 * ((2 ^ d : Nat) : Int)) := by
      rw [show i + 1 + d = i + (1 + d) from by omega, Nat.pow_add, Nat.pow_add]; push_cast; rfl
    have e2 : v % ((2 ^ (i + 1 + d) : Nat) : Int) = v - ((2 ^ i : Nat) : Int) * (2 * ((2 ^ d : Nat) : Int) * (v / ((2 ^ (i + 1 + d) : Nat) : Int))) := by
      rw [Int.emod_def, e1]; congr 1; rw [Int.mul_assoc]
    rw [e2, Int.sub_mul_ediv_left _ _ hp]
    rw [show (2 ^ i : Int) = ((2 ^ i : Nat) : Int) from by push_cast; rfl, Int.mul_assoc]
    show (_ - 2 * _) % 2 = _
    omega
  show ((v / 2 ^ i % 2 : Int) == 1) = _
  rw [← e]
  rcases Nat.mod_two_eq_zero_or_one (low v n / 2 ^ i) with h | h <;> rw [h] <;> rfl
theorem rPut_ok {H : Hp} {k : Nat} {s : Sl} {l : List Bool} {v n : Int} {Q : Bool → Hp → Prop} (hs : Rsn H k s l) (hl : l.length ≤ 140737488355000)
    (h0 : n < 0 ∨ 16 < n → Q false H)
    (h : 0 ≤ n → n ≤ 16 → ∀ s' H', Rsn H' k s' (l ++ bl n.toNat (low v n.toNat)) → Ch (k :: fp s) H H' → (∀ b ∈ fp s', b ∈ fp s ∨ H.size ≤ b) → Q true H') : mosaicref01_Sink_Put.s (some ⟨k, 0, none⟩) v n H Q := by
  unfold mosaicref01_Sink_Put.s
  refine Join.intro (fun b H' => b = decide (n < 0 ∨ 16 < n) ∧ H = H') ?_ ?_
  · rintro _ _ ⟨rfl, rfl⟩
    by_cases hb : n < 0 ∨ 16 < n
    · exact ite_t (dect hb) (h0 hb)
    refine ite_f (decf hb) ?_
    obtain ⟨m, rfl⟩ : ∃ m : Nat, n = (m : Int) := ⟨n.toNat, by omega⟩
    rw [Int.toNat_natCast] at h
    have hm : m ≤ 16 := by omega
    rw [w64 (by omega)]
    refine Fix.intro (fun (x : Int) H' => ∃ (i : Nat) (t : Sl), x = (m : Int) - 1 - i ∧ i ≤ m ∧ Rsn H' k t (l ++ (bl m (low v m)).take i) ∧ Ch (k :: fp s) H H' ∧ ∀ b ∈ fp t, b ∈ fp s ∨ H.size ≤ b) (fun x _ => (x + 1).toNat)
      ⟨0, s, by omega, by omega, by simpa using hs, Ch.refl _ _, fun b hb => .inl hb⟩ ?_
    rintro _ H1 ⟨i, t, rfl, hi, R1, c1, f1⟩ rec hrec
    by_cases him : i < m
    · have R1l : (l ++ (bl m (low v m)).take i).length ≤ 140737488355100 := by simp [bl_len]; omega
      have hbit : (bl m (low v m))[i]? = some ((low v m).testBit (m - 1 - i)) := by
        have : ∀ n v i, i < n → (bl n v)[i]? = some (v.testBit (n - 1 - i)) := by
          intro n
          induction n with
          | zero => intro v i h; omega
          | succ n ih =>
            intro v i h
            cases i with
            | zero => rfl
            | succ i => rw [bl, List.getElem?_cons_succ, ih v i (by omega)]; congr 2; omega
        exact this _ _ _ him
      refine ite_t (dect (by omega)) ⟨_, rfl, by omega, ldL_a R1.bk rfl ?_⟩
      rw [show (m : Int) - 1 - i = ((m - 1 - i : Nat) : Int) from by omega, low_bit v (n := m) (by omega) (by omega)]
      refine push_ok' R1 (by omega) (fun t2 H2 R2 c2 f2 => ?_)
      rw [w64 (by omega)]
      refine hrec _ _ ⟨i + 1, t2, by omega, by omega, ?_, c1.trans c2 (fun j hj => ?_), fun j hj => ?_⟩ (by omega)
      · rw [List.take_add_one, hbit, ← List.append_assoc]; exact R2
      · rcases List.mem_cons.1 hj with rfl | hj
        · exact .inl (by simp)
        · rcases f1 j hj with h | h
          · exact .inl (by simp [h])
          · exact .inr h
      · have := c1.size
        rcases f2 j hj with h | h
        · exact f1 j h
        · exact .inr (by omega)
    · refine ite_f (decf (by omega)) (h (by omega) (by omega) t H1 ?_ c1 f1)
      rw [List.take_of_length_le (by rw [bl_len]; omega)] at R1
      exact R1
  · intro J hJ
    by_cases h1 : n < 0
    · exact ite_t (dect h1) (hJ _ _ ⟨by simp [h1], rfl⟩)
    · exact ite_f (decf h1) (hJ _ _ ⟨by simp [h1], rfl⟩)
theorem rLen_ok {H : Hp} {k : Nat} {s : Sl} {l : List Bool} {Q : Int → Hp → Prop} (hs : Rsn H k s l) (h : Q (l.length : Int) H) : mosaicref01_Sink_Len.s (some ⟨k, 0, none⟩) H Q := by
  unfold mosaicref01_Sink_Len.s
  refine ⟨_, rfl, ldL_a hs.bk rfl ?_⟩
  rw [hs.count]
  exact h
theorem rPad_ok {H : Hp} {k : Nat} {s : Sl} {l : List Bool} {Q : Unit → Hp → Prop} (hs : Rsn H k s l) (hl : l.length ≤ 140737488355000)
    (h : ∀ s' H', Rsn H' k s' (l ++ List.replicate ((8 - l.length % 8) % 8) true) → Ch (k :: fp s) H H' → (∀ b ∈ fp s', b ∈ fp s ∨ H.size ≤ b) → Q () H') : mosaicref01_Sink_Pad.s (some ⟨k, 0, none⟩) H Q := by
  unfold mosaicref01_Sink_Pad.s
  refine Fix.intro (fun (_ : Unit) H' => ∃ (i : Nat) (t : Sl), i ≤ (8 - l.length % 8) % 8 ∧ Rsn H' k t (l ++ List.replicate i true) ∧ Ch (k :: fp s) H H' ∧ ∀ b ∈ fp t, b ∈ fp s ∨ H.size ≤ b)
    (fun _ H' => match cellAt H' ⟨k, 0, none⟩ with | some (.slice _ n _) => (8 - n % 8) % 8 | _ => 0) ⟨0, s, by omega, by simpa using hs, Ch.refl _ _, fun b hb => .inl hb⟩ ?_
  rintro ⟨⟩ H1 ⟨i, t, hi, R1, c1, f1⟩ rec hrec
  have hn := R1.count
  simp at hn
  refine ⟨_, rfl, ldL_a R1.bk rfl ?_⟩
  have e : Int.tmod (t.n : Int) 8 = ((t.n % 8 : Nat) : Int) := rfl
  rw [e]
  by_cases h0 : t.n % 8 = 0
  · refine ite_f (bnei (by omega)) (h t H1 ?_ c1 f1)
    rwa [show (8 - l.length % 8) % 8 = i from by omega]
  · refine ite_t (bnet (by omega)) (ldL_a R1.bk rfl (push_ok R1 (by simp; omega) fun t2 H2 R2 c2 f2 => ?_))
    have n2 := R2.count
    simp at n2
    refine hrec _ _ ⟨i + 1, t2, by omega, ?_, c1.trans c2 (fun j hj => ?_), fun j hj => ?_⟩ ?_
    · rw [List.replicate_succ', ← List.append_assoc]; exact R2
    · rcases List.mem_cons.1 hj with rfl | hj
      · exact .inl (by simp)
      · rcases f1 j hj with h | h
        · exact .inl (by simp [h])
        · exact .inr h
    · have := c1.size
      rcases f2 j hj with h | h
      · exact f1 j h
      · exact .inr (by omega)
    · have m1 : cellAt H2 ⟨k, 0, none⟩ = some (.slice t2.a t2.n t2.c) := by rw [R2.bk.cell]; rfl
      have m2 : cellAt H1 ⟨k, 0, none⟩ = some (.slice t.a t.n t.c) := by rw [R1.bk.cell]; rfl
      simp only [m1, m2]
      omega
theorem octs_step (l : List Bool) {i : Nat} (h : 8 * i + 8 ≤ l.length) : (octs l).take (i + 1) = (octs l).take i ++ [num ((l.drop (8 * i)).take 8)] := by
  rw [List.take_add_one]
  congr 1
  unfold octs
  rw [List.getElem?_map, List.getElem?_range (by omega)]
  rfl
theorem octs_len (l : List Bool) : (octs l).length = l.length / 8 := by simp [octs]
theorem rText_ok {H : Hp} {k : Nat} {s : Sl} {l : List Bool} {Q : ByteArray → Hp → Prop} (hs : Rsn H k s l) (hl : l.length ≤ 140737488355000) (h : ∀ H', Keep H H' → Q (text l) H') : mosaicref01_Sink_Text.s (some ⟨k, 0, none⟩) H Q := by
  unfold mosaicref01_Sink_Text.s
  refine Fix.intro (fun (x : Sl × Int) H' => ∃ i : Nat, x.2 = ((8 * i : Nat) : Int) ∧ 8 * i ≤ l.length ∧ Own H' 5 1 x.1 ((stuff ((octs l).take i)).flatMap cB) ∧ Keep H H' ∧ ∀ j ∈ fp x.1, H.size ≤ j) (fun x _ => l.length - x.2.toNat)
    ⟨0, rfl, by omega, by simpa [stuff] using Own.nil _ _ _, Keep.refl _, by simp [fp]⟩ ?_
  rintro ⟨t, _⟩ H1 ⟨i, rfl, hi, o1, k1, f1⟩ rec hrec
  replace o1 : Own H1 5 1 t ((stuff ((octs l).take i)).flatMap cB) := o1
  replace f1 : ∀ j ∈ fp t, H.size ≤ j := f1
  simp only
  have R1 := hs.ch (k1.ch (F := [])) (by simp)
  have hn := hs.count
  refine ⟨_, rfl, ldL_a R1.bk rfl ?_⟩
  rw [show ((8 * i : Nat) : Int) + 8 = ((8 * i + 8 : Nat) : Int) from by omega, w64n (by omega)]
  by_cases h8 : 8 * i + 8 ≤ l.length
  · have hstep := octs_step l h8
    have hst : (stuff ((octs l).take i)).length ≤ 2 * (l.length / 8) := by
      have := stuff_len ((octs l).take i)
      have := octs_len l
      rw [List.length_take] at *
      omega
    refine ite_t (dect (by omega)) (Join.intro (fun (t' : Sl) H' => Own H' 5 1 t' ((stuff ((octs l).take (i + 1))).flatMap cB) ∧ Keep H H' ∧ ∀ j ∈ fp t', H.size ≤ j) ?_ ?_)
    · rintro t' H2 ⟨o2, k2, f2⟩
      exact hrec _ _ ⟨i + 1, rfl, by omega, o2, k2, f2⟩ (by simp; omega)
    · intro J hJ
      refine Fix.intro (fun (x : Int × Int) H' => ∃ j : Nat, x = ((num ((l.drop (8 * i)).take j) : Int), (j : Int)) ∧ j ≤ 8 ∧ H1 = H') (fun x _ => 8 - x.2.toNat) ⟨0, rfl, by omega, rfl⟩ ?_
      rintro _ _ ⟨j, rfl, hj, rfl⟩ rec2 hrec2
      simp only
      have hv : num ((l.drop (8 * i)).take j) < 256 := by
        have h1 := num_lt ((l.drop (8 * i)).take j)
        have h2 : 2 ^ ((l.drop (8 * i)).take j).length ≤ 2 ^ 8 := pow_lt (by simp; omega)
        have h3 : (2 : Nat) ^ 8 = 256 := rfl
        omega
      by_cases hj8 : j < 8
      · have hb : 8 * i + j < l.length := by omega
        have hg : (l.drop (8 * i))[j]? = some l[8 * i + j] := by rw [List.getElem?_drop, List.getElem?_eq_getElem hb]
        have hnum := num_take hg
        refine ite_t (dect (by omega)) (Join.intro (fun (v : Int) H' => v = (num ((l.drop (8 * i)).take (j + 1)) : Int) ∧ H1 = H') ?_ ?_)
        · rintro _ _ ⟨rfl, rfl⟩
          rw [show (j : Int) + 1 = ((j + 1 : Nat) : Int) from by omega, w64n (by omega)]
          exact hrec2 _ _ ⟨j + 1, rfl, by omega, rfl⟩ (by simp; omega)
        · intro J2 hJ2
          have ew : IntKind.wrap .i64 (((8 * i : Nat) : Int) + (j : Int)) = ((8 * i + j : Nat) : Int) := by rw [show ((8 * i : Nat) : Int) + (j : Int) = ((8 * i + j : Nat) : Int) from by omega, w64n (by omega)]
          obtain ⟨b, ha, hA⟩ := R1.own.at cBo_len (by omega) (List.getElem?_eq_getElem hb)
          refine ldL_a R1.bk rfl ⟨by rw [ew]; omega, by rw [ew]; omega, _, ha, ?_⟩
          rw [ew, Int.toNat_natCast]
          refine ⟨_, by have := hA.2 0 _ rfl; rwa [Addr.add, if_pos rfl] at this, ?_⟩
          rw [w64 (x := 2 * _) (by omega)]
          cases hbit : l[8 * i + j] with
          | true =>
            refine ite_t rfl (Lt.of (hJ2 _ _ ⟨?_, rfl⟩))
            rw [hnum, hbit, w64 (by omega)]
            simp
          | false =>
            refine ite_f rfl (hJ2 _ _ ⟨?_, rfl⟩)
            rw [hnum, hbit]
            simp
      · obtain rfl : j = 8 := by omega
        refine ite_f (decf (by omega)) ?_
        rw [wu8n hv]
        refine nw_i fun H2 b2 k2 z2 => ?_
        refine apS_list (ys := [num ((l.drop (8 * i)).take 8)]) (o1.ch (k2.ch (F := [])) (by simp)) cB_len cB_ones rfl (by omega) rfl (by simp; omega) (by omega) fun t3 H3 o3 c3 f3 => ?_
        have k3 : Keep H H3 := (((k1.trans k2).ch (F := [])).trans c3 fun j hj => .inr (f1 j hj)).keep (by simp)
        have g3 : ∀ j ∈ fp t3, H.size ≤ j := fun j hj => by
          have := k1.size
          have := k2.size
          rcases f3 j hj with h | h
          · exact f1 j h
          · omega
        by_cases hff : num ((l.drop (8 * i)).take 8) = 255
        · refine ite_t (beqi (by omega)) (nw_i fun H4 b4 k4 z4' => ?_)
          refine apS_list (ys := [0]) (o3.ch (k4.ch (F := [])) (by simp)) cB_len cB_ones rfl (by omega) rfl (by simp; omega) (by omega) fun t5 H5 o5 c5 f5 => hJ _ _ ⟨?_, ?_, ?_⟩
          · rw [hstep, stuff_snoc, if_pos hff]
            rw [hff, List.append_assoc] at o5
            exact o5
          · exact (((k3.trans k4).ch (F := [])).trans c5 fun j hj => .inr (g3 j hj)).keep (by simp)
          · intro j hj
            have := k3.size
            have := k4.size
            rcases f5 j hj with h | h
            · exact g3 j h
            · omega
        · refine ite_f (beqf (by omega)) (hJ _ _ ⟨?_, k3, g3⟩)
          rw [hstep, stuff_snoc, if_neg hff]
          exact o3
  · refine ite_f (decf (by omega)) ⟨text l, ?_, ?_, h _ k1⟩
    · rw [List.take_of_length_le (by rw [octs_len]; omega)] at o1
      rw [text, bytesOf_size, o1.count cB_len (by omega)]
    · rw [List.take_of_length_le (by rw [octs_len]; omega)] at o1
      rw [text, bytesOf_cells (stuff_byte (octs_byte l))]
      exact o1.read (fm_ones cB_ones _)
end Go.Proofs.Ytbefacccdaafeaa.G
