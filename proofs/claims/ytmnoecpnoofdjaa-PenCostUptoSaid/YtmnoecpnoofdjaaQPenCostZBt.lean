/- Of this text what the row needs. -/
import Derived.Test.YtmnoecpnoofdjaaQPenCostZB
namespace Go.Proofs.Ytmnoecpnoofdjaa.G
open Go.RowKit
set_option linter.unusedVariables false
set_option linter.unusedSimpArgs false
def bytesOf (l : List Nat) : ByteArray := ⟨(l.map UInt8.ofNat).toArray⟩
theorem bytesOf_size (l : List Nat) : (bytesOf l).size = l.length := by simp [bytesOf, ByteArray.size]
theorem fmB : ∀ l : List Nat, l.flatMap cB = l.map fun (b : Nat) => Value.int .u8 (b : Int)
  | [] => rfl
  | b :: l => by rw [List.flatMap_cons, List.map_cons, fmB l]; rfl
def stuff (l : List Nat) : List Nat := l.flatMap fun b => if b = 255 then [255, 0] else [b]
theorem stuff_snoc (l : List Nat) (b : Nat) : stuff (l ++ [b]) = stuff l ++ (if b = 255 then [255, 0] else [b]) := by simp [stuff]
theorem stuff_len : ∀ l : List Nat, (stuff l).length ≤ 2 * l.length
  | [] => by simp [stuff]
  | b :: l => by
    have := stuff_len l
    unfold stuff at *
    rw [List.flatMap_cons, List.length_append]
    have h2 : (if b = 255 then [255, 0] else [b]).length ≤ 2 := by split <;> simp
    simp only [List.length_cons]
    omega
def octs (l : List Bool) : List Nat := (List.range (l.length / 8)).map fun i => num ((l.drop (8 * i)).take 8)
theorem octs_drop (r : List Bool) : ∀ (bs : List Nat) (i b : Nat), bs[i]? = some b → ((bs.flatMap (bl 8) ++ r).drop (8 * i)).take 8 = bl 8 b
  | [], i, b, h => by simp at h
  | c :: bs, 0, b, h => by
    simp at h
    subst h
    rw [List.flatMap_cons, List.append_assoc, Nat.mul_zero, List.drop_zero, List.take_append_of_le_length (by rw [bl_len]; omega), List.take_of_length_le (by rw [bl_len]; omega)]
  | c :: bs, i + 1, b, h => by
    rw [List.flatMap_cons, List.append_assoc, List.drop_append, List.drop_eq_nil_of_le (by rw [bl_len]; omega), List.nil_append, bl_len, show 8 * (i + 1) - 8 = 8 * i from by omega]
    exact octs_drop r bs i b (by simpa using h)
theorem octs_eq {bs : List Nat} {n v : Nat} (hb : ∀ b ∈ bs, b < 256) (hn : n < 8) : octs (bs.flatMap (bl 8) ++ bl n v) = bs := by
  have hl : (bs.flatMap (bl 8) ++ bl n v).length / 8 = bs.length := by rw [List.length_append, fm8, bl_len]; omega
  unfold octs
  rw [hl]
  refine List.ext_getElem (by simp) fun i h1 h2 => ?_
  rw [List.getElem_map, List.getElem_range, octs_drop _ bs i _ (List.getElem?_eq_getElem h2), num_bl]
  exact Nat.mod_eq_of_lt (hb _ (List.getElem_mem h2))
def text (l : List Bool) : ByteArray := bytesOf (stuff (octs l))
structure Bld (H : Hp) (b : Nat) (s : Sl) (ys : List Nat) : Prop where
  bk : ∃ a, (a = none ∨ a = some (⟨b, 0, none⟩ : Addr)) ∧ Bk H b 117 (c117 a s)
  own : Own H 5 1 s (ys.flatMap cB)
  ne : b ∉ fp s
  nz : s.a = none ∨ 0 < s.n
  byte : ∀ y ∈ ys, y < 256
theorem Bld.ch {H H' : Hp} {b : Nat} {s : Sl} {ys : List Nat} {F : List Nat} (h : Bld H b s ys) (c : Ch F H H') (hF : ∀ i ∈ b :: fp s, i ∉ F) : Bld H' b s ys := by
  obtain ⟨⟨a, ha, hb⟩, o, ne, nz, by_⟩ := h
  exact ⟨⟨a, ha, hb.ch c (hF b (by simp))⟩, o.ch c fun i hi => hF i (by simp [hi]), ne, nz, by_⟩
theorem Bld.lts {H : Hp} {b : Nat} {s : Sl} {ys : List Nat} (h : Bld H b s ys) : ∀ i ∈ b :: fp s, i < H.size := by
  intro i hi
  rcases List.mem_cons.1 hi with rfl | hi
  · obtain ⟨a, _, hb⟩ := h.bk
    exact hb.lt
  · exact h.own.fp_lt i hi
theorem copyCheck_ok {H : Hp} {b : Nat} {s : Sl} {ys : List Nat} {Q : Unit → Hp → Prop} (h : Bld H b s ys) (k : ∀ H', Bld H' b s ys → Same H H' b → Q () H') : strings_Builder_copyCheck.s (some ⟨b, 0, none⟩) H Q := by
  obtain ⟨⟨a, ha, hb⟩, o, ne, nz, by_⟩ := h
  unfold strings_Builder_copyCheck.s
  refine ⟨_, rfl, ldP_a hb rfl ?_⟩
  rcases ha with rfl | rfl
  · have hx : boxAt H ⟨b, 0, none⟩ 117 2 := ⟨rfl, rfl, _, _, hb, rfl⟩
    refine ite_t rfl ⟨hx, hx, st_a hb (by simp) fun H1 b1 s1 => k H1 ⟨⟨_, .inr rfl, b1⟩, o.ch s1.ch (ni ne), ne, nz, by_⟩ s1⟩
  · exact ite_f rfl (ldP_a hb rfl ⟨rfl, k H ⟨⟨_, .inr rfl, hb⟩, o, ne, nz, by_⟩ (Same.refl _ _)⟩)
theorem WriteByte_ok {H : Hp} {b : Nat} {s : Sl} {ys : List Nat} {y : Nat} {Q : Value → Hp → Prop} (h : Bld H b s ys) (hy : y < 256) (hl : ys.length + 1 ≤ 140737488355328)
    (k : ∀ s' H', Bld H' b s' (ys ++ [y]) → Ch (b :: fp s) H H' → (∀ i ∈ fp s', i ∈ fp s ∨ H.size ≤ i) → Q .nilIface H') : strings_Builder_WriteByte.s (some ⟨b, 0, none⟩) (y : Int) H Q := by
  unfold strings_Builder_WriteByte.s
  refine copyCheck_ok h fun H1 h1 s1 => ⟨_, rfl, ?_⟩
  obtain ⟨⟨a, ha, hb⟩, o, ne, nz, by_⟩ := h1
  have hz := hb.lt
  refine ldL_a hb rfl (nw_i fun H2 b2 k2 z2 => ?_)
  refine apS_list (ys := [y]) (o.ch (k2.ch (F := [])) (by simp)) cB_len cB_ones rfl (by omega) rfl (by simp; omega) (by omega) fun s3 H3 o3 c3 f3 => ?_
  have n3 := o3.count cB_len (by omega)
  have b3 := (hb.keep k2).ch c3 ne
  have ne3 : b ∉ fp s3 := fun hh => by
    rcases f3 b hh with hh | hh
    · exact ne hh
    · omega
  refine st_a b3 (by simp) fun H4 b4 s4 => k s3 H4 ⟨⟨a, ha, b4⟩, o3.ch s4.ch (ni ne3), ne3, .inr (by simp at n3; omega), ?_⟩ ?_ ?_
  · intro x hx
    rcases List.mem_append.1 hx with hx | hx
    · exact by_ x hx
    · simp at hx; omega
  · have c2 : Ch (b :: fp s) H H2 := (s1.ch.mono (by simp)).trans (k2.ch (F := [])) (by simp)
    exact (c2.trans c3 fun i hi => .inl (by simp [hi])).trans s4.ch (by simp)
  · intro i hi
    have := s1.size
    rcases f3 i hi with hh | hh
    · exact .inl hh
    · exact .inr (by omega)
theorem String_ok {H : Hp} {b : Nat} {s : Sl} {ys : List Nat} {Q : ByteArray → Hp → Prop} (h : Bld H b s ys) (hl : ys.length ≤ 140737488355328) (k : ∀ H', Ch (fp s) H H' → Q (bytesOf ys) H') : strings_Builder_String.s (some ⟨b, 0, none⟩) H Q := by
  obtain ⟨⟨a, ha, hb⟩, o, ne, nz, by_⟩ := h
  unfold strings_Builder_String.s
  have hn := o.count cB_len (by omega)
  refine ⟨_, rfl, ldL_a hb rfl ⟨?_, ldL_a hb rfl ?_⟩⟩
  · rcases nz with h | h
    · exact .inl h
    · refine .inr ?_
      rcases o with ⟨rfl, _⟩ | ⟨_, _, _, _, _, _, h3⟩
      · simp at h
      · omega
  · cases ys with
    | nil =>
      refine .inl ⟨by simp [hn], k H (Ch.refl _ _)⟩
    | cons y0 yr =>
      rcases o with ⟨rfl, h2⟩ | ⟨g, sp, hg, hbk, h1, h2, h3⟩
      · simp at h2
      · refine .inr ⟨g, _, ((y0 :: yr).map UInt8.ofNat), hg, by simp, by simp [hn], hbk, ?_, ?_, ?_, ?_⟩
        · rw [fmB]; simp
        · simp at hl ⊢; omega
        · intro j x hx
          rw [List.getElem?_map] at hx
          cases hj : (y0 :: yr)[j]? with
          | none => rw [hj] at hx; simp at hx
          | some y =>
            rw [hj] at hx
            simp at hx
            subst hx
            have hjl := (List.getElem?_eq_some_iff.1 hj).1
            have hy : y < 256 := by_ y (List.mem_of_getElem? hj)
            rw [List.getElem?_toArray, fmB, List.getElem?_append_left (by simpa using hjl), List.getElem?_map, hj]
            simp [UInt8.toNat_ofNat']
            omega
        · rintro H' ⟨hz, hk⟩
          refine k H' ⟨by omega, fun i hi hF => hk i fun e => hF ?_⟩
          simp [fp, hg, e]
theorem Pad_ok {H : Hp} {k : Nat} {s : Sl} {l : List Bool} {Q : Unit → Hp → Prop} (hs : Snk H k s l) (hl : l.length ≤ 562949953420000)
    (h : ∀ s' H', Snk H' k s' (l ++ List.replicate ((8 - l.length % 8) % 8) true) → Ch (k :: fp s) H H' → (∀ b ∈ fp s', b ∈ fp s ∨ H.size ≤ b) → Q () H') : bits_Sink_Pad.s (some ⟨k, 0, none⟩) H Q := by
  have hs0 := hs
  obtain ⟨bs, v, n, R, hn, rfl⟩ := hs
  unfold bits_Sink_Pad.s
  have e : (bs.flatMap (bl 8) ++ bl n v).length % 8 = n := by rw [List.length_append, fm8, bl_len]; omega
  rw [e] at h
  refine ⟨_, rfl, ldI_a R.bk rfl ?_⟩
  by_cases h0 : n = 0
  · subst h0
    exact ite_f (decf (by omega)) (h s H (by simpa using hs0) (Ch.refl _ _) fun b hb => .inl hb)
  · refine ite_t (dect (by omega)) (ldI_a R.bk rfl ?_)
    rw [show (8 : Int) - (n : Int) = ((8 - n : Nat) : Int) from by omega, w64n (by omega)]
    refine Put_ok hs0 hl (by omega) fun _ _ s' H' hs' c f => h s' H' ?_ c f
    have e2 : bl (8 - n) (low (-1) (8 - n)) = List.replicate ((8 - n) % 8) true := by
      have : ∀ m : Fin 8, m.val ≠ 0 → bl (8 - m.val) (low (-1) (8 - m.val)) = List.replicate ((8 - m.val) % 8) true := by decide
      exact this ⟨n, hn⟩ h0
    rw [Int.toNat_natCast, e2] at hs'
    exact hs'
theorem Text_ok {H : Hp} {k : Nat} {s : Sl} {l : List Bool} {Q : ByteArray → Hp → Prop} (hs : Snk H k s l) (hl : l.length ≤ 562949953421312) (h : ∀ H', Keep H H' → Q (text l) H') : bits_Sink_Text.s (some ⟨k, 0, none⟩) H Q := by
  obtain ⟨bs, v, n, R, hn, rfl⟩ := hs
  unfold text at h
  rw [octs_eq R.byte hn] at h
  rw [List.length_append, fm8, bl_len] at hl
  have hc := R.count
  unfold bits_Sink_Text.s
  intro b1 H2 c2 hb1 hb1' 
  have k2 : Keep H H2 := c2.keep (by simp)
  have R2 := R.ch (k2.ch (F := [])) (by simp)
  refine ⟨_, rfl, ldL_a R2.bk rfl fun hbk => ?_⟩
  refine Fix.intro (fun (x : Int) H' => ∃ (i : Nat) (t : Sl), x = (i : Int) ∧ i ≤ bs.length ∧ Bld H' b1 t (stuff (bs.take i)) ∧ Keep H H' ∧ ∀ j ∈ fp t, H.size ≤ j) (fun x _ => bs.length - x.toNat)
    ⟨0, ⟨none, 0, 0⟩, rfl, by omega, ⟨⟨none, .inl rfl, hbk⟩, Own.nil _ _ _, by simp [fp], .inl rfl, by simp [stuff]⟩, k2, by simp [fp]⟩ ?_
  rintro _ H3 ⟨i, t, rfl, hi, B3, k3, f3⟩ rec hrec
  by_cases hib : i < bs.length
  · obtain ⟨hx, hge⟩ : ∃ hx, bs[i]'hx < 256 := ⟨hib, R.byte _ (List.getElem_mem hib)⟩
    refine ite_t (dect (by omega)) (Join.intro (fun _ H' => ∃ t', Bld H' b1 t' (stuff (bs.take (i + 1))) ∧ Keep H H' ∧ ∀ j ∈ fp t', H.size ≤ j) ?_ ?_)
    · rintro ⟨⟩ H4 ⟨t', B4, k4, f4⟩
      rw [show (i : Int) + 1 = ((i + 1 : Nat) : Int) from by omega, w64n (by omega)]
      exact hrec _ _ ⟨i + 1, t', rfl, by omega, B4, k4, f4⟩ (by simp; omega)
    · intro J hJ
      have R3 := R.ch (k3.ch (F := [])) (by simp)
      obtain ⟨b, ha, hA⟩ := R3.own.at cB_len (by omega) (List.getElem?_eq_getElem hib)
      have hst : (stuff (bs.take i)).length ≤ 2 * i := by
        have := stuff_len (bs.take i)
        simp at this
        omega
      have ht : bs.take (i + 1) = bs.take i ++ [bs[i]] := by rw [List.take_add_one, List.getElem?_eq_getElem hib]; rfl
      refine ⟨by omega, by omega, _, ha, ldI_of0 (by simpa using hA) rfl ?_⟩
      refine WriteByte_ok B3 hge (by omega) fun t4 H4 B4 c4 f4 => ?_
      have k4 : Keep H H4 := (k3.ch (F := [])).trans c4 (fun j hj => by
        rcases List.mem_cons.1 hj with rfl | hj
        · exact .inr hb1
        · exact .inr (f3 j hj)) |>.keep (by simp)
      have g4 : ∀ j ∈ fp t4, H.size ≤ j := fun j hj => by
        have := k3.size
        rcases f4 j hj with h | h
        · exact f3 j h
        · omega
      by_cases hff : bs[i] = 255
      · refine ite_t (beqi (by omega)) (WriteByte_ok (y := 0) B4 (by omega) (by simp; omega) fun t5 H5 B5 c5 f5 => hJ _ _ ⟨t5, ?_, ?_, ?_⟩)
        · rw [ht, stuff_snoc, if_pos hff]
          rw [hff] at B5
          simpa using B5
        · exact (k4.ch (F := [])).trans c5 (fun j hj => by
            rcases List.mem_cons.1 hj with rfl | hj
            · exact .inr hb1
            · exact .inr (g4 j hj)) |>.keep (by simp)
        · intro j hj
          have := k4.size
          rcases f5 j hj with h | h
          · exact g4 j h
          · omega
      · refine ite_f (beqf (by omega)) (hJ _ _ ⟨t4, ?_, k4, g4⟩)
        rw [ht, stuff_snoc, if_neg hff]
        exact B4
  · refine ite_f (decf (by omega)) ?_
    rw [List.take_of_length_le (by omega)] at B3
    have := stuff_len bs
    refine String_ok B3 (by omega) fun H4 c4 => h H4 ((k3.ch (F := [])).trans c4 (fun j hj => .inr (f3 j hj)) |>.keep (by simp))
end Go.Proofs.Ytmnoecpnoofdjaa.G
