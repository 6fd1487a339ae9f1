/- Layer 4: New of the document. -/
import Derived.Test.YtbefacccdaafeaaZ04f
namespace Go.Proofs.Ytbefacccdaafeaa.G
open Go.RowKit
set_option linter.unusedVariables false
set_option linter.unusedSimpArgs false

/-- The document's table while it is made: so many values are there. -/
structure Rtw (H0 H : Hp) (r : Nat) (sv sc : Sl) (c : Cn) (vs : List Nat) (m : Nat) : Prop where
  bk : Bk H r 82 (c82 sv sc)
  ov : Own H 5 1 sv ((vs.take m).flatMap cB)
  oc : Own H 9 1 sc (((cds (cnt c) 16).take m).flatMap cW)
  ne : r ∉ fp sv ∧ r ∉ fp sc
  dj : ∀ b ∈ fp sv, b ∉ fp sc
  kp : Keep H0 H
  lo : ∀ b ∈ r :: (fp sv ++ fp sc), H0.size ≤ b
section
variable {c : Cn} {s : Sl} {vs : List Nat} {H : Hp}
theorem rNew_ok4 {Q : Option Addr × Int → Hp → Prop} (hc : cOk c) (hs : SlV H s 1 cB vs) (hl : vs.length ≤ 140737488355328)
    (h0 : Chk4 c vs ≠ 0 → ∀ H', Keep H H' → Q (none, Chk4 c vs) H')
    (h1 : Chk4 c vs = 0 → ∀ r sv sc H', Rtb H' r sv sc c vs → Keep H H' → (∀ b ∈ r :: (fp sv ++ fp sc), H.size ≤ b) → Q (some ⟨r, 0, none⟩, 0) H') : mosaicref04_New.s c s H Q := by
  unfold mosaicref04_New.s
  intro b1 H2 c2 g1 g1'
  have k2 : Keep H H2 := c2.keep (by simp)
  refine rCheck_ok hc (hs.keep k2) hl fun H4 k4 => ⟨Pv.keep k4 (by simpa using g1'), ?_⟩
  by_cases hz : Chk4 c vs = 0
  rotate_left
  · exact ite_t (bnet hz) (h0 hz _ (k2.trans k4))
  have hm := may4 hz
  refine ite_f (bnei hz) ?_
  have k24 := k2.trans k4
  have y24 := k24.size
  intro b6 H7 c7 g6 g6' hbk
  have k7 : Keep H4 H7 := c7.keep (by simp)
  have kA := k24.trans k7
  have hp1 : ∀ j ∈ [b1], j < H4.size ∧ j < b6 := fun j hj => by
    have := k4.size
    simp at hj
    omega
  have hplen := hm.len
  have hmost := hm.most
  refine Fix.intro (fun (x : ByteArray × Int × Int) H' => ∃ (i n v : Nat) (sv sc : Sl), x = (tx (bl n v), (plq (cnt c) i : Int), ((i + 1 : Nat) : Int)) ∧ i ≤ 16 ∧ n ≤ i + 1 ∧ (plq (cnt c) i = 0 → n = 0 ∧ fcq (cnt c) i = 0) ∧ (0 < plq (cnt c) i → v + 1 < 2 ^ n ∧ (v + 1) * 2 ^ (i + 1 - n) = fcq (cnt c) i) ∧ Rtw H H' b6 sv sc c vs (plq (cnt c) i) ∧ Keep H4 H' ∧ ∀ b ∈ b6 :: (fp sv ++ fp sc), H4.size ≤ b) (fun x _ => 17 - x.2.2.toNat)
    ⟨0, 0, 0, ⟨none, 0, 0⟩, ⟨none, 0, 0⟩, by rw [plq]; rfl, by omega, by omega, fun _ => ⟨rfl, by rw [fcq]⟩, fun h => by simp [plq] at h, ⟨hbk, by rw [plq]; exact Own.nil _ _ _, by rw [plq]; exact Own.nil _ _ _, by simp [fp], by simp [fp], kA, by simp [fp]; omega⟩, k7, by simp [fp]; omega⟩ ?_
  rintro _ H11 ⟨i, n, v, sv, sc, rfl, hi, hn, hz1, hz2, R11, k11, l11⟩ rec hrec
  simp only
  by_cases h16 : i < 16
  rotate_left
  · obtain rfl : i = 16 := by omega
    refine ite_f (decf (by omega)) (h1 hz b6 sv sc H11 ⟨R11.bk, ?_, ?_, R11.ne⟩ R11.kp R11.lo)
    · have := R11.ov
      rwa [List.take_of_length_le (by omega)] at this
    · have := R11.oc
      rwa [List.take_of_length_le (by rw [cds_len]; exact Nat.le_refl _)] at this
  obtain ⟨e1, e2⟩ := cnt_ok hc i
  have hfit := hm.fit i h16
  have hfit' := pow_lt (show i + 1 ≤ 16 by omega)
  have p16 : (2 : Nat) ^ 16 = 65536 := rfl
  have hplf := plq_far (q := cnt c) h16
  have e4 : IntKind.wrap .i64 (((i + 1 : Nat) : Int) - 1) = (i : Int) := by rw [show ((i + 1 : Nat) : Int) - 1 = (i : Int) from by omega, w64n (by omega)]
  rw [e4, e1, w64n (x := cnt c i) (by omega)]
  refine ite_t (dect (by omega)) ?_
  refine Fix.intro (fun (x : ByteArray × Int × Int) H' => ∃ (k n v : Nat) (sv sc : Sl), x = (tx (bl n v), ((plq (cnt c) i + k : Nat) : Int), (k : Int)) ∧ k ≤ cnt c i ∧ n ≤ i + 1 ∧ (plq (cnt c) i + k = 0 → n = 0 ∧ fcq (cnt c) i + k = 0) ∧ (0 < plq (cnt c) i + k → v + 1 < 2 ^ n ∧ (v + 1) * 2 ^ (i + 1 - n) = fcq (cnt c) i + k) ∧ Rtw H H' b6 sv sc c vs (plq (cnt c) i + k) ∧ Keep H4 H' ∧ ∀ b ∈ b6 :: (fp sv ++ fp sc), H4.size ≤ b) (fun x _ => cnt c i - x.2.2.toNat)
    ⟨0, n, v, sv, sc, rfl, by omega, hn, hz1, hz2, R11, k11, l11⟩ ?_
  clear hn hz1 hz2 R11 k11 l11
  rintro _ H17 ⟨k, n, v, sv, sc, rfl, hk, hn, hz1, hz2, R17, k17, l17⟩ rec2 hrec2
  simp only
  refine ⟨by omega, by omega, ?_⟩
  by_cases hkq : k < cnt c i
  rotate_left
  · obtain rfl : k = cnt c i := by omega
    refine ite_f (decf (by omega)) ?_
    rw [show ((i + 1 : Nat) : Int) + 1 = ((i + 1 + 1 : Nat) : Int) from by omega, w64n (by omega)]
    have ep : plq (cnt c) (i + 1) = plq (cnt c) i + cnt c i := by rw [plq]
    refine hrec _ _ ⟨i + 1, n, v, sv, sc, by rw [ep], by omega, by omega, fun h => ?_, fun h => ?_, by rw [ep]; exact R17, k17, l17⟩ (by simp; omega)
    all_goals rw [ep] at h
    · obtain ⟨g1, g2⟩ := hz1 h
      exact ⟨g1, by rw [fcq]; omega⟩
    · obtain ⟨g1, g2⟩ := hz2 h
      refine ⟨g1, ?_⟩
      rw [fcq, ← g2, show i + 1 + 1 - n = (i + 1 - n) + 1 from by omega, Nat.pow_succ, ← Nat.mul_assoc]
      omega
  refine ite_t (dect (by omega)) ?_
  have hat : plq (cnt c) i + k < vs.length := by omega
  -- the next code, as long as the last one
  refine Join.intro (fun (x : ByteArray) H' => ∃ m w, x = tx (bl m w) ∧ m ≤ i + 1 ∧ w * 2 ^ (i + 1 - m) = fcq (cnt c) i + k ∧ H17 = H') ?_ ?_
  rotate_left
  · intro J hJ
    by_cases h0 : plq (cnt c) i + k = 0
    · obtain ⟨g1, g2⟩ := hz1 h0
      subst g1
      exact ite_f (decf (by omega)) (hJ _ _ ⟨0, 0, rfl, by omega, by omega, rfl⟩)
    · obtain ⟨g1, g2⟩ := hz2 (by omega)
      exact ite_t (dect (by omega)) (More_ok (by omega) g1 ⟨fun _ _ => rfl, hJ _ _ ⟨n, v + 1, rfl, hn, g2, rfl⟩⟩)
  rintro _ _ ⟨m, w, rfl, hmi, hw, rfl⟩
  refine Fix.intro (fun (x : ByteArray) H' => ∃ j : Nat, x = tx (bl m w ++ List.replicate j false) ∧ m + j ≤ i + 1 ∧ H17 = H') (fun x _ => i + 1 - x.size) ⟨0, by simp, by omega, rfl⟩ ?_
  rintro _ _ ⟨j, rfl, hj, rfl⟩ rec3 hrec3
  have hsz : (tx (bl m w ++ List.replicate j false)).size = m + j := by rw [tx_size]; simp [bl_len]
  rw [hsz]
  by_cases hji : m + j < i + 1
  · refine ite_t (dect (by omega)) ⟨by rw [tx_0, tx_size]; simp; omega, hrec3 _ _ ⟨j + 1, ?_, by omega, rfl⟩ ?_⟩
    · rw [tx_0, tx_app, List.append_assoc, ← List.replicate_succ']
    · rw [tx_0, tx_app, tx_size, hsz]; simp [bl_len]; omega
  have ecode : bl m w ++ List.replicate j false = bl (i + 1) (fcq (cnt c) i + k) := by
    rw [show j = i + 1 - m from by omega, bl_pad hmi, hw]
  rw [ecode]
  refine ite_f (decf (by omega)) (ldL_i R17.bk rfl ⟨by omega, by have := hs.n; omega, ?_⟩)
  obtain ⟨b, o, ha, hA⟩ := (hs.keep R17.kp).get (List.getElem?_eq_getElem hat)
  refine ⟨_, ha, ?_⟩
  rw [Int.toNat_natCast]
  refine ldI_of0 hA rfl (nw_i fun H43 b43 k43 z43 => ⟨Pv.keep k43 (by have := hp1; have := k17.size; intro b hb; have := hp1 b hb; omega), ?_, ?_⟩)
  · have := (R17.bk.keep k43).cell 0
    exact this
  have y17 := k17.size
  have y43 := k43.size
  have hget := cds_get (q := cnt c) hkq h16
  have hcl : plq (cnt c) i + k < (cds (cnt c) 16).length := (List.getElem?_eq_some_iff.1 hget).1
  have tv := take_snoc hat
  have tc : (cds (cnt c) 16).take (plq (cnt c) i + k + 1) = (cds (cnt c) 16).take (plq (cnt c) i + k) ++ [(i + 1, fcq (cnt c) i + k)] := by
    have : ∀ {α : Type} {l : List α} {i : Nat} (h : i < l.length), l.take (i + 1) = l.take i ++ [l[i]] := fun h => by rw [List.take_add_one, List.getElem?_eq_getElem h]; rfl
    rw [this hcl, (List.getElem?_eq_some_iff.1 hget).2]
  refine apS_list (ys := [vs[plq (cnt c) i + k]]) (R17.ov.ch (k43.ch (F := [])) (by simp)) cB_len cB_ones rfl (by omega) rfl (by simp; omega) (by omega) fun sv' H50 o50 c50 f50 => ⟨Pv.ch c50 fun j hj => ⟨by have := hp1 j hj; omega, fun hh => by have := hp1 j hj; have := l17 j (by simp [hh]); omega⟩, ?_⟩
  have y50 := c50.size
  have hb6 := R17.bk.lt
  have b50 := (R17.bk.keep k43).ch c50 R17.ne.1
  have q43 := (R17.oc.ch (k43.ch (F := [])) (by simp))
  have q50 := q43.ch c50 fun b hb hb' => R17.dj b hb' hb
  have ne50 : b6 ∉ fp sv' := fun hh => by
    rcases f50 b6 hh with h | h
    · exact R17.ne.1 h
    · omega
  refine st_i b50 (by simp) fun H52 b52 s52 => ⟨fun j hj => s52.block j (by have := hp1 j hj; omega), ?_⟩
  refine ldL_i b52 rfl (nw_i fun H57 b57 k57 z57 => ⟨Pv.keep k57 fun j hj => by have := hp1 j hj; have := s52.size; omega, ?_⟩)
  have y52 := s52.size
  have y57 := k57.size
  have q57 := (q50.ch s52.ch (ni R17.ne.2)).ch (k57.ch (F := [])) (by simp)
  have hlt := fun b hb => R17.oc.fp_lt b hb
  refine apS_list (ys := [(i + 1, fcq (cnt c) i + k)]) q57 cW_len cW_ones rfl (by omega) rfl (by simp; omega) (by omega) fun sc' H63 o63 c63 f63 => ⟨Pv.ch c63 fun j hj => ⟨by have := hp1 j hj; omega, fun hh => by have := hp1 j hj; have := l17 j (by simp [hh]); omega⟩, ?_⟩
  have y63 := c63.size
  have b63 := (b52.keep k57).ch c63 R17.ne.2
  have ov63 := ((o50.ch s52.ch (ni ne50)).ch (k57.ch (F := [])) (by simp)).ch c63 fun b hb hb' => by
    rcases f50 b hb with h | h
    · exact R17.dj b h hb'
    · have := hlt b hb'; omega
  have ne63 : b6 ∉ fp sc' := fun hh => by
    rcases f63 b6 hh with h | h
    · exact R17.ne.2 h
    · omega
  refine st_i b63 (by simp) fun H65 b65 s65 => ⟨fun j hj => s65.block j (by have := hp1 j hj; omega), ?_⟩
  have lo6 := R17.lo b6 (by simp)
  have lo6' := l17 b6 (by simp)
  have y0 := R17.kp.size
  have kH : ∀ {G : Hp} (hG : ∀ b ∈ b6 :: (fp sv ++ fp sc), G.size ≤ b) (kG : Keep G H17), Keep G H65 := fun {G} hG kG => by
    have c1 : Ch [] G H50 := ((kG.trans k43).ch (F := [])).trans c50 fun b hb => .inr (hG b (by simp [hb]))
    have c2 : Ch [] G H57 := ((c1.keep (by simp)).same s52 (hG b6 (by simp))).trans k57 |>.ch
    have c3 : Ch [] G H63 := c2.trans c63 fun b hb => .inr (hG b (by simp [hb]))
    exact (c3.keep (by simp)).same s65 (hG b6 (by simp))
  have lH : ∀ {G : Hp} (hG : ∀ b ∈ b6 :: (fp sv ++ fp sc), G.size ≤ b) (kG : Keep G H17), ∀ b ∈ b6 :: (fp sv' ++ fp sc'), G.size ≤ b := fun {G} hG kG b hb => by
    have := kG.size
    rcases List.mem_cons.1 hb with rfl | hb
    · exact hG _ (by simp)
    · rcases List.mem_append.1 hb with hb | hb
      · rcases f50 b hb with h | h
        · exact hG b (by simp [h])
        · omega
      · rcases f63 b hb with h | h
        · exact hG b (by simp [h])
        · omega
  rw [show ((plq (cnt c) i + k : Nat) : Int) + 1 = ((plq (cnt c) i + (k + 1) : Nat) : Int) from by omega, show (k : Int) + 1 = ((k + 1 : Nat) : Int) from by omega, w64n (by omega), w64n (by omega)]
  refine hrec2 _ _ ⟨k + 1, i + 1, fcq (cnt c) i + k, sv', sc', rfl, by omega, by omega, fun h => by omega, fun h => ⟨by omega, by rw [Nat.sub_self]; omega⟩, ⟨b65, ?_, ?_, ⟨ne50, ne63⟩, ?_, kH R17.lo R17.kp, lH R17.lo R17.kp⟩, kH l17 k17, lH l17 k17⟩ (by simp; omega)
  · rw [← Nat.add_assoc, tv]
    exact ov63.ch s65.ch (ni ne50)
  · rw [← Nat.add_assoc, tc]
    exact o63.ch s65.ch (ni ne63)
  · intro b hb hb'
    rcases f63 b hb' with h | h
    · rcases f50 b hb with h2 | h2
      · exact R17.dj b h2 h
      · have := hlt b h; omega
    · have := ov63.fp_lt b hb
      have := o50.fp_lt b hb
      omega
end
end Go.Proofs.Ytbefacccdaafeaa.G
