/- Layer 4: HuffBack. -/
import Derived.Test.YtbefacccdaafeaaZ04u
import Derived.Test.YtbefacccdaafeaaZX
import Derived.Test.YtbefacccdaafeaaKHuffBack
namespace Go.Proofs.Ytbefacccdaafeaa.G
open Go.RowKit
set_option linter.unusedVariables false
set_option linter.unusedSimpArgs false
set_option maxRecDepth 20000

theorem Own.kp4 {H H' : Hp} {T : TypeId} {sz : Nat} {s : Sl} {cs : List Value} (h : Own H T sz s cs) (k : Keep H H') : Own H' T sz s cs := h.ch (k.ch (F := [])) (by simp)
abbrev cI (v : Int) : List Value := [.int .i64 v]
theorem ints_view {H : Hp} {m : Option Nat} {s : Sl} (h : SlH H m 8 1 (X3 m H) s) : ∃ xs : List Int, SlV H s 1 cI xs ∧ (∀ v ∈ xs, -9223372036854775808 ≤ v ∧ v ≤ 9223372036854775807) ∧ (s.c = 0 ∨ szL m 8 s.c) := by
  obtain ⟨xs, h1, h2, h3⟩ := h.view (f := cI) (B := fun v => -9223372036854775808 ≤ v ∧ v ≤ 9223372036854775807) fun cs ⟨a, e, hb⟩ => ⟨a, by rw [e], hb⟩
  exact ⟨xs, h1, h2, h3⟩
/-- A value's code as bits; the codes of values. -/
def codB (c : Cn) (vs : List Nat) (w : Nat) : List Bool := bl (lkp (prs c vs) w).1 (lkp (prs c vs) w).2
def codsB (c : Cn) (vs ws : List Nat) : List Bool := ws.flatMap (codB c vs)
section
variable {c : Cn} {vs : List Nat}
theorem codB_len (w : Nat) : (codB c vs w).length = (lkp (prs c vs) w).1 := bl_len _ _
theorem codsB_snoc (ws : List Nat) (w : Nat) : codsB c vs (ws ++ [w]) = codsB c vs ws ++ codB c vs w := by simp [codsB]
theorem codsB_len (hm : May4 c vs) : ∀ ws : List Nat, (codsB c vs ws).length ≤ 16 * ws.length
  | [] => by simp [codsB]
  | w :: ws => by
    have := codsB_len hm ws
    have h1 := (lkp_fit hm w).1
    unfold codsB at *
    rw [List.flatMap_cons, List.length_append, codB_len, List.length_cons]
    omega
/-- What begins with a value's code is read as the value. -/
theorem rd4_cod (hm : May4 c vs) {w : Nat} (hw : w ∈ vs) {B r : List Bool} (hB : B = (codB c vs w ++ r).take 16) : rd4 c vs B = (w, 0, (lkp (prs c vs) w).1) := by
  obtain ⟨i, hi⟩ := List.mem_iff_getElem?.1 hw
  have hil := (List.getElem?_eq_some_iff.1 hi).1
  obtain ⟨⟨n, v⟩, hg⟩ : ∃ x, (cds (cnt c) 16)[i]? = some x := ⟨_, List.getElem?_eq_getElem (show i < (cds (cnt c) 16).length by rw [cds_len, hm.len]; exact hil)⟩
  have hl := lkp_at (P := prs c vs) (by rw [prs_keys hm]; exact hm.nodup) (prs_get hi hg)
  obtain ⟨f1, f2, f3⟩ := cds_fit hm.fit hg
  rw [hl]
  refine rd4_hit hm (i := i) (n := n) (v := v) ⟨hg, ?_, ?_⟩ hi
  · rw [hB]
    unfold codB
    rw [hl, List.length_take, List.length_append, bl_len]
    omega
  · rw [hB, List.take_take, Nat.min_eq_left f2]
    unfold codB
    rw [hl, List.take_append_of_le_length (by rw [bl_len]; exact Nat.le_refl _), List.take_of_length_le (by rw [bl_len]; exact Nat.le_refl _)]
end
theorem clip17 {x : Int} {H : Hp} {J : Int → Hp → Prop} (h : ∀ n : Nat, n ≤ 16 → J (n : Int) H) : if decide ((Int.tmod x 17) < 0) = true then (J ((IntKind.wrap .i64 ((Int.tmod x 17) + 17))) H) else (J ((Int.tmod x 17)) H) := by
  have hb : -17 < Int.tmod x 17 ∧ Int.tmod x 17 < 17 := by
    constructor
    · rcases Int.lt_or_le x 0 with hn | hn
      · have e : Int.tmod x 17 = - Int.tmod (-x) 17 := by rw [Int.neg_tmod]; omega
        have := Int.tmod_lt_of_pos (-x) (show (0 : Int) < 17 by omega)
        omega
      · have := Int.tmod_nonneg 17 hn
        omega
    · exact Int.tmod_lt_of_pos _ (by omega)
  by_cases h0 : Int.tmod x 17 < 0
  · refine ite_t (dect h0) ?_
    rw [w64 (by omega), show Int.tmod x 17 + 17 = ((Int.tmod x 17 + 17).toNat : Int) from by omega]
    exact h _ (by omega)
  · refine ite_f (decf h0) ?_
    rw [show Int.tmod x 17 = ((Int.tmod x 17).toNat : Int) from by omega]
    exact h _ (by omega)
theorem tmodN {x : Int} {n : Nat} (hn : 0 < n) : -(n : Int) < Int.tmod x n ∧ Int.tmod x n < n := by
  constructor
  · rcases Int.lt_or_le x 0 with h | h
    · have e : Int.tmod x n = - Int.tmod (-x) n := by rw [Int.neg_tmod]; omega
      have := Int.tmod_lt_of_pos (-x) (show (0 : Int) < n by omega)
      omega
    · have := Int.tmod_nonneg (n : Int) h
      omega
  · exact Int.tmod_lt_of_pos _ (by omega)
set_option maxHeartbeats 1000000 in
theorem HuffBack_row (c : Cn) (s : Sl) (a1 : Sl) (a2 : Int) (a3 : Sl) (W : World) (hc : ∀ v ∈ c.1, 0 ≤ v ∧ v ≤ 255) (hs : SlH W.heap none 1 1 (X5 none W.heap) s) (h1 : SlH W.heap none 8 1 (X3 none W.heap) a1) (h2 : -9223372036854775808 ≤ a2 ∧ a2 ≤ 9223372036854775807) (h3 : SlH W.heap none 8 1 (X3 none W.heap) a3) :
    mosaiclaw04_HuffBack.s c s a1 a2 a3 W.heap (fun r H' => r = true ∧ Keep W.heap H') := by
  obtain ⟨vs, v0, hv, z0⟩ := bytes_view hs
  obtain ⟨xs, x0, hx, z1⟩ := ints_view h1
  obtain ⟨zs, y0, hz, z3⟩ := ints_view h3
  have n0 := v0.n
  have n1 := x0.n
  have n3 := y0.n
  have c0 := v0.c
  have c1 := x0.c
  have c3 := y0.c
  have hl : vs.length ≤ 140737488351232 := by
    rcases z0 with z | z
    · omega
    · have : s.c * 1 ≤ 140737488351232 := z
      omega
  have hl1 : xs.length * 8 ≤ 140737488351232 := by
    rcases z1 with z | z
    · omega
    · have : a1.c * 8 ≤ 140737488351232 := z
      omega
  have hl3 : zs.length * 8 ≤ 140737488351232 := by
    rcases z3 with z | z
    · omega
    · have : a3.c * 8 ≤ 140737488351232 := z
      omega
  unfold mosaiclaw04_HuffBack.s
  intro b1 H2 c2 g1 g1'
  have k2 : Keep W.heap H2 := c2.keep (by simp)
  refine alive_ok4 fun H4 k4 => ⟨Pv.keep k4 (by simp; omega), twin_ok (v0.keep (k2.trans k4)) (by omega) fun full m H7 T7 k7 q7 => ⟨Pv.keep k7 (by have := k4.size; simp; omega), ?_⟩⟩
  have y2 := k2.size
  have y4 := k4.size
  have y7 := k7.size
  refine New_x4 hc T7.view hv (by omega) fun p H10 P10 k10 => ⟨Pv.keep k10 (by simp; omega), ?_⟩
  have y10 := k10.size
  have kA : Keep W.heap H10 := ((k2.trans k4).trans k7).trans k10
  rcases P10 with ⟨hzz, t, tv, rfl, T10, fT⟩ | ⟨hzz, rfl⟩
  rotate_left
  · exact ite_t (bnet hzz) ⟨rfl, kA⟩
  replace T10 : Tab H10 t tv c vs := T10
  have hm : May4 c vs := may4 hzz
  have lT := T10.lts
  have hpos := hm.pos
  refine ite_f (bnei rfl) (bits_New_ok fun k H13 S13 k13 g13 => ⟨Pv.keep k13 (by simp; omega), ?_⟩)
  have y13 := k13.size
  have e13 := S13.lts k (by simp)
  refine Join.intro (fun b H' => b = false ∧ H13 = H') ?_ fun J hJ => ite_f rfl (hJ _ _ ⟨rfl, rfl⟩)
  rintro _ _ ⟨rfl, rfl⟩
  refine ite_f rfl (Join.intro (fun x H' => (∃ n : Nat, x = (n : Int) ∧ n ≤ 16) ∧ H13 = H') ?_ fun J hJ => clip17 fun n hn => hJ _ _ ⟨⟨n, rfl, hn⟩, rfl⟩)
  rintro _ _ ⟨⟨n, rfl, hn⟩, rfl⟩
  refine Put_ok S13 (by simp) (by omega) fun _ _ sk H22 S22 c22 f22 => ⟨Pv.ch c22 (by simp [fp]; omega), ?_⟩
  have y22 := c22.size
  rw [Int.toNat_natCast, List.nil_append] at S22
  generalize hL0 : bl n (low 23130 n) = L0 at S22
  have hL0n : L0.length = n := by rw [← hL0, bl_len]
  have hF : ∀ b ∈ k :: fp sk, H10.size ≤ b := fun b hb => by
    rcases List.mem_cons.1 hb with rfl | hb
    · exact g13
    · rcases f22 b hb with h | h
      · simp [fp] at h
      · omega
  have k22 : Keep H10 H22 := (k13.ch (F := [])).trans c22 (fun b hb => .inr (by simp [fp] at hb; omega)) |>.keep (by simp)
  have hb1k : ∀ {A B : Hp} {G : List Nat}, Ch G A B → (∀ b ∈ G, H10.size ≤ b) → b1 < A.size → Pv [b1] A B := fun {A B G} cc hG hA => Pv.ch cc fun b hb => ⟨by simp at hb; omega, fun hh => by have := hG b hh; simp at hb; omega⟩
  refine Fix.intro (fun (x : Sl × Int × Int) H' => ∃ (i : Nat) (ws : List Nat) (sk : Sl), x.2.2 = (i : Int) ∧ i ≤ xs.length ∧ ws.length = i ∧ (∀ w ∈ ws, w ∈ vs) ∧ Snk H' k sk (L0 ++ codsB c vs ws) ∧ x.2.1 = ((L0 ++ codsB c vs ws).length : Int) ∧ Own H' 5 1 x.1 (ws.flatMap cB) ∧ (∀ b ∈ k :: fp sk, b ∉ fp x.1) ∧ (∀ b ∈ (k :: fp sk) ++ fp x.1, H10.size ≤ b) ∧ Keep H10 H') (fun x _ => xs.length - x.2.2.toNat)
    ⟨0, [], sk, rfl, by omega, rfl, by simp, by simpa [codsB] using S22, by simp [codsB, hL0n], Own.nil _ _ _, by simp [fp], fun b hb => hF b (by simpa [fp] using hb), k22⟩ ?_
  rintro ⟨vl, sum, i0⟩ H27 ⟨i, ws, sk2, q1, q2, q3, q4, S27, q5, o27, dj, fF, k27⟩ rec hrec
  simp only at q1 q5 o27 dj fF
  subst q1 q5
  simp only
  have cl := codsB_len hm ws
  have T27 := T10.keep k27
  have hlen : (L0 ++ codsB c vs ws).length ≤ 16 + 16 * xs.length := by rw [List.length_append]; omega
  have y27 := k27.size
  by_cases hil : i < xs.length
  · obtain ⟨x, hxi⟩ : ∃ x, xs[i]? = some x := ⟨_, List.getElem?_eq_getElem hil⟩
    have hxb := hx x (List.mem_of_getElem? hxi)
    obtain ⟨b, o, ha, hA⟩ := (x0.keep (kA.trans k27)).get hxi
    refine ite_t (dect (by omega)) ⟨by omega, by omega, _, ha, ?_⟩
    rw [Int.toNat_natCast]
    refine ldI_of0 hA rfl ⟨by omega, Join.intro (fun x H' => (∃ j : Nat, x = (j : Int) ∧ j < vs.length) ∧ H27 = H') ?_ fun J hJ => ?_⟩
    rotate_left
    · have ht := tmodN (x := x) (n := s.n) (by omega)
      by_cases h0 : Int.tmod x (s.n : Int) < 0
      · refine ite_t (dect h0) (Lt.of (hJ _ _ ⟨⟨(Int.tmod x (s.n : Int) + (s.n : Int)).toNat, by rw [w64 (by omega)]; omega, by omega⟩, rfl⟩))
      · exact ite_f (decf h0) (hJ _ _ ⟨⟨(Int.tmod x (s.n : Int)).toNat, by omega, by omega⟩, rfl⟩)
    rintro _ _ ⟨⟨j, rfl, hj⟩, rfl⟩
    obtain ⟨w, hwj⟩ : ∃ w, vs[j]? = some w := ⟨_, List.getElem?_eq_getElem hj⟩
    have hwm := List.mem_of_getElem? hwj
    have hw := hv w hwm
    obtain ⟨f1, f2, f3⟩ := lkp_fit hm w
    obtain ⟨b', o', ha', hA'⟩ := (v0.keep (kA.trans k27)).get hwj
    refine ⟨by omega, by omega, _, ha', ?_⟩
    rw [Int.toNat_natCast]
    refine ldI_of0 hA' rfl (Write_ok4 T27 hm S27 hw (by omega) (fun h => absurd hwm (f3.1 h)) fun _ sk3 H48 S48 c48 f48 => ⟨hb1k c48 (fun b hb => fF b (by simp at hb ⊢; rcases hb with h | h; exact .inl h; exact .inr (.inl h))) (by omega), ?_⟩)
    have y48 := c48.size
    have hG : ∀ b ∈ k :: fp sk2, H10.size ≤ b := fun b hb => fF b (List.mem_append_left _ hb)
    have k48 : Keep H10 H48 := (k27.ch (F := [])).trans c48 (fun b hb => .inr (hG b hb)) |>.keep (by simp)
    have T48 := T10.keep k48
    rw [show bl (lkp (prs c vs) w).1 (lkp (prs c vs) w).2 = codB c vs w from rfl, List.append_assoc, ← codsB_snoc] at S48
    refine Code_ok T48 hm hw ⟨fun _ _ => rfl, ?_⟩
    have esum : IntKind.wrap .i64 (((L0 ++ codsB c vs ws).length : Int) + ((lkp (prs c vs) w).1 : Int)) = ((L0 ++ codsB c vs (ws ++ [w])).length : Int) := by
      have e : (L0 ++ codsB c vs (ws ++ [w])).length = (L0 ++ codsB c vs ws).length + (lkp (prs c vs) w).1 := by
        rw [codsB_snoc, ← List.append_assoc, List.length_append (bs := codB c vs w), codB_len]
      rw [w64 (by omega)]
      omega
    have hlen2 : (L0 ++ codsB c vs (ws ++ [w])).length ≤ 562949953420000 := by
      have := codsB_len hm (ws ++ [w])
      rw [List.length_append]
      simp at this
      omega
    rw [esum]
    refine Join.intro (fun b H' => b = false ∧ H48 = H') ?_ fun J hJ => ite_f rfl (Len_ok S48 (by omega) ⟨fun _ _ => rfl, hJ _ _ ⟨bnei rfl, rfl⟩⟩)
    rintro _ _ ⟨rfl, rfl⟩
    have o48 := o27.ch c48 fun b hb hh => dj b hh hb
    have olt := o27.fp_lt
    refine ite_f rfl (nw_i fun H57 b57 k57 z57 => ⟨Pv.keep k57 (by simp; omega), ?_⟩)
    have y57 := k57.size
    refine apS_list (ys := [w]) (o48.kp4 k57) cB_len cB_ones rfl (by omega) rfl (by simp; omega) (by omega) fun vl' H63 o63 c63 f63 => ⟨hb1k c63 (fun b hb => fF b (List.mem_append_right _ hb)) (by omega), ?_⟩
    have y63 := c63.size
    have S57 := S48.ch (k57.ch (F := [])) (by simp)
    have s57lt := S57.lts
    have dj48 : ∀ b ∈ k :: fp sk3, b ∉ fp vl := fun b hb hh => by
      rcases List.mem_cons.1 hb with rfl | hb
      · exact dj _ (by simp) hh
      · rcases f48 b hb with h | h
        · exact dj b (by simp [h]) hh
        · have := olt b hh; omega
    have S63 := S57.ch c63 dj48
    rw [show (i : Int) + 1 = ((i + 1 : Nat) : Int) from by omega, w64n (x := i + 1) (by omega)]
    refine hrec _ _ ⟨i + 1, ws ++ [w], sk3, rfl, by omega, by simp [q3], fun u hu => ?_, S63, rfl, o63, fun b hb hh => ?_, fun b hb => ?_, ((k48.trans k57).ch (F := [])).trans c63 (fun b hb => .inr (fF b (List.mem_append_right _ hb))) |>.keep (by simp)⟩ (by simp; omega)
    · rcases List.mem_append.1 hu with hu | hu
      · exact q4 u hu
      · simp at hu; subst hu; exact hwm
    · rcases f63 b hh with h | h
      · exact dj48 b hb h
      · have := s57lt b hb; omega
    · rcases List.mem_append.1 hb with hb | hb
      · rcases List.mem_cons.1 hb with rfl | hb
        · exact fF _ (by simp)
        · rcases f48 b hb with h | h
          · exact fF b (by simp [h])
          · omega
      · rcases f63 b hb with h | h
        · exact fF b (by simp [h])
        · omega
  obtain rfl : i = xs.length := by omega
  refine ite_f (decf (by omega)) ?_
  clear hrec rec hil q2
  have hG : ∀ b ∈ k :: fp sk2, H10.size ≤ b := fun b hb => fF b (List.mem_append_left _ hb)
  have olt := o27.fp_lt
  refine Fix.intro (fun (x : Int) H' => ∃ (i : Nat) (R : List Bool) (sk : Sl), x = (i : Int) ∧ i ≤ zs.length ∧ R.length = 16 * i ∧ Snk H' k sk ((L0 ++ codsB c vs ws) ++ R) ∧ (∀ b ∈ k :: fp sk, H10.size ≤ b ∧ b ∉ fp vl) ∧ Keep H10 H' ∧ Own H' 5 1 vl (ws.flatMap cB)) (fun x _ => zs.length - x.toNat)
    ⟨0, [], sk2, rfl, by omega, rfl, by simpa using S27, fun b hb => ⟨hG b hb, dj b hb⟩, k27, o27⟩ ?_
  rintro _ H73 ⟨i, R, sk4, rfl, hi, hR, S73, fS, k73, o73⟩ rec hrec
  have hlR : ((L0 ++ codsB c vs ws) ++ R).length ≤ 16 + 16 * xs.length + 16 * i := by rw [List.length_append]; omega
  have y73 := k73.size
  by_cases hil : i < zs.length
  · obtain ⟨x, hxi⟩ : ∃ x, zs[i]? = some x := ⟨_, List.getElem?_eq_getElem hil⟩
    obtain ⟨b, o, ha, hA⟩ := (y0.keep (kA.trans k73)).get hxi
    refine ite_t (dect (by omega)) ⟨by omega, by omega, _, ha, ?_⟩
    rw [Int.toNat_natCast]
    refine ldI_of0 hA rfl (Put_ok (n := 16) S73 (by omega) (by omega) fun _ _ sk5 H83 S83 c83 f83 => ?_)
    rw [show (i : Int) + 1 = ((i + 1 : Nat) : Int) from by omega, w64n (by omega)]
    rw [List.append_assoc] at S83
    have ollt := o73.fp_lt
    refine hrec _ _ ⟨i + 1, _, sk5, rfl, by omega, ?_, S83, fun b hb => ?_, (k73.ch (F := [])).trans c83 (fun b hb => .inr (fS b hb).1) |>.keep (by simp), o73.ch c83 fun b hb hh => (fS b hh).2 hb⟩ (by simp; omega)
    · rw [List.length_append, bl_len, hR]
      show 16 * i + 16 = _
      omega
    · rcases List.mem_cons.1 hb with rfl | hb
      · exact fS _ (by simp)
      · rcases f83 b hb with h | h
        · exact fS b (by simp [h])
        · exact ⟨by omega, fun hh => by have := ollt b hh; omega⟩
  refine ite_f (decf (by omega)) (Pad_ok S73 (by omega) fun sk6 H85 S85 c85 f85 => ?_)
  have k85 : Keep H10 H85 := (k73.ch (F := [])).trans c85 (fun b hb => .inr (fS b hb).1) |>.keep (by simp)
  have o85 := o73.ch c85 fun b hb hh => (fS b hh).2 hb
  generalize hM : ((L0 ++ codsB c vs ws) ++ R) ++ List.replicate ((8 - ((L0 ++ codsB c vs ws) ++ R).length % 8) % 8) true = M at S85
  have hMl : M.length = ((L0 ++ codsB c vs ws) ++ R).length + (8 - ((L0 ++ codsB c vs ws) ++ R).length % 8) % 8 := by rw [← hM, List.length_append, List.length_replicate]
  have hM8 : M.length % 8 = 0 := by omega
  have hMp : ∃ Z, M = L0 ++ (codsB c vs ws ++ Z) := ⟨R ++ List.replicate ((8 - ((L0 ++ codsB c vs ws) ++ R).length % 8) % 8) true, by rw [← hM]; simp only [List.append_assoc]⟩
  obtain ⟨Z, hMp⟩ := hMp
  refine Text_ok S85 (by omega) fun H87 k87 => ?_
  refine reopen_ok (S85.ch (k87.ch (F := [])) (by simp)) hM8 (by omega) fun q r e H89 S89 hr k89 g89 => ite_f rfl ?_
  have hrl : r.length = M.length := by rw [← hr, List.length_map]
  have k89' : Keep H10 H89 := (k85.trans k87).trans k89
  have o89 := (o85.kp4 k87).kp4 k89
  have lq := S89.lt
  have y85 := k85.size
  have y87 := k87.size
  have hcw : (codsB c vs ws).length ≤ M.length := by rw [hMp, List.length_append, List.length_append]; omega
  refine Skip_ok S89 (by rw [hrl, hMp, List.length_append]; omega) fun _ _ H91 S91 s91 => ?_
  rw [Int.toNat_natCast, Nat.zero_add] at S91
  have hqv : q ∉ fp vl := fun hh => by have := (o85.kp4 k87).fp_lt q hh; omega
  have k91 : Keep H10 H91 := k89'.same s91 (by omega)
  have o91 := o89.ch s91.ch fun b hb => by simp; exact fun e => hqv (e ▸ hb)
  -- all values are read again
  refine Fix.intro (fun (x : Int) H' => ∃ i : Nat, x = (i : Int) ∧ i ≤ ws.length ∧ Src H' q (r.drop (n + (codsB c vs (ws.take i)).length)) e (n + (codsB c vs (ws.take i)).length) ∧ Keep H10 H' ∧ Own H' 5 1 vl (ws.flatMap cB)) (fun x _ => ws.length - x.toNat) ⟨0, rfl, by omega, by simpa [codsB] using S91, k91, o91⟩ ?_
  rintro _ H95 ⟨i, rfl, hi, S95, k95, o95⟩ rec4 hrec4
  have vv := o95.view cB_len (by omega)
  have vn := vv.n
  by_cases hiw : i < ws.length
  · obtain ⟨w, hwi⟩ : ∃ w, ws[i]? = some w := ⟨_, List.getElem?_eq_getElem hiw⟩
    have hwm := q4 w (List.mem_of_getElem? hwi)
    have hw := hv w hwm
    have T95 := T10.keep k95
    refine ite_t (dect (by omega)) (Used_ok S95 (Read_ok4 T95 hm S95 (fun hh => by have := lT q hh; omega) fun H101 S101 c101 => ?_))
    have etk : ws.take (i + 1) = ws.take i ++ [w] := by rw [List.take_add_one, hwi]; rfl
    have esp : codsB c vs ws = codsB c vs (ws.take i) ++ (codB c vs w ++ codsB c vs (ws.drop (i + 1))) := by
      have : ws = ws.take i ++ w :: ws.drop (i + 1) := by
        have h1 := (List.getElem?_eq_some_iff.1 hwi)
        obtain ⟨h2, h3⟩ := h1
        rw [← h3, ← List.drop_eq_getElem_cons h2, List.take_append_drop]
      conv => lhs; rw [this]
      simp [codsB]
    have hb : bts (r.drop (n + (codsB c vs (ws.take i)).length)) = (codB c vs w ++ (codsB c vs (ws.drop (i + 1)) ++ Z)).take 16 := by
      have e1 : L0 ++ (codsB c vs ws ++ Z) = (L0 ++ codsB c vs (ws.take i)) ++ (codB c vs w ++ (codsB c vs (ws.drop (i + 1)) ++ Z)) := by rw [esp]; simp only [List.append_assoc]
      unfold bts
      rw [List.map_drop, hr, hMp, e1, List.drop_left' (by rw [List.length_append, hL0n])]
    have er := rd4_cod hm hwm hb
    rw [er] at S101 ⊢
    simp only at S101 ⊢
    have k101 : Keep H10 H101 := (k95.ch (F := [])).trans c101 (fun b hb => .inr (by simp at hb; omega)) |>.keep (by simp)
    have o101 := o95.ch c101 fun b hb => by simp; exact fun e => hqv (e ▸ hb)
    obtain ⟨b', o', ha', hA'⟩ := (o101.view cB_len (by omega)).get hwi
    refine ⟨by omega, by omega, _, ha', ?_⟩
    rw [Int.toNat_natCast]
    refine ldI_of0 hA' rfl (Code_ok (T10.keep k101) hm hw ?_)
    have epos : n + (codsB c vs (ws.take (i + 1))).length = n + (codsB c vs (ws.take i)).length + (lkp (prs c vs) w).1 := by
      rw [etk, codsB_snoc, List.length_append, codB_len]; omega
    have hcl2 := codsB_len hm (ws.take i)
    have hfw := (lkp_fit hm w).1
    refine Join.intro (fun b H' => b = false ∧ H101 = H') ?_ fun J hJ => ⟨by omega, by omega, ldI_of0 hA' rfl (ite_f (bnei rfl) (ite_f (bnei rfl) (Used_ok S101 (hJ _ _ ⟨bnei ?_, rfl⟩))))⟩
    rotate_left
    · simp at hcl2
      rw [w64 (by omega)]
      omega
    rintro _ _ ⟨rfl, rfl⟩
    refine ite_f rfl ?_
    rw [show (i : Int) + 1 = ((i + 1 : Nat) : Int) from by omega, w64n (by omega)]
    refine hrec4 _ _ ⟨i + 1, rfl, by omega, ?_, k101, o101⟩ (by simp; omega)
    rw [epos]
    rw [List.drop_drop] at S101
    exact S101
  · rw [List.take_of_length_le (by omega)] at S95
    refine ite_f (decf (by omega)) ?_
    rw [if_pos rfl, if_pos trivial]
    refine Used_ok S95 ⟨beqi ?_, kA.trans k95⟩
    rw [List.length_append, hL0n]
end Go.Proofs.Ytbefacccdaafeaa.G
