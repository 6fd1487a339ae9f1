/- Layer 19: CutsMade. -/
import Derived.Test.YtdcjjoihlnjpnaaZ19e
namespace Go.Proofs.Ytdcjjoihlnjpnaa.G
open Go.RowKit
set_option linter.unusedVariables false
set_option linter.unusedSimpArgs false
set_option maxRecDepth 20000

abbrev Bt := ByteArray × Int × Int
def cBt (x : Bt) : List Value := c40 x.1 x.2.1 x.2.2
theorem bits_view {H : Hp} {s : Sl} (h : SlH H (some 1048576) 32 3 (X40 (some 1048576) H) s) : ∃ xs : List Bt, SlV H s 3 cBt xs ∧ (∀ x ∈ xs, x.1.size ≤ 1048576) ∧ (s.c = 0 ∨ szL (some 1048576) 32 s.c) := by
  obtain ⟨xs, h1, h2, h3⟩ := h.view (f := cBt) (B := fun x => x.1.size ≤ 1048576) fun cs hx => by
    obtain ⟨a, b, c, e, q1, q2, q3⟩ := hx
    refine ⟨(a, b, c), by rw [e]; rfl, ?_⟩
    have : a.size + 1 ≤ 1048576 := q1
    show a.size ≤ 1048576
    omega
  exact ⟨xs, h1, h2, h3⟩
theorem mod8 {x : Int} {H : Hp} {J : Int → Hp → Prop} (h : ∀ m : Nat, m < 8 → J (m : Int) H) : if decide ((Int.tmod x 8) < 0) = true then (J ((IntKind.wrap .i64 ((Int.tmod x 8) + 8))) H) else (J ((Int.tmod x 8)) H) := by
  have hb : -8 < Int.tmod x 8 ∧ Int.tmod x 8 < 8 := by
    constructor
    · rcases Int.lt_or_le x 0 with hn | hn
      · have e : Int.tmod x 8 = - Int.tmod (-x) 8 := by rw [Int.neg_tmod]; omega
        have := Int.tmod_lt_of_pos (-x) (show (0 : Int) < 8 by omega)
        omega
      · have := Int.tmod_nonneg 8 hn
        omega
    · exact Int.tmod_lt_of_pos _ (by omega)
  generalize Int.tmod x 8 = t at hb ⊢
  by_cases h0 : t < 0
  · refine ite_t (dect h0) ?_
    rw [w64 (by omega), show t + 8 = ((t + 8).toNat : Int) from by omega]
    exact h _ (by omega)
  · refine ite_f (decf h0) ?_
    rw [show t = (t.toNat : Int) from by omega]
    exact h _ (by omega)
theorem two_bytes {H : Hp} {b x y : Nat} (h : Bk H b 5 [.int .u8 (x : Int), .int .u8 (y : Int)]) (hx : x < 256) (hy : y < 256) : 2 = (bytesOf [x, y]).size ∧ rdS H (some ⟨b, 0, none⟩) (byteCells (bytesOf [x, y])) := by
  refine ⟨rfl, ?_⟩
  rw [bytesOf_cells (by intro z hz; simp at hz; omega)]
  refine ⟨fun u hu => by obtain ⟨y, _, hy⟩ := List.mem_flatMap.1 hu; exact cB_ones y u hy, fun j v hv => ⟨_, rfl, ?_⟩⟩
  rw [add_mk, h.cell, Nat.zero_add]
  exact hv
set_option maxHeartbeats 1000000 in
theorem CutsMade_row (a0 : ByteArray) (a1 : Sl) (d : ByteArray) (lr lf en : Int) (a4 : ByteArray) (W : World) (h0 : a0.size ≤ 1048576) (h1 : SlH W.heap (some 1048576) 32 3 (X40 (some 1048576) W.heap) a1) (hd : d.size ≤ 1048576)
    (hlr : -9223372036854775808 ≤ lr ∧ lr ≤ 9223372036854775807) (hlf : -9223372036854775808 ≤ lf ∧ lf ≤ 9223372036854775807) (hen : 0 ≤ en ∧ en ≤ 255) (h4 : a4.size ≤ 1048576) :
    mosaiclaw19_CutsMade.s a0 a1 d lr lf en a4 W.heap (fun r H' => r = true ∧ Keep W.heap H') := by
  obtain ⟨xs, v0, hx, z0⟩ := bits_view h1
  have n0 := v0.n
  have c0 := v0.c
  have hxl : xs.length ≤ 1048576 := by
    rcases z0 with z | z
    · omega
    · have : a1.c + 1 ≤ 1048576 := z
      omega
  unfold mosaiclaw19_CutsMade.s
  intro b1 H2 c2 g1 g1'
  have k2 : Keep W.heap H2 := c2.keep (by simp)
  refine alive_ok fun H4 k4 => ⟨Pv.keep k4 (by simp; omega), ?_⟩
  have y2 := k2.size
  have y4 := k4.size
  have k24 := k2.trans k4
  refine Fix.intro (fun (x : ByteArray × Sl × Int) H' => ∃ (i : Nat) (ws : List Pc), x.2.2 = (i : Int) ∧ i ≤ xs.length ∧ ws.length = i ∧ x.1.size ≤ 1048576 + i * 2097160 ∧ Own H' 29 4 x.2.1 (ws.flatMap cP) ∧ (∀ (f : ByteArray) (Z : List Nat) (l : List Pc), byL f = byL x.1 ++ Z → Pcs f x.1.size l → Pcs f a0.size (ws ++ l)) ∧ a0.size ≤ x.1.size ∧ Keep H4 H' ∧ ∀ b ∈ fp x.2.1, H4.size ≤ b) (fun x _ => xs.length - x.2.2.toNat)
    ⟨0, [], rfl, by omega, rfl, by simpa using h0, Own.nil _ _ _, fun f Z l _ h => h, Nat.le_refl _, Keep.refl _, by simp [fp]⟩ ?_
  rintro ⟨file, t, _⟩ H9 ⟨i, ws, rfl, hi, hwl, hfs, o9, key, hfa, k9, f9⟩ rec hrec
  replace o9 : Own H9 29 4 t (ws.flatMap cP) := o9
  replace f9 : ∀ b ∈ fp t, H4.size ≤ b := f9
  simp only at hfs key hfa ⊢
  have y9 := k9.size
  have hfl := byL_len file
  have hfs2 : file.size ≤ 2199040000000 := by
    have : i * 2097160 ≤ 1048576 * 2097160 := Nat.mul_le_mul_right _ (by omega)
    omega
  by_cases hil : i < xs.length
  · obtain ⟨x, hxi⟩ : ∃ x, xs[i]? = some x := ⟨_, List.getElem?_eq_getElem hil⟩
    have hxs := hx x (List.mem_of_getElem? hxi)
    obtain ⟨b, o, ha, hA⟩ := (v0.keep (k24.trans k9)).get hxi
    refine ite_t (dect (by omega)) ⟨by omega, by omega, _, ha, ?_⟩
    rw [Int.toNat_natCast]
    refine ldI_of hA (j := 1) (v := x.2.1) rfl (Join.intro (fun y H' => (∃ m : Nat, y = (m : Int) ∧ m < 8) ∧ H9 = H') ?_ fun J hJ => mod8 fun m hm => hJ _ _ ⟨⟨m, rfl, hm⟩, rfl⟩)
    rintro _ _ ⟨⟨m, rfl, hm⟩, rfl⟩
    intro b21 H23 c23 g23 g23'
    have k23 : Keep H9 H23 := c23.keep (by simp)
    have y23 := k23.size
    obtain ⟨bq, oq, haq, hA23⟩ := (v0.keep ((k24.trans k9).trans k23)).get hxi
    rw [ha] at haq
    obtain ⟨rfl, rfl⟩ : b = bq ∧ o = oq := by injection haq with h; injection h with h1 h2; exact ⟨h1, h2⟩
    have hS := stuff_len (byL x.1)
    rw [byL_len] at hS
    refine ⟨by omega, by omega, ⟨x.1, hA23.2 0 _ rfl, stuffed_ok hxs fun H29 k29 => ⟨Pv.keep k29 (by simp; omega), ?_⟩⟩⟩
    generalize hSS : stuff (byL x.1) = S at hS
    have hSb : ∀ y ∈ S, y < 256 := by rw [← hSS]; exact stuff_byte (byL_byte x.1)
    refine ⟨by rw [bytesOf_size]; omega, fun H32 c32 => ?_⟩
    have y29 := k29.size
    have y32 := c32.size
    have k32 : Keep H9 H32 := ((k23.trans k29).ch (F := [])).trans c32 (by simp; omega) |>.keep (by simp)
    obtain ⟨q, hq, fillq⟩ := fill_ok x.2.2
    have hFb : ∀ y ∈ List.replicate q 255, y < 256 := fun y hy => by rw [List.eq_of_mem_replicate hy]; omega
    have e255 : IntKind.wrap .u8 (IntKind.wrap .i64 ((208 : Int) + (m : Int))) = ((208 + m : Nat) : Int) := by rw [w64 (by omega), wu8 (by omega)]; omega
    rw [e255]
    refine Join.intro (fun (y : ByteArray) H' => y = ((file ++ bytesOf S) ++ bytesOf (List.replicate q 255)) ++ bytesOf [255, 208 + m] ∧ Keep H9 H') ?_ fun J hJ => ?_
    rotate_left
    · obtain ⟨bq, oq, haq, hA32⟩ := (v0.keep ((k24.trans k9).trans k32)).get hxi
      rw [ha] at haq
      obtain ⟨rfl, rfl⟩ : b = bq ∧ o = oq := by injection haq with h; injection h with h1 h2; exact ⟨h1, h2⟩
      refine ⟨by omega, by omega, ldI_of hA32 (j := 2) (v := x.2.2) rfl ⟨fillq ⟨fun _ _ => rfl, ?_, nw_i fun H56 b56 k56 z56 => ⟨Pv.keep k56 (by simp; omega), ?_⟩⟩, nw_i fun H65 b65 k65 z65 => ⟨Pv.keep k65 (by simp; omega), ?_, ?_⟩⟩⟩
      · simp only [ByteArray.size_append, bytesOf_size, List.length_replicate]; omega
      · obtain ⟨t1, t2⟩ := two_bytes (x := 255) (y := 208 + m) b56 (by omega) (by omega)
        exact ⟨_, t1, t2, by simp only [ByteArray.size_append, bytesOf_size, List.length_replicate]; simp; omega, hJ _ _ ⟨rfl, k32.trans k56⟩⟩
      · obtain ⟨bq, oq, haq, hA65⟩ := (v0.keep (((k24.trans k9).trans k32).trans k65)).get hxi
        rw [ha] at haq
        obtain ⟨rfl, rfl⟩ : b = bq ∧ o = oq := by injection haq with h; injection h with h1 h2; exact ⟨h1, h2⟩
        exact hA65.2 2 _ rfl
      · obtain ⟨t1, t2⟩ := two_bytes (x := 255) (y := 208 + m) b65 (by omega) (by omega)
        refine ⟨_, t1, t2, fillq ⟨fun _ _ => rfl, t2, ?_, ?_, hJ _ _ ⟨rfl, k32.trans k65⟩⟩⟩
        · simp only [ByteArray.size_append, bytesOf_size, List.length_replicate]; omega
        · simp only [ByteArray.size_append, bytesOf_size, List.length_replicate]; simp; omega
    rintro _ H35 ⟨rfl, k35⟩ H36 c36
    have y35 := k35.size
    have y36 := c36.size
    have k36 : Keep H9 H36 := (k35.ch (F := [])).trans c36 (by simp; omega) |>.keep (by simp)
    have esz : (((file ++ bytesOf S) ++ bytesOf (List.replicate q 255)) ++ bytesOf [255, 208 + m]).size = file.size + S.length + q + 2 := by
      simp only [ByteArray.size_append, bytesOf_size, List.length_replicate]; rfl
    have esz1 : (file ++ bytesOf S).size = file.size + S.length := by simp only [ByteArray.size_append, bytesOf_size]
    rw [esz, esz1, w8 (by omega)]
    have lt9 := o9.fp_lt
    refine nw_i fun H38 b38 k38 z38 => ⟨Pv.keep k38 (by simp; omega), ?_⟩
    have y38 := k38.size
    refine apS_list (f := cP) (ys := [((file.size : Int), ((file.size + S.length : Nat) : Int), (m : Int), ((file.size + S.length + q + 2 : Nat) : Int))]) ((o9.kp k36).kp k38) cP_len cP_ones rfl (by omega) rfl (by simp; omega) (by omega) fun t' H44 o44 c44 f44 => ⟨Pv.ch c44 fun b hb => ⟨by simp at hb; omega, fun hh => by have := f9 b hh; simp at hb; omega⟩, ?_⟩
    rw [show (i : Int) + 1 = ((i + 1 : Nat) : Int) from by omega, w64n (x := i + 1) (by omega)]
    refine hrec _ _ ⟨i + 1, ws ++ [((file.size : Int), ((file.size + S.length : Nat) : Int), (m : Int), ((file.size + S.length + q + 2 : Nat) : Int))], rfl, by omega, by simp [hwl], ?_, o44, ?_, ?_, (((k9.trans k36).trans k38).ch (F := [])).trans c44 (fun b hb => .inr (f9 b hb)) |>.keep (by simp), fun b hb => ?_⟩ (by simp; omega)
    · simp only
      rw [esz]; omega
    · intro f Z l hf hp
      simp only at hf hp
      rw [esz] at hp
      rw [byL_app, byL_app, byL_app, byL_of hSb, byL_of hFb, byL_of (l := [255, 208 + m]) (by intro z hz; simp at hz; omega)] at hf
      rw [List.append_assoc]
      refine key f (S ++ List.replicate q 255 ++ (255 :: (208 + m) :: Z)) _ (by rw [hf]; simp) ?_
      have := pcs_step (f := f) (A := byL file) (Z := Z) (l := byL x.1) (q := q) (m := m) (r := l) hm (by rw [hf, hSS]; simp) (by rw [hSS, hfl]; exact hp)
      rw [hSS, hfl] at this
      exact this
    · simp only
      rw [esz]; omega
    · rcases f44 b hb with h | h
      · exact f9 b h
      · omega
  obtain rfl : i = xs.length := by omega
  refine ite_f (decf (by omega)) ?_
  clear hrec rec hil
  intro b79 H81 c81 g81 g81'
  have k81 : Keep H9 H81 := c81.keep (by simp)
  have y81 := k81.size
  have hS := stuff_len (byL d)
  rw [byL_len] at hS
  refine stuffed_ok hd fun H83 k83 => ⟨Pv.keep k83 (by simp; omega), ?_⟩
  generalize hSS : stuff (byL d) = S at hS
  have hSb : ∀ y ∈ S, y < 256 := by rw [← hSS]; exact stuff_byte (byL_byte d)
  have y83 := k83.size
  refine ⟨by rw [bytesOf_size]; omega, fun H86 c86 => ?_⟩
  have y86 := c86.size
  have k86 : Keep H9 H86 := ((k81.trans k83).ch (F := [])).trans c86 (by simp; omega) |>.keep (by simp)
  obtain ⟨q, hq, fillq⟩ := fill_ok lf
  have hFb : ∀ y ∈ List.replicate q 255, y < 256 := fun y hy => by rw [List.eq_of_mem_replicate hy]; omega
  refine fillq ⟨fun _ _ => rfl, by simp only [ByteArray.size_append, bytesOf_size, List.length_replicate]; omega, fun hb79 => ?_⟩
  have esz1 : (file ++ bytesOf S).size = file.size + S.length := by simp only [ByteArray.size_append, bytesOf_size]
  have esz : ((file ++ bytesOf S) ++ bytesOf (List.replicate q 255)).size = file.size + S.length + q := by simp only [ByteArray.size_append, bytesOf_size, List.length_replicate]
  rw [esz1] at hb79
  rw [esz]
  have lt9 := o9.fp_lt
  have o86 := o9.kp k86
  have hnt : b79 ∉ fp t := fun hh => by have := lt9 b79 hh; omega
  -- the whole file, the last piece
  refine Join.intro (fun (y : ByteArray) H' => ∃ p : Pc, Bk H' b79 29 (cP p) ∧ Pcs y a0.size (ws ++ [p]) ∧ y.size < 140737488355328 ∧ a0.size ≤ y.size ∧ Keep H9 H') ?_ fun J hJ => ?_
  rotate_left
  · refine Join.intro (fun x H' => x = decide (en ≠ 0 ∧ en ≠ 255 ∧ ¬ (208 ≤ en ∧ en ≤ 215)) ∧ H86 = H') ?_ fun J2 hJ2 => ?_
    rotate_left
    · by_cases e1 : en = 0
      · exact ite_f (bnei e1) (hJ2 _ _ ⟨(decf (by omega)).symm, rfl⟩)
      refine ite_t (bnet e1) ?_
      by_cases e2 : en = 255
      · exact ite_f (bnei e2) (hJ2 _ _ ⟨(decf (by omega)).symm, rfl⟩)
      refine ite_t (bnet e2) ?_
      by_cases e3 : en < 208
      · exact ite_t (dect e3) (hJ2 _ _ ⟨(dect (by omega)).symm, rfl⟩)
      refine ite_f (decf e3) (hJ2 _ _ ⟨?_, rfl⟩)
      by_cases e4 : 215 < en
      · exact (dect e4).trans (dect (by omega)).symm
      · exact (decf e4).trans (decf (by omega)).symm
    rintro _ _ ⟨rfl, rfl⟩
    by_cases he : en ≠ 0 ∧ en ≠ 255 ∧ ¬ (208 ≤ en ∧ en ≤ 215)
    · refine ite_t (dect he) (st_i hb79 (by simp) fun G1 d1 s1 => st_i d1 (by simp) fun G2 d2 s2 => nw_i fun G3 d3 k3 z3 => ?_)
      have kG : Keep H9 G3 := ((k86.same s1 g81).same s2 g81).trans k3
      obtain ⟨e', rfl⟩ : ∃ e' : Nat, en = (e' : Int) := ⟨en.toNat, by omega⟩
      obtain ⟨t1, t2⟩ := two_bytes (x := 255) (y := e') d3 (by omega) (by omega)
      refine ⟨_, t1, t2, by rw [bytesOf_size]; simp; omega, ?_, ?_⟩
      · rw [ByteArray.size_append, esz, bytesOf_size]; simp; omega
      refine hJ _ _ ⟨((file.size : Int), ((file.size + S.length : Nat) : Int), -1, ((file.size + S.length + q : Nat) : Int)), d2.keep k3, ?_, ?_, ?_, kG⟩
      · have hby : byL ((((file ++ bytesOf S) ++ bytesOf (List.replicate q 255)) ++ bytesOf [255, e']) ++ a4) = byL file ++ (S ++ List.replicate q 255) ++ (255 :: e' :: byL a4) := by
          rw [byL_app, byL_app, byL_app, byL_app, byL_of hSb, byL_of hFb, byL_of (l := [255, e']) (by intro z hz; simp at hz; omega)]
          simp
        refine key _ (S ++ List.replicate q 255 ++ (255 :: e' :: byL a4)) _ (by rw [hby]; simp) ?_
        have := pcs_last (A := byL file) (Z := byL a4) (l := byL d) (q := q) (e := e') (by omega) (by rw [hSS]; exact hby)
        rw [hSS, hfl] at this
        exact this
      · rw [ByteArray.size_append, ByteArray.size_append, esz, bytesOf_size]; simp; omega
      · rw [ByteArray.size_append, ByteArray.size_append, esz]; omega
    · refine ite_f (decf he) (st_i hb79 (by simp) fun G1 d1 s1 => hJ _ _ ⟨((file.size : Int), ((file.size + S.length : Nat) : Int), -2, ((file.size + S.length + q : Nat) : Int)), d1, ?_, by rw [esz]; omega, by rw [esz]; omega, k86.same s1 g81⟩)
      have hby : byL ((file ++ bytesOf S) ++ bytesOf (List.replicate q 255)) = byL file ++ (S ++ List.replicate q 255) := by
        rw [byL_app, byL_app, byL_of hSb, byL_of hFb, List.append_assoc]
      refine key _ (S ++ List.replicate q 255) _ hby ?_
      have := pcs_end (A := byL file) (l := byL d) (q := q) (by rw [hSS]; exact hby)
      rw [hSS, hfl] at this
      exact this
  rintro f H93 ⟨p, b93, hP, hfsz, hfa2, k93⟩
  have y93 := k93.size
  refine ⟨_, _, _, _, ldA_full b93, push1 (f := cP) (x := p) (o9.kp k93) cP_len cP_ones rfl (by omega) (by omega) (by omega) fun l H105 o105 c105 f105 => ?_⟩
  have b105 := b93.ch c105 hnt
  have hwl2 : (ws ++ [p]).length = xs.length + 1 := by simp [hwl]
  have ln := (o105.view cP_len (by omega)).n
  rw [hwl2] at ln
  have efr : fromOf f.size (a0.size : Int) = a0.size := by unfold fromOf; omega
  have hP' : Pcs f (fromOf f.size (a0.size : Int)) (ws ++ [p]) := by rw [efr]; exact hP
  have elast : lastN (ws ++ [p]) = p.2.2.2 := by unfold lastN; rw [List.getLast?_concat]
  rw [ln, show IntKind.wrap .i64 (((xs.length + 1 : Nat) : Int) - 1) = (xs.length : Int) from by rw [w64 (by omega)]; omega]
  refine Pieces_ok hfsz (by omega) hP' (fun h => by omega) fun _ t1 H107 o107 k107 _ => Pieces_ok hfsz (by omega) hP' (fun _ H109 k109 => ?_) fun h => by omega
  have k9W : Keep W.heap H9 := k24.trans k9
  have k105 : Keep W.heap H105 := ((k9W.trans k93).ch (F := [])).trans c105 (fun b hb => .inr (by have := f9 b hb; omega)) |>.keep (by simp)
  have v1 := (o107.kp k109).view cP_len (by omega)
  have v2 := ((o105.kp k107).kp k109).view cP_len (by omega)
  have t1n := v1.n
  rw [hwl2] at t1n
  have b109 := (b105.keep k107).keep k109
  refine Join.intro (fun b H' => b = false ∧ H109 = H') ?_ fun J hJ => ?_
  rotate_left
  · refine ite_f rfl (ite_f rfl (ldI_i b109 (v := p.2.2.2) rfl (ite_f (bnei elast) (ite_f (bnei ?_) (ite_f rfl (ite_f rfl (hJ _ _ ⟨rfl, rfl⟩)))))))
    show (t1.n : Int) = ((xs.length + 1 : Nat) : Int)
    omega
  rintro _ _ ⟨rfl, rfl⟩
  refine ite_f rfl ?_
  refine Fix.intro (fun (x : Int) H' => ∃ j : Nat, x = (j : Int) ∧ j ≤ xs.length + 1 ∧ H109 = H') (fun x _ => xs.length + 1 - x.toNat) ⟨0, rfl, by omega, rfl⟩ ?_
  rintro _ _ ⟨j, rfl, hj, rfl⟩ rec2 hrec2
  by_cases hjl : j < xs.length + 1
  · obtain ⟨y, hy⟩ : ∃ y, (ws ++ [p])[j]? = some y := ⟨_, List.getElem?_eq_getElem (by omega)⟩
    obtain ⟨b1', o1', ha1, hA1⟩ := v1.get hy
    obtain ⟨b2', o2', ha2, hA2⟩ := v2.get hy
    refine ite_t (dect (by omega)) ⟨by omega, by show (j : Int) < (t1.n : Int); omega, _, ha1, ?_⟩
    rw [Int.toNat_natCast]
    refine ⟨_, _, _, _, hA1, by omega, by omega, _, ha2, _, _, _, _, hA2, ite_f (by simp) ?_⟩
    rw [show (j : Int) + 1 = ((j + 1 : Nat) : Int) from by omega, w64n (by omega)]
    exact hrec2 _ _ ⟨j + 1, rfl, by omega, rfl⟩ (by simp; omega)
  · exact ite_f (decf (by omega)) ⟨trivial, (k105.trans k107).trans k109⟩
end Go.Proofs.Ytdcjjoihlnjpnaa.G
