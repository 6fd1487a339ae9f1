/- Layer 4: HuffWord. -/
import Derived.Test.YtbefacccdaafeaaZ04v
import Derived.Test.YtbefacccdaafeaaKHuffWord
namespace Go.Proofs.Ytbefacccdaafeaa.G
open Go.RowKit
set_option linter.unusedVariables false
set_option linter.unusedSimpArgs false
set_option maxRecDepth 20000

theorem lbegins_ok {a b : List Bool} {H : Hp} {Q : Bool → Hp → Prop} (h : Q (decide (a.length ≤ b.length ∧ b.take a.length = a)) H) : mosaiclaw04_begins.s (tx a) (tx b) H Q := by
  unfold mosaiclaw04_begins.s
  rw [tx_size, tx_size]
  by_cases h1 : a.length ≤ b.length
  · refine ite_t (dect (by omega)) ⟨by omega, by omega, ?_⟩
    rw [Int.toNat_natCast, tx_take, tx_eq]
    have e : decide (b.take a.length = a) = decide (a.length ≤ b.length ∧ b.take a.length = a) := by simp [h1]
    rw [e]
    exact h
  · refine ite_f (decf (by omega)) ?_
    rw [decf fun x => h1 x.1] at h
    exact h
theorem bit8 {x k : Nat} (hx : x < 256) (hk : k < 8) : Go.bits .and .u8 (shrI .u8 (x : Int) (k : Int)) 1 = ((x.testBit k).toNat : Int) := by
  have h1 : x / 2 ^ k ≤ x := Nat.div_le_self _ _
  rw [shrn (by show k ≤ 8; omega)]
  have e := gand (k := .u8) (x := x / 2 ^ k) (y := 1) (by show _ < 2 ^ 8; omega) (by decide) (wu8n (by rw [Nat.and_one_is_mod]; omega))
  rw [show ((1 : Nat) : Int) = (1 : Int) from rfl] at e
  rw [e, Nat.and_one_is_mod, Nat.testBit_eq_decide_div_mod_eq]
  rcases Nat.mod_two_eq_zero_or_one (x / 2 ^ k) with h | h <;> rw [h] <;> rfl
theorem sign_of (b : Bool) : (⟨#[48, 49]⟩ : ByteArray).extract (Int.toNat ((b.toNat : Nat) : Int)) (Int.toNat (IntKind.wrap .u8 (((b.toNat : Nat) : Int) + 1))) = tx [b] := by
  cases b <;> rfl
theorem stuff_id : ∀ {l : List Nat}, (∀ b ∈ l, b < 255) → stuff l = l
  | [], _ => rfl
  | b :: l, h => by
    have := stuff_id (l := l) fun x hx => h x (by simp [hx])
    have hb := h b (by simp)
    unfold stuff at *
    rw [List.flatMap_cons, this, if_neg (by omega)]
    rfl
theorem mod8 {x : Int} {H : Hp} {J : Int → Hp → Prop} (h : ∀ m : Nat, m < 8 → J (m : Int) H) : if decide ((Int.tmod x 8) < 0) = true then (J ((IntKind.wrap .i64 ((Int.tmod x 8) + 8))) H) else (J ((Int.tmod x 8)) H) := by
  have hb := tmodN (x := x) (n := 8) (by omega)
  rw [show ((8 : Nat) : Int) = (8 : Int) from rfl] at hb
  generalize Int.tmod x 8 = t at hb ⊢
  by_cases h0 : t < 0
  · refine ite_t (dect h0) ?_
    rw [w64 (by omega), show t + 8 = ((t + 8).toNat : Int) from by omega]
    exact h _ (by omega)
  · refine ite_f (decf h0) ?_
    rw [show t = (t.toNat : Int) from by omega]
    exact h _ (by omega)
/-- What lies on the heap while the codes are tried. -/
structure CW (W : Hp) (k t : Nat) (D : List Bool) (v f : Int) (l : List (Bool × Nat)) (e u : Nat) (b3 b18 b68 b97 b99 b108 pa : Nat) (H : Hp) : Prop where
  k18 : Bk H b18 9 [.string (tx D)]
  k68 : Bk H b68 51 [.pointer (some ⟨k, 0, none⟩)]
  k97 : Bk H b97 5 [.int .u8 v]
  k99 : Bk H b99 27 [.int .i64 f]
  ka : Bk H pa 32 [.pointer (some ⟨t, 0, none⟩)]
  src : Src H k l e u
  kp : Keep W H
  lt : W.size ≤ b3 ∧ b3 < b108 ∧ b18 < b108 ∧ b68 < b108 ∧ b97 < b108 ∧ b99 < b108 ∧ pa < b108 ∧ k < b108 ∧ b3 ≠ b18 ∧ b3 ≠ b68 ∧ b3 ≠ b97 ∧ b3 ≠ b99 ∧ b3 ≠ pa ∧ b3 ≠ k
theorem CW.ch {W H H' : Hp} {k t : Nat} {D : List Bool} {v f : Int} {l : List (Bool × Nat)} {e u b3 b18 b68 b97 b99 b108 pa : Nat} {G : List Nat} (h : CW W k t D v f l e u b3 b18 b68 b97 b99 b108 pa H) (c : Ch G H H') (hG : ∀ b ∈ G, b = b3 ∨ b108 ≤ b) :
    CW W k t D v f l e u b3 b18 b68 b97 b99 b108 pa H' := by
  have lt := h.lt
  have nf : ∀ {x}, x < b108 → b3 ≠ x → x ∉ G := fun {x} h1 h2 hh => by
    rcases hG x hh with g | g
    · exact h2 g.symm
    · omega
  exact ⟨h.k18.ch c (nf (by omega) (by omega)), h.k68.ch c (nf (by omega) (by omega)), h.k97.ch c (nf (by omega) (by omega)), h.k99.ch c (nf (by omega) (by omega)), h.ka.ch c (nf (by omega) (by omega)), h.src.ch c (nf (by omega) (by omega)), (h.kp.ch (F := [])).trans c (fun b hb => .inr (by have := hG b hb; omega)) |>.keep (by simp), lt⟩
set_option maxHeartbeats 1000000 in
theorem HuffWord_row (c : Cn) (s : Sl) (a1 : Sl) (a2 : Int) (W : World) (hc : ∀ v ∈ c.1, 0 ≤ v ∧ v ≤ 255) (hs : SlH W.heap none 1 1 (X5 none W.heap) s) (h1 : SlH W.heap none 1 1 (X5 none W.heap) a1) (h2 : -9223372036854775808 ≤ a2 ∧ a2 ≤ 9223372036854775807) :
    mosaiclaw04_HuffWord.s c s a1 a2 W.heap (fun r H' => r = true ∧ Keep W.heap H') := by
  obtain ⟨vs, v0, hv, z0⟩ := bytes_view hs
  obtain ⟨xs, x0, hx, z1⟩ := bytes_view h1
  have n0 := v0.n
  have n1 := x0.n
  have c0 := v0.c
  have c1 := x0.c
  have hl : vs.length ≤ 140737488351232 := by
    rcases z0 with z | z
    · omega
    · have : s.c * 1 ≤ 140737488351232 := z
      omega
  unfold mosaiclaw04_HuffWord.s
  intro b1 H2 c2 g1 g1' b3 H4 c4 g3 g3'
  have k4 : Keep W.heap H4 := (c2.keep (by simp)).trans (c4.keep (by simp))
  have y2 := c2.size
  have y4 := c4.size
  refine alive_ok4 fun H6 k6 => ⟨Pv.keep k6 (by simp; omega), twin_ok (v0.keep (k4.trans k6)) (by omega) fun full m H9 T9 k9 q9 => ⟨Pv.keep k9 (by have := k6.size; simp; omega), ?_⟩⟩
  have y6 := k6.size
  have y9 := k9.size
  refine New_x4 hc T9.view hv (by omega) fun p H12 P12 k12 => ⟨Pv.keep k12 (by simp; omega), ?_⟩
  have y12 := k12.size
  have kA : Keep W.heap H12 := ((k4.trans k6).trans k9).trans k12
  rcases P12 with ⟨hzz, t, tv, rfl, T12, fT⟩ | ⟨hzz, rfl⟩
  rotate_left
  · exact ite_t (bnet hzz) fun H14 c14 => ⟨rfl, (kA.ch (F := [])).trans c14 (by simp; omega) |>.keep (by simp)⟩
  replace T12 : Tab H12 t tv c vs := T12
  have hm : May4 c vs := may4 hzz
  have lT := T12.lts
  refine ite_f (bnei rfl) (ite_f rfl ?_)
  intro b18 H20 c20 g18 g18' hb18
  have k20 : Keep H12 H20 := c20.keep (by simp)
  have y20 := k20.size
  have hp3 : ∀ {A B : Hp} {G : List Nat}, Ch G A B → (∀ b ∈ G, b18 ≤ b) → b3 < A.size → Pv [b3] A B := fun {A B G} cc hG hA => Pv.ch cc fun b hb => ⟨by simp at hb; omega, fun hh => by have := hG b hh; simp at hb; omega⟩
  refine Fix.intro (fun (x : Sl × Int) H' => ∃ (i : Nat) (bs : List Nat), x.2 = (i : Int) ∧ i ≤ 4 ∧ bs.length = i ∧ (∀ b ∈ bs, b < 255) ∧ Own H' 5 1 x.1 (bs.flatMap cB) ∧ Bk H' b18 9 [.string (tx (bs.flatMap (bl 8)))] ∧ Keep H12 H' ∧ ∀ b ∈ fp x.1, b18 < b) (fun x _ => 4 - x.2.toNat)
    ⟨0, [], rfl, by omega, rfl, by simp, Own.nil _ _ _, hb18, k20, by simp [fp]⟩ ?_
  rintro ⟨fl, _⟩ H24 ⟨i, bs, rfl, hi, hbl, hbs, o24, b24, k24, f24⟩ rec hrec
  replace o24 : Own H24 5 1 fl (bs.flatMap cB) := o24
  replace f24 : ∀ b ∈ fp fl, b18 < b := f24
  simp only
  have y24 := k24.size
  have l24 := o24.fp_lt
  have e24 := b24.lt
  refine Join.intro (fun b H' => b = decide (i < xs.length ∧ i < 4) ∧ H24 = H') ?_ fun J hJ => ?_
  rotate_left
  · by_cases g : i < xs.length
    · refine ite_t (dect (by omega)) (hJ _ _ ⟨?_, rfl⟩)
      by_cases g4 : i < 4
      · exact (dect (by omega)).trans (dect ⟨g, g4⟩).symm
      · exact (decf (by omega)).trans (decf (by omega)).symm
    · exact ite_f (decf (by omega)) (hJ _ _ ⟨(decf (by omega)).symm, rfl⟩)
  rintro _ _ ⟨rfl, rfl⟩
  by_cases hil : i < xs.length ∧ i < 4
  · obtain ⟨x, hxi⟩ : ∃ x, xs[i]? = some x := ⟨_, List.getElem?_eq_getElem hil.1⟩
    obtain ⟨b, o, ha, hA⟩ := (x0.keep (kA.trans k24)).get hxi
    refine ite_t (dect hil) ⟨by omega, by omega, _, ha, ?_⟩
    rw [Int.toNat_natCast]
    refine ldI_of0 hA rfl ?_
    rw [show Int.tmod (x : Int) 255 = ((x % 255 : Nat) : Int) from rfl]
    have hb := Nat.mod_lt x (show 255 > 0 by omega)
    generalize x % 255 = y at hb ⊢
    refine nw_i fun H37 b37 k37 z37 => ⟨hp3 (k37.ch (F := [])) (by simp) (by omega), ?_⟩
    have y37 := k37.size
    refine apS_list (ys := [y]) (o24.kp4 k37) cB_len cB_ones rfl (by omega) rfl (by simp; omega) (by omega) fun fl' H43 o43 c43 f43 => ⟨hp3 c43 (fun b hb => by have := f24 b hb; omega) (by omega), ?_⟩
    have y43 := c43.size
    have b43 := (b24.keep k37).ch c43 (fun hh => by have := f24 b18 hh; omega)
    have k43 : Keep H12 H43 := ((k24.trans k37).ch (F := [])).trans c43 (fun b hb => .inr (by have := f24 b hb; omega)) |>.keep (by simp)
    have g43 : ∀ b ∈ fp fl', b18 < b := fun b hb => by
      rcases f43 b hb with h | h
      · exact f24 b h
      · omega
    refine Fix.intro (fun (z : Int) H' => ∃ j : Nat, z = 7 - (j : Int) ∧ j ≤ 8 ∧ Bk H' b18 9 [.string (tx (bs.flatMap (bl 8) ++ (bl 8 y).take j))] ∧ Own H' 5 1 fl' ((bs ++ [y]).flatMap cB) ∧ Keep H12 H') (fun z _ => (z + 1).toNat) ⟨0, by omega, by omega, by simpa using b43, o43, k43⟩ ?_
    rintro _ H48 ⟨j, rfl, hj, b48, o48, k48⟩ rec2 hrec2
    by_cases hj8 : j < 8
    · have ek : (7 : Int) - (j : Int) = ((7 - j : Nat) : Int) := by omega
      rw [ek] at hrec2 ⊢
      have eb := bit8 (x := y) (k := 7 - j) (by omega) (by omega)
      rw [eb, sign_of]
      have hbt : ∀ b : Bool, (0 : Int) ≤ ((b.toNat : Nat) : Int) ∧ ((b.toNat : Nat) : Int) ≤ IntKind.wrap .u8 (((b.toNat : Nat) : Int) + 1) ∧ IntKind.wrap .u8 (((b.toNat : Nat) : Int) + 1) ≤ ((⟨#[48, 49]⟩ : ByteArray).size : Int) := by decide
      obtain ⟨w1, w2, w3⟩ := hbt (y.testBit (7 - j))
      refine ite_t (dect (by omega)) ⟨by omega, by omega, w1, w2, w3, ldS_i b48 rfl ⟨?_, st_i b48 (by simp) fun H60 b60 s60 => ⟨hp3 s60.ch (by simp) (by have := k48.size; omega), ?_⟩⟩⟩
      · have htl' : (bs.flatMap (bl 8)).length = 8 * bs.length := fm8 bs
        rw [tx_size, tx_size, List.length_append, htl', List.length_take, bl_len]
        simp
        omega
      · have eg : (bl 8 y)[j]? = some (y.testBit (7 - j)) := by
          have := bl_get 8 y j hj8
          rw [show 8 - 1 - j = 7 - j from by omega] at this
          exact this
        have et : (bl 8 y).take (j + 1) = (bl 8 y).take j ++ [y.testBit (7 - j)] := by rw [List.take_add_one, eg]; rfl
        refine hrec2 _ _ ⟨j + 1, by rw [w64 (by omega)]; omega, by omega, ?_, o48.ch s60.ch (fun b hb => by have := g43 b hb; simp; omega), k48.same s60 g18⟩ (by rw [w64 (by omega)]; omega)
        rw [et, ← List.append_assoc, ← tx_app]
        exact b60
    · obtain rfl : j = 8 := by omega
      refine ite_f (decf (by omega)) ?_
      rw [show (i : Int) + 1 = ((i + 1 : Nat) : Int) from by omega, w64n (by omega)]
      refine hrec _ _ ⟨i + 1, bs ++ [y], rfl, by omega, by simp [hbl], fun b hb => ?_, o48, ?_, k48, g43⟩ (by simp; omega)
      · rcases List.mem_append.1 hb with h | h
        · exact hbs b h
        · simp at h; omega
      · rw [List.take_of_length_le (by rw [bl_len]; omega)] at b48
        rw [List.flatMap_append]
        simpa using b48
  refine ite_f (decf hil) ?_
  clear hrec rec hil
  -- the source
  have hb256 : ∀ b ∈ bs, b < 256 := fun b hb => by have := hbs b hb; omega
  have vf := o24.view cB_len (by omega)
  have hcf := vf.cells cB_len cB_ones
  have hfn := vf.n
  have hsid := stuff_id hbs
  have hfsz : (bytesOf bs).size = bs.length := bytesOf_size bs
  refine ⟨bytesOf bs, by rw [hfsz]; omega, by rw [bytesOf_cells hb256]; exact hcf.2, ?_⟩
  have elo : loOf (bytesOf bs).size 0 = 0 := by unfold loOf; omega
  have ehi : hiOf (bytesOf bs).size 0 (fl.n : Int) = (bytesOf bs).size := by unfold hiOf; rw [elo]; omega
  have hcut : Cut (bytesOf bs) (bytesOf bs).size 0 bs (bytesOf bs).size := by
    have := cut_stuff (f := bytesOf bs) bs 0 fun i y hy => by
      rw [hsid] at hy
      obtain ⟨q1, q2⟩ := bytesOf_get hb256 hy
      rw [Nat.zero_add, byt_list q1, q2]
    rw [Nat.zero_add, hsid, ← hfsz] at this
    exact this
  refine Open_ok (xs := bs) (e := (bytesOf bs).size) (by omega) (by rw [elo, ehi]; exact hcut) fun k H66 S66 k66 g66 => ⟨Pv.keep k66 (by simp; omega), ?_⟩
  rw [elo] at S66
  have hr := remB_fst bs 0
  have hrl := remB_len bs 0
  generalize remB 0 7 bs = r at S66 hr hrl
  have y66 := k66.size
  intro b68 H70 c70 g68 g68'
  have k70 : Keep H66 H70 := c70.keep (by simp)
  have y70 := k70.size
  unfold huff_Table_All.s
  intro pa H72 c72 ga ga' hpa
  have k72 : Keep H70 H72 := c72.keep (by simp)
  have y72 := k72.size
  have S72 := (S66.keep k70).keep k72
  have b72 := ((b24.keep k66).keep k70).keep k72
  have lk := S66.lt
  refine ⟨Pv.keep k72 (by simp; omega), Join.intro (fun b H' => b = false ∧ H72 = H') ?_ fun J hJ => ite_f rfl (hJ _ _ ⟨rfl, rfl⟩)⟩
  rintro _ _ ⟨rfl, rfl⟩
  refine ite_f rfl (Join.intro (fun x H' => (∃ m : Nat, x = (m : Int) ∧ m < 8) ∧ H72 = H') ?_ fun J hJ => mod8 fun m hm => hJ _ _ ⟨⟨m, rfl, hm⟩, rfl⟩)
  rintro _ _ ⟨⟨m8, rfl, hm8⟩, rfl⟩
  have htl : (bs.flatMap (bl 8)).length = 8 * bs.length := fm8 bs
  refine Join.intro (fun x H' => (∃ n : Nat, x = (n : Int) ∧ n ≤ 8 * bs.length) ∧ H72 = H') ?_ fun J hJ => ldS_i b72 rfl ?_
  rotate_left
  · rw [tx_size, htl]
    by_cases g : ((8 * bs.length : Nat) : Int) < (m8 : Int)
    · refine ite_t (dect g) (ldS_i b72 rfl ?_)
      rw [tx_size, htl]
      exact hJ _ _ ⟨⟨8 * bs.length, rfl, Nat.le_refl _⟩, rfl⟩
    · exact ite_f (decf g) (hJ _ _ ⟨⟨m8, rfl, by omega⟩, rfl⟩)
  rintro _ _ ⟨⟨n, rfl, hn⟩, rfl⟩
  refine Skip_ok S72 (by omega) fun _ _ H86 S86 s86 => ⟨fun j hj => s86.block j (by simp at hj; omega), ?_⟩
  rw [Int.toNat_natCast, Nat.zero_add] at S86
  have y86 := s86.size
  have b86 := b72.same s86 (by omega)
  have hpa86 := hpa.same s86 (by omega)
  refine ldS_i b86 rfl ?_
  rw [tx_size, htl]
  refine ⟨by omega, by omega, st_i b86 (by simp) fun H92 b92 s92 => ⟨fun j hj => s92.block j (by simp at hj; omega), ?_⟩⟩
  generalize hD : (bs.flatMap (bl 8)).drop n = D
  have hex : (tx (bs.flatMap (bl 8))).extract (Int.toNat ((n : Nat) : Int)) (8 * bs.length) = tx D := by
    rw [← hD, Int.toNat_natCast]
    unfold tx
    apply ByteArray.ext
    rw [ByteArray.data_extract]
    apply Array.toList_inj.1
    simp only [bytesOf, List.extract_toArray, List.map_drop]
    rw [List.extract_eq_take_drop, List.take_of_length_le (by simp [htl])]
  rw [hex] at b92
  have y92 := s92.size
  have S92 := S86.ch s92.ch (by simp; omega)
  have hpa92 := hpa86.same s92 (by omega)
  generalize hlq : r.drop n = l at S92
  have hlD : l.map (·.1) = D := by rw [← hlq, List.map_drop, hr, hD]
  have hDl : D.length = l.length := by rw [← hlD, List.length_map]
  have hD32 : D.length ≤ 32 := by rw [← hD, List.length_drop, htl]; omega
  have k92 : Keep H12 H92 := ((((k24.trans k66).trans k70).trans k72).same s86 (by omega)).same s92 g18
  have hbts : bts l = D.take 16 := by unfold bts; rw [hlD]
  refine Read_ok4 (T12.keep k92) hm S92 (fun hh => by have := lT k hh; omega) fun H95 S95 c95 => ⟨Pv.ch c95 (by simp; omega), ?_⟩
  have y95 := c95.size
  have b95 := b92.ch c95 (by simp; omega)
  have hpa95 := hpa92.ch c95 (by simp; omega)
  have k95 : Keep H12 H95 := (k92.ch (F := [])).trans c95 (by simp; omega) |>.keep (by simp)
  generalize hrd : rd4 c vs (bts l) = rv at S95
  intro b97 H98 c98 g97 g97' b99 H102 c102 g99 g99'
  have k98 : Keep H95 H98 := c98.keep (by simp)
  have y98 := k98.size
  have k102 : Keep H95 H102 := (k98.ch (F := [])).trans c102 (by simp; omega) |>.keep (by simp)
  have y102 := c102.size
  refine Join.intro (fun b H' => b = false ∧ H102 = H') ?_ fun J hJ => ite_f rfl (hJ _ _ ⟨by simp, rfl⟩)
  rintro _ _ ⟨rfl, rfl⟩
  refine ite_f rfl ?_
  intro b108 H110 c110 g108 g108' j3 j68 j97 j99 j108
  have k110 : Keep H95 H110 := k102.trans (c110.keep (by simp))
  have y110 := c110.size
  have hpl := prs_len hm
  have cw : CW W.heap k t D (rv.1 : Int) (rv.2.1 : Int) (l.drop rv.2.2) (bytesOf bs).size (n + rv.2.2) b3 b18 b68 b97 b99 b108 pa H110 := ⟨b95.keep k110, j68, j97, j99, hpa95.keep k110, S95.keep k110, (kA.trans k95).trans k110, by omega, by omega, by omega, by omega, by omega, by omega, by omega, by omega, by omega, by omega, by omega, by omega, by omega, by omega⟩
  clear j68 j97 j99 b95 hpa95 S95
  have hitD : ∀ {i n w : Nat}, (cds (cnt c) 16)[i]? = some (n, w) → (Hit (cnt c) (D.take 16) i n w ↔ (n ≤ D.length ∧ D.take n = bl n w)) := fun {i n w} hg => by
    have := cds_fit hm.fit hg
    constructor
    · rintro ⟨_, q1, q2⟩
      rw [List.length_take] at q1
      rw [List.take_take, Nat.min_eq_left (by omega)] at q2
      exact ⟨by omega, q2⟩
    · rintro ⟨q1, q2⟩
      refine ⟨hg, by rw [List.length_take]; omega, ?_⟩
      rw [List.take_take, Nat.min_eq_left (by omega)]
      exact q2
  rw [hbts] at hrd
  refine Rg_i fun rr H114 hrr k114 s114 hDf hlp => ?_
  have hz := j108.lt
  have lt := cw.lt
  refine All_seq4 (T12.keep ((k95.trans k110).trans k114)) hm hv (cw.ka.keep k114) _ _ [H110.size + 1, b3, b108] (fun i H' => CW W.heap k t D (rv.1 : Int) (rv.2.1 : Int) (l.drop rv.2.2) (bytesOf bs).size (n + rv.2.2) b3 b18 b68 b97 b99 b108 pa H' ∧ (∃ v, Bk H' b3 4 [.bool v]) ∧ (∃ ob : Bool, Bk H' b108 4 [.bool ob] ∧ (ob = true ↔ ∃ j, j < i ∧ ∃ n w, (cds (cnt c) 16)[j]? = some (n, w) ∧ D.length ≤ n ∧ (bl n w).take D.length = D)) ∧ (∀ j, j < i → ∀ n w, (cds (cnt c) 16)[j]? = some (n, w) → ¬ (n ≤ D.length ∧ D.take n = bl n w)) ∧ Lp H' (H110.size + 1) rr ∧ Dfr [H110.size] H')
    (fun H' => CW W.heap k t D (rv.1 : Int) (rv.2.1 : Int) (l.drop rv.2.2) (bytesOf bs).size (n + rv.2.2) b3 b18 b68 b97 b99 b108 pa H' ∧ Bk H' b3 4 [.bool true] ∧ Lp H' (H110.size + 1) (dn rr .ret) ∧ Dfr [H110.size] H') ?_ ?_ ?_ ?_ ?_ ?_
  · intro x hx
    have h0 : x ∉ t :: fp tv := fun hh => by
      have := lT x hh
      have := fT x hh
      have := (cw.kp).size
      simp at hx; omega
    simp at hx
    refine ⟨by omega, fun hh => ?_⟩
    rcases List.mem_cons.1 hh with rfl | hh
    · omega
    · exact h0 hh
  · exact ⟨cw.ch (k114.ch (F := [])) (by simp), ⟨_, j3.keep k114⟩, ⟨false, j108.keep k114, by simp⟩, fun j hj => by omega, hlp, hDf, by simp, trivial⟩
  · rintro i H H' ⟨h1, ⟨v, h2⟩, ⟨ob, h3, h3'⟩, h4, h5, h6⟩ kk
    exact ⟨h1.ch (kk.ch (F := [])) (by simp), ⟨v, h2.keep kk⟩, ⟨ob, h3.keep kk, h3'⟩, h4, h5.ch (kk.ch (F := [])) (by simp), h6.keep kk⟩
  · rintro i x H117 K hx ⟨h1, ⟨v3, h2⟩, ⟨ob, h3, h3'⟩, h4, h5, h6⟩ c117 hT hF
    rw [List.getElem?_map] at hx
    cases hp : (prs c vs)[i]? with
    | none => rw [hp] at hx; cases hx
    | some q =>
      obtain ⟨v, nn, w⟩ := q
      rw [hp] at hx
      injection hx with hx
      subst hx
      obtain ⟨q1, q2⟩ := prs_of hp
      have z5 := h5.lt
      refine ⟨h5, h5, Up_s h5 fun H120 s120 l120 => ?_⟩
      have n1 := h1.ch s120.ch (by simp; omega)
      have n2 := h2.same s120 (by omega)
      have n3 := h3.same s120 (by omega)
      have n6 : Dfr [H110.size] H120 := Dfr.ch s120.ch h6 (by simp)
      refine ldS_i n1.k18 rfl (lbegins_ok (a := bl nn w) (b := D) ?_)
      rw [bl_len]
      by_cases hh : nn ≤ D.length ∧ D.take nn = bl nn w
      · have er := rd4_hit hm ((hitD q2).2 hh) q1
        rw [hrd] at er
        subst er
        refine ite_t (dect hh) (Join.intro (fun (_ : Unit) H' => CW W.heap k t D ((v, 0, nn).1 : Int) ((v, 0, nn).2.1 : Int) (l.drop (v, 0, nn).2.2) (bytesOf bs).size (n + (v, 0, nn).2.2) b3 b18 b68 b97 b99 b108 pa H' ∧ Bk H' b3 4 [.bool true] ∧ Same H120 H' b3) ?_ fun J hJ => ?_)
        · rintro ⟨⟩ H127 ⟨p1, p2, p3⟩
          have l127 := l120.ch p3.ch (by simp; omega)
          have d127 : Dfr [H110.size] H127 := Dfr.ch p3.ch n6 (by simp; omega)
          refine ⟨l127, hF _ ⟨p1.ch putL_same.ch (by simp; omega), p2.same putL_same (by omega), putL_lp l127, Dfr.ch putL_same.ch d127 (by simp)⟩ ?_⟩
          exact ((s120.ch.mono (by simp)).trans p3.ch (by simp)).trans putL_same.ch (by simp)
        · refine ldI_i n1.k99 rfl (ite_t rfl (ldI_i n1.k97 rfl (ite_t (beqi rfl) (ldP_i n1.k68 rfl (ldS_i n1.k18 rfl (Left_ok n1.src ⟨by rw [n1.k18.cell]; rfl, ?_⟩))))))
          have e1 : ((((l.drop nn).length : Nat) : Int) == IntKind.wrap .i64 (((tx D).size : Int) - ((tx (bl nn w)).size : Int))) = true := beqi (by rw [tx_size, tx_size, bl_len, List.length_drop, w64 (by omega)]; omega)
          refine st_i n2 (by simp) fun H140 b140 s140 => hJ _ _ ⟨n1.ch s140.ch (by simp), ?_, s140⟩
          have e2 : (itm (v, nn, w)).2 = tx (bl nn w) := rfl
          rw [e2, e1] at b140
          exact b140
      · refine ite_f (decf hh) (ldB_i n3 rfl ?_)
        have h4' : ∀ j, j < i + 1 → ∀ n w, (cds (cnt c) 16)[j]? = some (n, w) → ¬ (n ≤ D.length ∧ D.take n = bl n w) := fun j hj n' w' hg => by
          by_cases hji : j < i
          · exact h4 j hji n' w' hg
          · obtain rfl : j = i := by omega
            have := hg.symm.trans q2
            simp at this
            obtain ⟨rfl, rfl⟩ := this
            exact hh
        have fin : ∀ (o2 : Bool) {H150 : Hp}, Bk H150 b108 4 [.bool o2] → Same H120 H150 b108 → (o2 = true ↔ ∃ j, j < i + 1 ∧ ∃ n w, (cds (cnt c) 16)[j]? = some (n, w) ∧ D.length ≤ n ∧ (bl n w).take D.length = D) → Lp H150 (H110.size + 1) (bsy rr) ∧ K true (putL H150 (H110.size + 1) rr) := fun o2 {H150} b150 s150 ho => by
          have l150 := l120.ch s150.ch (by simp; omega)
          have d150 : Dfr [H110.size] H150 := Dfr.ch s150.ch n6 (by simp; omega)
          refine ⟨l150, hT _ ⟨(n1.ch s150.ch (by simp)).ch putL_same.ch (by simp; omega), ⟨v3, (n2.same s150 (by omega)).same putL_same (by omega)⟩, ⟨o2, b150.same putL_same (by omega), ho⟩, h4', putL_lp l150, Dfr.ch putL_same.ch d150 (by simp)⟩ ?_⟩
          exact ((s120.ch.mono (by simp)).trans s150.ch (by simp)).trans putL_same.ch (by simp)
        cases ob with
        | true =>
          refine ite_t rfl (st_i n3 (by simp) fun H145 b145 s145 => fin true b145 s145 ⟨fun _ => ?_, fun _ => rfl⟩)
          obtain ⟨j, g1, g2⟩ := h3'.1 rfl
          exact ⟨j, by omega, g2⟩
        | false =>
          refine ite_f rfl (ldS_i n1.k18 rfl (lbegins_ok (a := D) (b := bl nn w) ?_))
          rw [bl_len]
          refine st_i n3 (by simp) fun H150 b150 s150 => fin _ b150 s150 ?_
          rw [decide_eq_true_iff]
          constructor
          · exact fun g => ⟨i, by omega, nn, w, q2, g⟩
          · rintro ⟨j, g1, n', w', g2, g3⟩
            by_cases hji : j < i
            · have := h3'.2 ⟨j, hji, n', w', g2, g3⟩
              cases this
            · obtain rfl : j = i := by omega
              have := g2.symm.trans q2
              simp at this
              obtain ⟨rfl, rfl⟩ := this
              exact g3
  · rintro H118 ⟨h1, ⟨v3, h2⟩, ⟨ob, h3, h3'⟩, h4, h5, h6⟩ c118
    rw [List.length_map, hpl] at h3' h4
    have z5 := h5.lt
    have hcl : (cds (cnt c) 16).length = vs.length := by rw [cds_len, hm.len]
    have hno : ∀ i n w, ¬ Hit (cnt c) (D.take 16) i n w := fun i n w hh => by
      have hil := (List.getElem?_eq_some_iff.1 hh.1).1
      exact h4 i (by omega) n w hh.1 ((hitD hh.1).1 hh)
    refine .inl ⟨h5, Up_s h5 fun H152 s152 _ => ?_⟩
    have n1 := h1.ch s152.ch (by simp; omega)
    have n2 := h2.same s152 (by omega)
    have n3 := h3.same s152 (by omega)
    have n6 : Dfr [H110.size] H152 := Dfr.ch s152.ch h6 (by simp)
    have hrv : rv = (0, if ob = true ∧ D.length < 16 then 44 else 43, 0) := by
      rw [← hrd]
      by_cases ho : ob = true ∧ D.length < 16
      · rw [if_pos ho]
        obtain ⟨j, g1, n', w', g2, g3⟩ := h3'.1 ho.1
        refine rd4_open hno ⟨by rw [List.length_take]; omega, j, n', w', g2, ?_⟩
        rw [List.take_of_length_le (by omega)]
        exact g3
      · rw [if_neg ho]
        refine rd4_none hno ?_
        rintro ⟨g0, j, n', w', g2, g3⟩
        rw [List.length_take] at g0
        rw [List.take_of_length_le (by omega)] at g3
        have hjl := (List.getElem?_eq_some_iff.1 g2).1
        exact ho ⟨h3'.2 ⟨j, by omega, n', w', g2, g3⟩, by omega⟩
    refine Join.intro (fun x H' => x = ((if ob = true ∧ D.length < 16 then 44 else 43 : Nat) : Int) ∧ H152 = H') ?_ fun J hJ => ?_
    rotate_left
    · refine Join.intro (fun b H' => b = decide (ob = true ∧ D.length < 16) ∧ H152 = H') ?_ fun J2 hJ2 => ldB_i n3 rfl ?_
      · rintro _ _ ⟨rfl, rfl⟩
        by_cases ho : ob = true ∧ D.length < 16
        · exact ite_t (dect ho) (hJ _ _ ⟨by rw [if_pos ho]; rfl, rfl⟩)
        · exact ite_f (decf ho) (hJ _ _ ⟨by rw [if_neg ho]; rfl, rfl⟩)
      · cases ob with
        | true =>
          refine ite_t rfl (ldS_i n1.k18 rfl (hJ2 _ _ ⟨?_, rfl⟩))
          rw [tx_size]
          by_cases h16 : D.length < 16
          · exact (dect (by omega)).trans (dect ⟨rfl, h16⟩).symm
          · exact (decf (by omega)).trans (decf fun x => h16 x.2).symm
        | false => exact ite_f rfl (hJ2 _ _ ⟨(decf (by simp)).symm, rfl⟩)
    rintro _ _ ⟨rfl, rfl⟩
    subst hrv
    refine ldI_i n1.k99 rfl (ite_t (beqi rfl) (ldI_i n1.k97 rfl (ite_t rfl (ldP_i n1.k68 rfl (ldS_i n1.k18 rfl (Left_ok n1.src ⟨by rw [n1.k18.cell]; rfl, st_i n2 (by simp) fun H168 b168 s168 => ?_⟩))))))
    have e1 : (((l.drop 0).length : Int) == ((tx D).size : Int)) = true := beqi (by rw [tx_size, List.drop_zero]; omega)
    rw [e1] at b168
    refine tkD_ok (Dfr.ch s168.ch n6 (by simp; omega)) fun H169 c169 _ => ldB_i (b168.ch c169 (by simp; omega)) rfl ⟨rfl, ?_⟩
    exact ((n1.kp.same s168 (by omega)).ch (F := [])).trans c169 (by simp; have := kA.size; omega) |>.keep (by simp)
  · rintro H118 ⟨h1, h2, h5, h6⟩ c118
    have z5 := h5.lt
    refine .inr ⟨h5, Up_s h5 fun H187 s187 _ => tkD_ok (Dfr.ch s187.ch h6 (by simp)) fun H188 c188 _ => ldB_i ((h2.same s187 (by omega)).ch c188 (by simp; omega)) rfl ⟨rfl, ?_⟩⟩
    exact ((h1.kp.same s187 (by omega)).ch (F := [])).trans c188 (by simp; have := kA.size; omega) |>.keep (by simp)
end Go.Proofs.Ytbefacccdaafeaa.G
