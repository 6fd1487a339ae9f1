/- Of this text what the row needs. -/
import Derived.Test.YtmnoecpnoofdjaaQPenCostZ18h
namespace Go.Proofs.Ytmnoecpnoofdjaa.G
open Go.RowKit
set_option linter.unusedVariables false
set_option linter.unusedSimpArgs false
set_option maxRecDepth 20000
section
variable {j : Jb} {cs : List Cp} {ps : List Pa} {TV : Nat → List Nat} {BL : List (Ints 64)}
theorem usedD (g : Good8 j cs ps TV BL) (hall : ∀ m ∈ (mJ j cs ps BL).1, hasM j TV ps m) {i k : Nat} (hk : k < 256) (h : cnt18 (selD ps) (mJ j cs ps BL).1 (256 * i + k) ≠ 0) : Chk4 (tbl j TV i).1 (tbl j TV i).2 = 0 ∧ k ∈ (tbl j TV i).2 := by
  obtain ⟨m, hm, hs⟩ := List.countP_pos_iff.1 (Nat.pos_of_ne_zero h)
  obtain ⟨hP, hR, _⟩ := ochk_no g.ck
  obtain ⟨hmp, ⟨hx1, _, _⟩, _⟩ := mJ_all.1 m hm
  have hs' : selD ps m = some (256 * i + k) := by simpa using hs
  unfold selD at hs'
  by_cases hf : m.2.1 = true
  · rw [if_pos hf] at hs'
    obtain ⟨q, hq, e⟩ := Option.map_eq_some_iff.1 hs'
    have e1 : q.dc.toNat = i := by omega
    have e2 : m.2.2.1 = k := by omega
    have h1 := (rdE_all8 (hR rfl) q (List.mem_of_getElem? hq)).1
    have h2 := hall m hm
    unfold hasM tbM at h2
    rw [if_pos hf, jT_at hq, e2] at h2
    rw [e1] at h1 h2
    exact ⟨h1, h2⟩
  · rw [if_neg hf] at hs'; cases hs'
theorem usedA (g : Good8 j cs ps TV BL) (hall : ∀ m ∈ (mJ j cs ps BL).1, hasM j TV ps m) {i k : Nat} (hk : k < 256) (h : cnt18 (selA ps) (mJ j cs ps BL).1 (256 * i + k) ≠ 0) : Chk4 (tbl j TV (4 + i)).1 (tbl j TV (4 + i)).2 = 0 ∧ k ∈ (tbl j TV (4 + i)).2 := by
  obtain ⟨m, hm, hs⟩ := List.countP_pos_iff.1 (Nat.pos_of_ne_zero h)
  obtain ⟨hP, hR, _⟩ := ochk_no g.ck
  obtain ⟨hmp, ⟨hx1, _, _⟩, _⟩ := mJ_all.1 m hm
  have hs' : selA ps m = some (256 * i + k) := by simpa using hs
  unfold selA at hs'
  by_cases hf : m.2.1 = true
  · rw [if_pos hf] at hs'; cases hs'
  · rw [if_neg hf] at hs'
    obtain ⟨q, hq, e⟩ := Option.map_eq_some_iff.1 hs'
    have e1 : q.ac.toNat = i := by omega
    have e2 : m.2.2.1 = k := by omega
    have h1 := (rdE_all8 (hR rfl) q (List.mem_of_getElem? hq)).2
    have h2 := hall m hm
    unfold hasM tbM at h2
    rw [if_neg hf, jT_at hq, e2] at h2
    rw [e1] at h1 h2
    exact ⟨h1, h2⟩
end
set_option maxHeartbeats 4000000 in
theorem PenCost_row (g w h : Int) (s t : Sl) (d0 : Cn) (e0 : Sl) (d1 : Cn) (e1 : Sl) (d2 : Cn) (e2 : Sl) (d3 : Cn) (e3 : Sl) (a0 : Cn) (f0 : Sl) (a1 : Cn) (f1 : Sl) (a2 : Cn) (f2 : Sl) (a3 : Cn) (f3 : Sl) (f u : Int) (bsl : Sl) (W : World)
    (hg : 0 ≤ g ∧ g ≤ 255) (hw : -9223372036854775808 ≤ w ∧ w ≤ 9223372036854775807) (hh : -9223372036854775808 ≤ h ∧ h ≤ 9223372036854775807)
    (hs : SlH W.heap (some 1048576) 4 4 (X100 (some 1048576) W.heap) s) (ht : SlH W.heap (some 1048576) 16 3 (X76 (some 1048576) W.heap) t)
    (c0 : ∀ v ∈ d0.1, 0 ≤ v ∧ v ≤ 255) (z0 : SlH W.heap (some 1048576) 1 1 (X5 (some 1048576) W.heap) e0) (c1 : ∀ v ∈ d1.1, 0 ≤ v ∧ v ≤ 255) (z1 : SlH W.heap (some 1048576) 1 1 (X5 (some 1048576) W.heap) e1)
    (c2 : ∀ v ∈ d2.1, 0 ≤ v ∧ v ≤ 255) (z2 : SlH W.heap (some 1048576) 1 1 (X5 (some 1048576) W.heap) e2) (c3 : ∀ v ∈ d3.1, 0 ≤ v ∧ v ≤ 255) (z3 : SlH W.heap (some 1048576) 1 1 (X5 (some 1048576) W.heap) e3)
    (b0 : ∀ v ∈ a0.1, 0 ≤ v ∧ v ≤ 255) (y0 : SlH W.heap (some 1048576) 1 1 (X5 (some 1048576) W.heap) f0) (b1 : ∀ v ∈ a1.1, 0 ≤ v ∧ v ≤ 255) (y1 : SlH W.heap (some 1048576) 1 1 (X5 (some 1048576) W.heap) f1)
    (b2 : ∀ v ∈ a2.1, 0 ≤ v ∧ v ≤ 255) (y2 : SlH W.heap (some 1048576) 1 1 (X5 (some 1048576) W.heap) f2) (b3 : ∀ v ∈ a3.1, 0 ≤ v ∧ v ≤ 255) (y3 : SlH W.heap (some 1048576) 1 1 (X5 (some 1048576) W.heap) f3)
    (hf : -9223372036854775808 ≤ f ∧ f ≤ 9223372036854775807) (hu : -9223372036854775808 ≤ u ∧ u ≤ 9223372036854775807) (hbs : SlH W.heap (some 1048576) 128 64 (X57 (some 1048576) W.heap) bsl) :
    mosaiclaw18_PenCost.s g w h s t d0 e0 d1 e1 d2 e2 d3 e3 a0 f0 a1 f1 a2 f2 a3 f3 f u bsl W.heap (fun r H' => r = true ∧ Keep W.heap H') := by
  obtain ⟨cs, ps, TV, J⟩ := job_view8 (j := ⟨g, w, h, s, t, (d0, e0), (d1, e1), (d2, e2), (d3, e3), (a0, f0), (a1, f1), (a2, f2), (a3, f3), f, u⟩) hs ht (by
    intro x hx
    simp only [Jb.sp, List.mem_cons, List.mem_nil_iff, or_false] at hx
    rcases hx with rfl | rfl | rfl | rfl | rfl | rfl | rfl | rfl
    · exact ⟨c0, z0⟩
    · exact ⟨c1, z1⟩
    · exact ⟨c2, z2⟩
    · exact ⟨c3, z3⟩
    · exact ⟨b0, y0⟩
    · exact ⟨b1, y1⟩
    · exact ⟨b2, y2⟩
    · exact ⟨b3, y3⟩) hf hu
  obtain ⟨BL, hbV, hbv, hbl⟩ := blocks_view8 hbs
  generalize hJ : (⟨g, w, h, s, t, (d0, e0), (d1, e1), (d2, e2), (d3, e3), (a0, f0), (a1, f1), (a2, f2), (a3, f3), f, u⟩ : Jb) = j at J
  have key : mosaiclaw18_PenCost.s j.g j.w j.h j.s j.t j.d0.1 j.d0.2 j.d1.1 j.d1.2 j.d2.1 j.d2.2 j.d3.1 j.d3.2 j.a0.1 j.a0.2 j.a1.1 j.a1.2 j.a2.1 j.a2.2 j.a3.1 j.a3.2 j.f j.u bsl W.heap (fun r H' => r = true ∧ Keep W.heap H') := by
    clear hJ c0 c1 c2 c3 b0 b1 b2 b3 z0 z1 z2 z3 y0 y1 y2 y3 hs ht hg hw hh hf hu hbs
    unfold mosaiclaw18_PenCost.s
    intro p1 H2 k2' g1 g1'
    have k2 : Keep W.heap H2 := k2'.keep (by simp)
    have y2 := k2.size
    refine awake18_ok fun H4 k4 => ⟨Pv.keep k4 (by simp; omega), ?_⟩
    have y4 := k4.size
    have k4' := k2.trans k4
    refine twin18_ok (J.keep k4') fun k H7 Jk sk k7 => ⟨Pv.keep k7 (by simp; omega), ?_⟩
    have y7 := k7.size
    have k7' := k4'.trans k7
    refine Encode_r sk Jk (hbV.keep k7') hbl hbv fun x9 H10 r9 k10 => ⟨Pv.keep k10 (by simp; omega), ?_⟩
    have y10 := k10.size
    have k10' := k7'.trans k10
    refine twin18_ok (J.keep k10') fun k H13 Jk sk k13 => ⟨Pv.keep k13 (by simp; omega), ?_⟩
    have y13 := k13.size
    have k13' := k10'.trans k13
    refine Count_r sk Jk (hbV.keep k13') hbl hbv fun x15 H16 r15 k16 => ⟨Pv.keep k16 (by simp; omega), ?_⟩
    have k16' := k13'.trans k16
    have y16 := k16.size
    clear Jk sk
    intro p18 H19 c19 g18 g18' p20 H23 c23 g20 g20'
    have y19 := c19.size
    have y23 := c23.size
    have k23 : Keep W.heap H23 := ((k16'.trans (c19.keep (by simp))).ch (F := [])).trans c23 (by simp; omega) |>.keep (by simp)
    refine Join.intro (fun (x : Bool) H' => x = (x9.2 != 0 || x15.2.2.2.2.2.2.2.2 != 0) ∧ H23 = H') ?_ fun J24 hJ24 => ?_
    rotate_left
    · by_cases he : x9.2 = 0
      · exact ite_f (bnei he) (hJ24 _ _ ⟨by rw [bnei he, Bool.false_or], rfl⟩)
      · exact ite_t (bnet he) (hJ24 _ _ ⟨by rw [bnet he, Bool.true_or], rfl⟩)
    rintro _ _ ⟨rfl, rfl⟩
    by_cases hgood : x9.2 = 0 ∧ x15.2.2.2.2.2.2.2.2 = 0
    rotate_left
    · have hor : (x9.2 != 0 || x15.2.2.2.2.2.2.2.2 != 0) = true := by
        rw [Bool.or_eq_true, bne_iff_ne, bne_iff_ne]
        by_cases q : x9.2 = 0
        · exact .inr fun q2 => hgood ⟨q, q2⟩
        · exact .inl q
      refine ite_t hor (Join.intro (fun (x : Bool) H' => x = true ∧ H23 = H') (fun b H' hb => ⟨hb.1, by rw [← hb.2]; exact k23⟩) fun J27 hJ27 => ite_t rfl ?_)
      by_cases hc : x15.2.2.2.2.2.2.2.2 = 0
      · exact ite_t (beqi hc) (hJ27 _ _ ⟨rfl, rfl⟩)
      · refine ite_f (beqf hc) (hJ27 _ _ ⟨bnet fun q => ?_, rfl⟩)
        rcases r15 with ⟨_, r15⟩ | r15
        · rcases r9 with r9 | ⟨r9, _⟩
          · exact r9 q
          · exact r15 r9
        · rw [r15] at hc; exact hc rfl
    obtain ⟨he, hc⟩ := hgood
    rcases r9 with r9 | ⟨gd, hall, hbits, rfl, bs, hbs, hpad, htx⟩
    · exact absurd he r9
    rcases r15 with ⟨r15, _⟩ | rfl
    · exact absurd hc r15
    clear he hc
    refine ite_f rfl fun t1 t18 t20 => ?_
    replace t1 : Bk H23 p1 32 j.cells := t1
    dsimp only at t18 t20 ⊢
    rw [cn_cells] at t18 t20
    obtain ⟨hMa, hMl⟩ := mJ_all (j := j) (cs := cs) (ps := ps) (BL := BL)
    obtain ⟨hP, hR, _, _, _⟩ := ochk_no gd.ck
    have hD4 : ∀ p ∈ ps, p.dc.toNat < 4 ∧ p.ac.toNat < 4 := fun p hp => by
      obtain ⟨i, hi⟩ := List.getElem?_of_mem hp
      obtain ⟨pd, pa, _, _⟩ := part_tabs hP J hi
      omega
    have htot := bitsM_len (j := j) (TV := TV) hD4 (mJ j cs ps BL).1 hMa
    rw [rows8 _ (fun i => tbl j TV i) true, rows8 _ (fun i => tbl j TV (4 + i)) false, ← sumN_add] at htot
    have uD := fun {i k : Nat} (hk : k < 256) hne => usedD (i := i) gd hall hk hne
    have uA := fun {i k : Nat} (hk : k < 256) hne => usedA (i := i) gd hall hk hne
    have leD := cnt18_le (selD ps) (mJ j cs ps BL).1
    have leA := cnt18_le (selA ps) (mJ j cs ps BL).1
    rw [htx]
    generalize hFD : cnt18 (selD ps) (mJ j cs ps BL).1 = FD at *
    generalize hFA : cnt18 (selA ps) (mJ j cs ps BL).1 = FA at *
    have hrow : ∀ i, i < 4 → sumN (fun i => row8 FD (fun i => tbl j TV i) true i + row8 FA (fun i => tbl j TV (4 + i)) false i) (i + 1) ≤ 2147483648 := fun i hi => by
      have mono : ∀ a b, a ≤ b → sumN (fun i => row8 FD (fun i => tbl j TV i) true i + row8 FA (fun i => tbl j TV (4 + i)) false i) a ≤ sumN (fun i => row8 FD (fun i => tbl j TV i) true i + row8 FA (fun i => tbl j TV (4 + i)) false i) b := fun a b hab => by
        obtain ⟨d, rfl⟩ : ∃ d, b = a + d := ⟨b - a, by omega⟩
        rw [sumN_split]; omega
      have := mono (i + 1) 4 (by omega)
      omega
    refine Fix.intro (fun (x : Bool × Int × Int) H' => ∃ i : Nat, x = (true, ((sumN (fun i => row8 FD (fun i => tbl j TV i) true i + row8 FA (fun i => tbl j TV (4 + i)) false i) i : Nat) : Int), (i : Int)) ∧ i ≤ 4 ∧ Keep H23 H') (fun x _ => 4 - x.2.2.toNat) ⟨0, rfl, by omega, Keep.refl _⟩ ?_
    rintro _ H33 ⟨i, rfl, hi, k33⟩ rec hrec
    dsimp only
    by_cases hi4 : i < 4
    · have hri := hrow i hi4
      rw [sumN] at hri
      refine ite_t (dect (by omega)) (Join.intro (fun (x : Bool × Int) H' => x = (true, ((sumN (fun i => row8 FD (fun i => tbl j TV i) true i + row8 FA (fun i => tbl j TV (4 + i)) false i) (i + 1) : Nat) : Int)) ∧ Keep H23 H') ?_ fun J36 hJ36 => ?_)
      · rintro _ H38 ⟨rfl, k38⟩
        dsimp only
        rw [show (i : Int) + 1 = ((i + 1 : Nat) : Int) from by omega, w64n (by omega)]
        exact hrec _ _ ⟨i + 1, rfl, by omega, k38⟩ (by dsimp only; omega)
      have u18 := t18.keep k33
      have u20 := t20.keep k33
      refine Fix.intro (fun (x : Bool × Bool × Int) H' => ∃ n : Nat, x = (anyN (fun k => FD (256 * i + k)) n, anyN (fun k => FA (256 * i + k)) n, (n : Int)) ∧ n ≤ 256 ∧ H33 = H') (fun x _ => 256 - x.2.2.toNat) ⟨0, rfl, by omega, rfl⟩ ?_
      rintro _ _ ⟨n, rfl, hn, rfl⟩ rec2 hrec2
      dsimp only
      by_cases hn4 : n < 256
      · have cell : ∀ {b : Nat} {T : TypeId} {F : Nat → Nat} {K : Int → Prop}, Bk H33 b T (ints .i64 (cntL F)) → K ((F (256 * i + n) : Nat) : Int) → ldI .i64 H33 (((⟨b, 0, none⟩ : Addr).add (Int.toNat (i : Int) * 256)).add (Int.toNat (n : Int) * 1)) K := fun {b T F K} hb hK => by
          rw [add_mk, add_mk, Int.toNat_natCast, Int.toNat_natCast, show 0 + i * 256 + n * 1 = 256 * i + n from by omega]
          exact ldI_i hb (cntL_get (by omega)) hK
        have pos : ∀ x : Nat, decide ((0 : Int) < (x : Int)) = decide (0 < x) := fun x => decide_eq_decide.2 (by omega)
        refine ite_t (dect (by omega)) (Join.intro (fun (x : Bool × Bool) H' => x = (anyN (fun k => FD (256 * i + k)) (n + 1), anyN (fun k => FA (256 * i + k)) (n + 1)) ∧ H33 = H') ?_ fun J45 hJ45 => ?_)
        · rintro _ _ ⟨rfl, rfl⟩
          dsimp only
          rw [show (n : Int) + 1 = ((n + 1 : Nat) : Int) from by omega, w64n (by omega)]
          exact hrec2 _ _ ⟨n + 1, rfl, by omega, rfl⟩ (by dsimp only; omega)
        refine Join.intro (fun (x : Bool) H' => x = anyN (fun k => FD (256 * i + k)) (n + 1) ∧ H33 = H') ?_ fun J48 hJ48 => ?_
        · rintro _ _ ⟨rfl, rfl⟩
          cases hA : anyN (fun k => FA (256 * i + k)) n with
          | true => exact ite_t rfl (hJ45 _ _ ⟨by rw [anyN, anyN, hA]; rfl, rfl⟩)
          | false => exact ite_f rfl ⟨by omega, by omega, by omega, by omega, cell u20 (hJ45 _ _ ⟨by rw [anyN, anyN, hA, pos]; rfl, rfl⟩)⟩
        · cases hA : anyN (fun k => FD (256 * i + k)) n with
          | true => exact ite_t rfl (hJ48 _ _ ⟨by rw [anyN, hA]; rfl, rfl⟩)
          | false => exact ite_f rfl ⟨by omega, by omega, by omega, by omega, cell u18 (hJ48 _ _ ⟨by rw [anyN, hA, pos]; rfl, rfl⟩)⟩
      obtain rfl : n = 256 := by omega
      obtain ⟨x, hx⟩ : ∃ x, j.sp[i]? = some x := ⟨_, List.getElem?_eq_getElem (show i < 8 by omega)⟩
      obtain ⟨y, hy⟩ : ∃ y, j.sp[4 + i]? = some y := ⟨_, List.getElem?_eq_getElem (show 4 + i < 8 by omega)⟩
      have u1 := t1.keep k33
      refine ite_f (decf (by omega)) (Join.intro (fun (x : Bool × Int) H' => x = (true, ((sumN (fun i => row8 FD (fun i => tbl j TV i) true i + row8 FA (fun i => tbl j TV (4 + i)) false i) i + row8 FD (fun i => tbl j TV i) true i : Nat) : Int)) ∧ Keep H33 H') ?_ fun J63 hJ63 => ?_)
      · rintro _ H65 ⟨rfl, k65⟩
        dsimp only
        have k65' := k33.trans k65
        cases hA : anyN (fun k => FA (256 * i + k)) 256 with
        | false =>
          have hr0 := row8_0 (T := fun i => tbl j TV (4 + i)) (first := false) (anyN_f hA)
          exact ite_f rfl (hJ36 _ _ ⟨by rw [sumN, hr0, Nat.add_zero], k65'⟩)
        | true =>
          obtain ⟨yv, yb, yc, yl⟩ := J.sp (4 + i) y hy
          obtain ⟨kk, hkk, hne⟩ := anyN_t hA
          have hT := tbl_at (TV := TV) hy
          have hch := (uA hkk hne).1
          rw [hT] at hch
          refine ite_t rfl ⟨by omega, by omega, by omega, by omega, y.1, y.2, ?_, cnP FA i, ?_, bits18_ok yc ((yv.keep k23).keep k65') yb (by omega) hch (fun k hk => ixI_cnP (F := FA) hk) (fun k hk => ?_) (fun k hk hn => ?_) fun H77 k77 => ?_⟩
          · rw [add_mk, Int.toNat_natCast, show 73 + i * 17 = 5 + (4 + i) * 17 from by omega]
            exact job_sp (u1.keep k65) hy
          · rw [Int.toNat_natCast]
            exact ldA_cnP (u20.keep k65) hi4
          · have := leA (256 * i + k); omega
          · have := (uA hk hn).2
            rw [hT] at this
            exact this
          · have hrA : sumN (fun k => FA (256 * i + k) * wgt (y.1, TV (4 + i)) false k) 256 = row8 FA (fun i => tbl j TV (4 + i)) false i := by unfold row8; dsimp only; rw [hT]
            dsimp only
            rw [hrA]
            refine ite_t rfl (hJ36 _ _ ⟨?_, k65'.trans k77⟩)
            rw [w64 (by omega), sumN]
            refine Prod.ext rfl ?_
            dsimp only
            omega
      · cases hA : anyN (fun k => FD (256 * i + k)) 256 with
        | false =>
          have hr0 := row8_0 (T := fun i => tbl j TV i) (first := true) (anyN_f hA)
          exact ite_f rfl (hJ63 _ _ ⟨by rw [hr0, Nat.add_zero], Keep.refl _⟩)
        | true =>
          obtain ⟨yv, yb, yc, yl⟩ := J.sp i x hx
          obtain ⟨kk, hkk, hne⟩ := anyN_t hA
          have hT := tbl_at (TV := TV) hx
          have hch := (uD hkk hne).1
          rw [hT] at hch
          refine ite_t rfl ⟨by omega, by omega, by omega, by omega, x.1, x.2, ?_, cnP FD i, ?_, bits18_ok yc ((yv.keep k23).keep k33) yb (by omega) hch (fun k hk => ixI_cnP (F := FD) hk) (fun k hk => ?_) (fun k hk hn => ?_) fun H77 k77 => ?_⟩
          · rw [add_mk, Int.toNat_natCast]
            exact job_sp u1 hx
          · rw [Int.toNat_natCast]
            exact ldA_cnP u18 hi4
          · have := leD (256 * i + k); omega
          · have := (uD hk hn).2
            rw [hT] at this
            exact this
          · have hrD : sumN (fun k => FD (256 * i + k) * wgt (x.1, TV i) true k) 256 = row8 FD (fun i => tbl j TV i) true i := by unfold row8; dsimp only; rw [hT]
            dsimp only
            rw [hrD]
            refine ite_t rfl (hJ63 _ _ ⟨?_, k77⟩)
            rw [w64 (by omega)]
            refine Prod.ext rfl ?_
            dsimp only
            omega
    obtain rfl : i = 4 := by omega
    refine ite_f (decf (by omega)) ?_
    have hsz := bytesOf_size (stuff bs)
    obtain ⟨hst1, hst2⟩ := stuff_ex bs
    have hcl := List.count_le_length (a := (255 : Nat)) (l := stuff bs)
    have hsb := stuff_byte8 hbs
    have hpl : 8 * bs.length = (bitsM j TV ps (mJ j cs ps BL).1).length + (8 - (bitsM j TV ps (mJ j cs ps BL).1).length % 8) % 8 := by
      have := congrArg List.length hpad
      unfold padded8 at this
      rw [List.length_append, List.length_replicate, fm8] at this
      omega
    have hbl8 : bs.length ≤ 268435457 := by omega
    have hcb := List.count_le_length (a := (255 : Nat)) (l := bs)
    refine Fix.intro (fun (x : Int × Int) H' => ∃ n : Nat, x = (((((stuff bs).take n).count 255 : Nat) : Int), (n : Int)) ∧ n ≤ (stuff bs).length ∧ H33 = H') (fun x _ => (stuff bs).length - x.2.toNat) ⟨0, rfl, by omega, rfl⟩ ?_
    rintro _ _ ⟨n, rfl, hn, rfl⟩ rec2 hrec2
    dsimp only
    rw [hsz]
    by_cases hnl : n < (stuff bs).length
    · have q1 := List.count_le_length (a := (255 : Nat)) (l := (stuff bs).take n)
      have q2 := List.length_take_le n (stuff bs)
      have hbt := bt_of hsb (List.getElem?_eq_getElem hnl)
      have e2 : ((stuff bs).take (n + 1)).count 255 = ((stuff bs).take n).count 255 + if (stuff bs)[n] = 255 then 1 else 0 := by
        rw [List.take_succ_eq_append_getElem hnl, List.count_append, List.count_singleton]
        by_cases q : (stuff bs)[n] = 255
        · rw [if_pos q, q]; rfl
        · rw [if_neg q, if_neg (by simpa using q)]
      refine ite_t (dect (by omega)) (Join.intro (fun (x : Int) H' => x = ((((stuff bs).take (n + 1)).count 255 : Nat) : Int) ∧ H33 = H') ?_ fun J96 hJ96 => ⟨by omega, by omega, ?_⟩)
      · rintro _ _ ⟨rfl, rfl⟩
        rw [show (n : Int) + 1 = ((n + 1 : Nat) : Int) from by omega, w64n (by omega)]
        exact hrec2 _ _ ⟨n + 1, rfl, by omega, rfl⟩ (by dsimp only; omega)
      · rw [hbt]
        rw [e2] at hJ96
        by_cases q : (stuff bs)[n] = 255
        · rw [if_pos q] at hJ96
          exact ite_t (beqi (by rw [q]; rfl)) (hJ96 _ _ ⟨by rw [w64 (by omega)]; omega, rfl⟩)
        · rw [if_neg q] at hJ96
          exact ite_f (beqf (by omega)) (hJ96 _ _ ⟨rfl, rfl⟩)
    · obtain rfl : n = (stuff bs).length := by omega
      rw [List.take_length, hst2]
      refine ite_f (decf (by omega)) (ite_t rfl ⟨beqi ?_, k23.trans k33⟩)
      rw [← htot]
      rw [w64 (by omega), w64 (x := (((bitsM j TV ps (mJ j cs ps BL).1).length : Nat) : Int) + 7) (by omega), Int.tdiv_eq_ediv_of_nonneg (by omega), w64 (by omega)]
      omega
  rw [← hJ] at key
  exact key
end Go.Proofs.Ytmnoecpnoofdjaa.G
