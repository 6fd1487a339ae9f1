/- Of this text what the row needs. -/
import Derived.Test.YtlfdfikgbdgfdaaQSpanBackZ17x
import Derived.Test.YtlfdfikgbdgfdaaQSpanBackZ17k
namespace Go.Proofs.Ytlfdfikgbdgfdaa.G
open Go.RowKit
set_option linter.unusedVariables false
set_option linter.unusedSimpArgs false
theorem blocks_view {H : Hp} {s : Sl} (h : SlH H none 128 64 (X54 none H) s) : ∃ BL : List (Ints 64), SlV H s 64 cBl BL ∧ (∀ X ∈ BL, ∀ v ∈ X.1, -32768 ≤ v ∧ v ≤ 32767) ∧ BL.length ≤ 1099511627776 := by
  obtain ⟨xs, h1, h2, h3⟩ := h.view (f := cBl) (B := fun X => ∀ v ∈ X.1, -32768 ≤ v ∧ v ≤ 32767) fun cs ⟨a, e, hb⟩ => ⟨a, e, hb⟩
  refine ⟨xs, h1, h2, ?_⟩
  have n0 := h1.n
  have c0 := h1.c
  rcases h3 with z | z
  · omega
  · have : s.c * 128 ≤ 140737488351232 := z
    omega
theorem same17v_ok {H : Hp} {a b : Sl} {xs ys : List (Ints 64)} {Q : Bool → Hp → Prop} (ha : Own H 54 64 a (xs.flatMap cBl)) (hb : SlV H b 64 cBl ys) (hl : xs.length ≤ 140737488355328) (he : xs = ys) (h : Q true H) : mosaiclaw17_same.s a b H Q := by
  subst he
  have na := ha.count cBl_len (by omega)
  have nb := hb.n
  unfold mosaiclaw17_same.s
  refine ite_f (bnei (by omega)) ?_
  refine Fix.intro (fun (x : Int) H' => ∃ i : Nat, x = (i : Int) ∧ i ≤ xs.length ∧ H = H') (fun x _ => xs.length - x.toNat) ⟨0, rfl, by omega, rfl⟩ ?_
  rintro _ _ ⟨i, rfl, hi, rfl⟩ rec hrec
  by_cases hil : i < xs.length
  · obtain ⟨x, hx⟩ : ∃ x, xs[i]? = some x := ⟨_, get_some hil⟩
    obtain ⟨p, hpa, hA⟩ := ha.at cBl_len (by omega) hx
    obtain ⟨q, o, hqb, hB⟩ := hb.get hx
    refine ite_t (dect (by omega)) ⟨by omega, by omega, _, hpa, x, hA, by omega, by omega, _, hqb, x, hB, ite_f (by simp) ?_⟩
    rw [show (i : Int) + 1 = ((i + 1 : Nat) : Int) from by omega, w64n (by omega)]
    exact hrec _ _ ⟨i + 1, rfl, by omega, rfl⟩ (by simp; omega)
  · exact ite_f (decf (by omega)) h
theorem cut_more {f : ByteArray} {n : Nat} : ∀ {bs : List Nat} {p : Nat}, Cut f n p bs n → (byt f n = 255 → Cut f (n + 1) p bs n) ∧ (byt f n ≠ 255 → Cut f (n + 1) p (bs ++ [byt f n]) (n + 1))
  | [], p, h => by
    obtain ⟨rfl, _⟩ := h
    refine ⟨fun q => ⟨rfl, .inr ⟨by omega, q, .inl (Nat.le_refl _)⟩⟩, fun q => ⟨by omega, rfl, fun q' => absurd q' q, ?_⟩⟩
    rw [wd, if_neg q]
    exact ⟨rfl, .inl rfl⟩
  | x :: r, p, h => by
    obtain ⟨h1, h2, h3, h4⟩ := h
    obtain ⟨q1, q2⟩ := cut_more h4
    exact ⟨fun q => ⟨by omega, h2, fun hx => ⟨by have := h3 hx; omega, (h3 hx).2⟩, q1 q⟩, fun q => ⟨by omega, h2, fun hx => ⟨by have := h3 hx; omega, (h3 hx).2⟩, q2 q⟩⟩
theorem padd_ones {l : List (Bool × Nat)} {m : Nat} (h : l.map (·.1) = List.replicate m true) (hm : m < 8) : padd l = true := by
  have hl : l.length = m := by have := congrArg List.length h; simpa using this
  unfold padd
  rw [Bool.and_eq_true, List.all_eq_true]
  refine ⟨dect (by omega), fun x hx => ?_⟩
  have : x.1 ∈ l.map (·.1) := List.mem_map.2 ⟨x, hx, rfl⟩
  rw [h] at this
  exact (List.mem_replicate.1 this).2
theorem padd_long {l : List (Bool × Nat)} (h : 8 ≤ l.length) : padd l = false := by
  cases hp : padd l with
  | false => rfl
  | true => have := padd_lt hp; omega
set_option maxHeartbeats 2000000 in
theorem SpanBack_row (g w h : Int) (s t : Sl) (d0 : Cn) (e0 : Sl) (d1 : Cn) (e1 : Sl) (d2 : Cn) (e2 : Sl) (d3 : Cn) (e3 : Sl) (a0 : Cn) (f0 : Sl) (a1 : Cn) (f1 : Sl) (a2 : Cn) (f2 : Sl) (a3 : Cn) (f3 : Sl) (f u : Int) (bsl : Sl) (ahead behind : ByteArray) (W : World)
    (hg : 0 ≤ g ∧ g ≤ 255) (hw : -9223372036854775808 ≤ w ∧ w ≤ 9223372036854775807) (hh : -9223372036854775808 ≤ h ∧ h ≤ 9223372036854775807)
    (hs : SlH W.heap none 4 4 (X98 none W.heap) s) (ht : SlH W.heap none 16 3 (X67 none W.heap) t)
    (c0 : ∀ v ∈ d0.1, 0 ≤ v ∧ v ≤ 255) (z0 : SlH W.heap none 1 1 (X5 none W.heap) e0) (c1 : ∀ v ∈ d1.1, 0 ≤ v ∧ v ≤ 255) (z1 : SlH W.heap none 1 1 (X5 none W.heap) e1)
    (c2 : ∀ v ∈ d2.1, 0 ≤ v ∧ v ≤ 255) (z2 : SlH W.heap none 1 1 (X5 none W.heap) e2) (c3 : ∀ v ∈ d3.1, 0 ≤ v ∧ v ≤ 255) (z3 : SlH W.heap none 1 1 (X5 none W.heap) e3)
    (b0 : ∀ v ∈ a0.1, 0 ≤ v ∧ v ≤ 255) (y0 : SlH W.heap none 1 1 (X5 none W.heap) f0) (b1 : ∀ v ∈ a1.1, 0 ≤ v ∧ v ≤ 255) (y1 : SlH W.heap none 1 1 (X5 none W.heap) f1)
    (b2 : ∀ v ∈ a2.1, 0 ≤ v ∧ v ≤ 255) (y2 : SlH W.heap none 1 1 (X5 none W.heap) f2) (b3 : ∀ v ∈ a3.1, 0 ≤ v ∧ v ≤ 255) (y3 : SlH W.heap none 1 1 (X5 none W.heap) f3)
    (hf : -9223372036854775808 ≤ f ∧ f ≤ 9223372036854775807) (hu : -9223372036854775808 ≤ u ∧ u ≤ 9223372036854775807) (hbs : SlH W.heap none 128 64 (X54 none W.heap) bsl) (hah : ahead.size < 140737488355328) (hbe : behind.size < 140737488355328) :
    mosaiclaw17_SpanBack.s g w h s t d0 e0 d1 e1 d2 e2 d3 e3 a0 f0 a1 f1 a2 f2 a3 f3 f u bsl ahead behind W.heap (fun r H' => r = true ∧ Keep W.heap H') := by
  obtain ⟨cs, ps, TV, J⟩ := job_view (j := ⟨g, w, h, s, t, (d0, e0), (d1, e1), (d2, e2), (d3, e3), (a0, f0), (a1, f1), (a2, f2), (a3, f3), f, u⟩) hs ht ⟨c0, z0⟩ ⟨c1, z1⟩ ⟨c2, z2⟩ ⟨c3, z3⟩ ⟨b0, y0⟩ ⟨b1, y1⟩ ⟨b2, y2⟩ ⟨b3, y3⟩ hf hu
  obtain ⟨BL, hbV, hbv, hbl⟩ := blocks_view hbs
  generalize hJ : (⟨g, w, h, s, t, (d0, e0), (d1, e1), (d2, e2), (d3, e3), (a0, f0), (a1, f1), (a2, f2), (a3, f3), f, u⟩ : Jb) = j at J
  have key : mosaiclaw17_SpanBack.s j.g j.w j.h j.s j.t j.d0.1 j.d0.2 j.d1.1 j.d1.2 j.d2.1 j.d2.2 j.d3.1 j.d3.2 j.a0.1 j.a0.2 j.a1.1 j.a1.2 j.a2.1 j.a2.2 j.a3.1 j.a3.2 j.f j.u bsl ahead behind W.heap (fun r H' => r = true ∧ Keep W.heap H') := by
    clear hJ c0 c1 c2 c3 b0 b1 b2 b3 z0 z1 z2 z3 y0 y1 y2 y3 hs ht hg hw hh hf hu hbs
    have hju := J.hu
    unfold mosaiclaw17_SpanBack.s
    intro q1 H2 m2 g1 g1'
    have k2 : Keep W.heap H2 := m2.keep (by simp)
    refine alive_ok17 fun H4 k4 => ⟨Pv.keep k4 (by simp; omega), ?_⟩
    have n4 := k4.size
    have kA := k2.trans k4
    refine Join.intro (fun (b : Bool) H' => b = decide (jChk j cs ps TV ≠ 0 ∨ (3000 : Int) < j.u) ∧ Keep H4 H') ?_ fun J6 hJ6 => ?_
    rotate_left
    · refine Check17k_ok (J.keep kA) fun H37 k37 => ⟨Pv.keep k37 (by simp; omega), ?_⟩
      by_cases hz : jChk j cs ps TV = 0
      · refine ite_f (bnei hz) (large17_ok fun H40 k40 => ⟨Pv.keep k40 (by have := k37.size; simp; omega), hJ6 _ _ ⟨?_, k37.trans k40⟩⟩)
        exact decide_eq_decide.2 ⟨fun q => .inr q, fun q => q.elim (fun q => absurd hz q) id⟩
      · exact ite_t (bnet hz) (hJ6 _ _ ⟨(dect (.inl hz)).symm, k37⟩)
    rintro _ H8 ⟨rfl, k8⟩
    have n8 := k8.size
    have kB := kA.trans k8
    by_cases hbad : jChk j cs ps TV ≠ 0 ∨ (3000 : Int) < j.u
    · exact ite_t (dect hbad) ⟨rfl, kB⟩
    have hz : jChk j cs ps TV = 0 := Classical.byContradiction fun q => hbad (.inl q)
    have hu3 : j.u ≤ 3000 := Int.not_lt.1 fun q => hbad (.inr q)
    obtain ⟨hP, _, ff0, uu0, _, _⟩ := jchk_no hz
    refine ite_f (decf hbad) (written_ok (J.keep kB) hz hu3 (hbV.keep kB) hbl hbv (fun st H10 k10 => ⟨Pv.keep k10 (by simp; omega), ?_⟩) fun lk H10 k10 hlk hrd hoc => ⟨Pv.keep k10 (by simp; omega), ?_⟩)
    · refine Join.intro (fun (b : Bool) H' => b = true ∧ H10 = H') ?_ fun J12 hJ12 => ?_
      · rintro _ _ ⟨rfl, rfl⟩
        exact ite_t rfl ⟨rfl, kB.trans k10⟩
      · exact ite_f rfl (hJ12 _ _ ⟨rfl, rfl⟩)
    have n10 := k10.size
    have kC := kB.trans k10
    obtain ⟨bs, hb256, hbits, htx⟩ := hoc
    generalize hm : (8 - lk.length % 8) % 8 = m at hbits htx ⊢
    have hm8 : m < 8 := by omega
    rw [htx]
    have hbl8 := congrArg List.length hbits
    rw [flat8_len, List.length_append, List.length_replicate] at hbl8
    have hsl := stuff_len bs
    have hts : (bytesOf (stuff bs)).size = (stuff bs).length := bytesOf_size _
    have hsb := stuff_byte hb256
    generalize htt : bytesOf (stuff bs) = tx at hts ⊢
    refine Join.intro (fun (b : Bool) H' => b = false ∧ H10 = H') ?_ fun J12 hJ12 => ite_f rfl (hJ12 _ _ ⟨rfl, rfl⟩)
    rintro _ _ ⟨rfl, rfl⟩
    have hzA : (ahead ++ tx).size = ahead.size + tx.size := ByteArray.size_append
    have hzB : (ahead ++ tx ++ behind).size = ahead.size + tx.size + behind.size := by rw [ByteArray.size_append, hzA]
    have hzC : (tx ++ behind).size = tx.size + behind.size := ByteArray.size_append
    dsimp only
    refine ite_f rfl ⟨by omega, by omega, ?_⟩
    have ew : IntKind.wrap .i64 ((ahead.size : Int) + (tx.size : Int)) = ((ahead.size + tx.size : Nat) : Int) := by rw [w64 (by omega)]; omega
    rw [ew]
    have lo2 : loOf (ahead ++ tx ++ behind).size (ahead.size : Int) = ahead.size := by unfold loOf; rw [hzB]; omega
    have hi2 : hiOf (ahead ++ tx ++ behind).size (ahead.size : Int) ((ahead.size + tx.size : Nat) : Int) = ahead.size + tx.size := by unfold hiOf; rw [lo2, hzB]; omega
    have hget : ∀ {i y : Nat}, (stuff bs)[i]? = some y → ∃ x : UInt8, tx.data.toList[i]? = some x ∧ x.toNat = y := fun {i y} hy => by
      have := bytesOf_get hsb hy
      rw [htt] at this
      exact ⟨_, this.1, this.2⟩
    have hc1 : Cut (ahead ++ tx ++ behind) (ahead.size + tx.size) ahead.size bs (ahead.size + tx.size) := by
      rw [hts]
      exact cut_stuff bs ahead.size fun i y hy => by
        obtain ⟨x, hx, rfl⟩ := hget hy
        exact byt_mid hx
    have hT := fun q (hq : q < ps.length) => jT_ok J hz hq
    have rd : ∀ {Z : List Bool} {r : Rdg} {un : Nat}, jRd j cs ps TV (lk ++ Z) j.u.toNat = (r, un) → ∃ P, r = ⟨0, P, Z, BL.map (·.1), lk.length⟩ ∧ un = j.u.toNat := fun {Z r un} hr => by
      obtain ⟨P, hP'⟩ := hrd Z
      have hL1 : (jRd j cs ps TV (lk ++ Z) j.u.toNat).1 = rdL (jT j TV ps) (jR0 ps (lk ++ Z)) (cat (jL j cs ps) j.u.toNat) := rdU_L _ _ _
      have hN := jRd_n (j := j) (cs := cs) (ps := ps) (TV := TV) (lk ++ Z) j.u.toNat
      rw [hr] at hL1 hN
      dsimp only at hL1 hN
      rw [hP'] at hL1
      refine ⟨P, hL1, hN.2.1 (by rw [hL1])⟩
    refine Decode_ok (xs := bs) (e := ahead.size + tx.size) (J.keep kC) (by omega) (by rw [hi2, lo2]; exact hc1) (fun _ => hu3) (fun hz' => absurd hz hz') fun _ r un l hl hr sl BL' H18 o18 w18 f18 k18 => ⟨Pv.keep k18 (by simp; omega), ?_⟩
    rw [lo2] at hl
    have hlb : l.map (·.1) = lk ++ List.replicate m true := by rw [hl, remB_fst, hbits]
    rw [hlb] at hr
    obtain ⟨P, rfl, rfl⟩ := rd hr
    have hdrop : (l.drop lk.length).map (·.1) = List.replicate m true := by rw [List.map_drop, hlb, List.drop_left' rfl]
    have hst : jSt (⟨0, P, List.replicate m true, BL.map (·.1), lk.length⟩ : Rdg) l (decide (ahead.size + tx.size = hiOf (ahead ++ tx ++ behind).size (ahead.size : Int) ((ahead.size + tx.size : Nat) : Int))) = 1 := by
      unfold jSt
      rw [if_neg n00, if_pos ⟨padd_ones hdrop hm8, by rw [hi2]; exact dect rfl⟩]
    rw [hst, if_pos rfl] at w18
    rw [hst]
    have hBB : BL' = BL := ints_inj w18
    have n18 := k18.size
    intro b20 H22 m22 g20 g20'
    have k22 : Keep H18 H22 := m22.keep (by simp)
    have n22 := k22.size
    have kD := (kC.trans k18).trans k22
    have o22 := o18.kp k22
    refine Join.intro (fun (b : Bool) H' => b = false ∧ H22 = H') ?_ fun J23 hJ23 => ?_
    rotate_left
    · refine ite_f rfl (ite_f rfl (ite_f (bnei (by show ((j.u.toNat : Nat) : Int) = j.u; omega)) (same17v_ok o22 (hbV.keep kD) (by rw [hBB]; omega) hBB ⟨fun _ _ => rfl, hJ23 _ _ ⟨rfl, rfl⟩⟩)))
    rintro _ _ ⟨rfl, rfl⟩
    refine ite_f rfl ?_
    by_cases hb0 : behind.size = 0
    · exact ite_t (beqi (by omega)) ⟨rfl, kD⟩
    refine ite_f (beqf (by omega)) ⟨by omega, ?_⟩
    have ew2 : IntKind.wrap .i64 ((tx.size : Int) + 1) = ((tx.size + 1 : Nat) : Int) := by rw [w64 (by omega)]; omega
    rw [ew2]
    have lo3 : loOf (tx ++ behind).size 0 = 0 := by unfold loOf; omega
    have hi3 : hiOf (tx ++ behind).size 0 ((tx.size + 1 : Nat) : Int) = tx.size + 1 := by unfold hiOf; rw [lo3, hzC]; omega
    have hc2 : Cut (tx ++ behind) tx.size 0 bs tx.size := by
      have := cut_stuff (f := tx ++ behind) bs 0 fun i y hy => by
        obtain ⟨x, hx, rfl⟩ := hget hy
        have e := byt_mid (a := ⟨#[]⟩) (b := behind) hx
        have ea : (⟨#[]⟩ : ByteArray) ++ tx = tx := by
          rw [ByteArray.ext_iff]; simp
        rw [ea] at e
        have ez : (⟨#[]⟩ : ByteArray).size = 0 := rfl
        rw [ez] at e
        exact e
      rw [Nat.zero_add, ← hts] at this
      exact this
    obtain ⟨cm1, cm2⟩ := cut_more hc2
    -- what the second reading gives
    have fin : ∀ {r2 : Rdg} {un2 st2 : Nat} {sl2 : Sl} {A : Hp}, Keep H22 A → r2.t = lk.length → un2 = j.u.toNat → st2 = 3 → sl2 = ⟨none, 0, 0⟩ → 
        (if ((0 : Int) == 0) = true then (if ((st2 : Int) == 3) = true then (if ((un2 : Int) == j.u) = true then (if ((r2.t : Int) == ((lk.length : Nat) : Int)) = true then ((fun r H' => r = true ∧ Keep W.heap H') ((sl2.n : Int) == 0) A) else ((fun r H' => r = true ∧ Keep W.heap H') false A)) else ((fun r H' => r = true ∧ Keep W.heap H') false A)) else ((fun r H' => r = true ∧ Keep W.heap H') false A)) else ((fun r H' => r = true ∧ Keep W.heap H') false A)) := fun {r2 un2 st2 sl2 A} kk h1 h2 h3 h4 => by
      subst h4
      exact ite_t rfl (ite_t (beqi (by omega)) (ite_t (beqi (by omega)) (ite_t (beqi (by omega)) ⟨rfl, kD.trans kk⟩)))
    by_cases hff : byt (tx ++ behind) tx.size = 255
    · refine Decode_ok (xs := bs) (e := tx.size) (J.keep kD) (by omega) (by rw [hi3, lo3]; exact cm1 hff) (fun _ => hu3) (fun hz' => absurd hz hz') fun _ r2 un2 l2 hl2 hr2 sl2 BL2 H28 o28 w28 f28 k28 => ⟨Pv.keep k28 (by simp; omega), ?_⟩
      rw [lo3] at hl2
      have hlb2 : l2.map (·.1) = lk ++ List.replicate m true := by rw [hl2, remB_fst, hbits]
      rw [hlb2] at hr2
      obtain ⟨P2, rfl, rfl⟩ := rd hr2
      have hst2 : jSt (⟨0, P2, List.replicate m true, BL.map (·.1), lk.length⟩ : Rdg) l2 (decide (tx.size = hiOf (tx ++ behind).size 0 ((tx.size + 1 : Nat) : Int))) = 3 := by
        unfold jSt
        rw [if_neg n00, if_neg]
        rintro ⟨_, q⟩
        have := of_decide_eq_true q
        omega
      rw [hst2, if_neg (by decide)] at w28
      rw [hst2]
      intro b30 H32 m32 g30 g30'
      exact fin (r2 := ⟨0, P2, List.replicate m true, BL.map (·.1), lk.length⟩) (k28.trans (m32.keep (by simp))) rfl rfl rfl w28.1
    · refine Decode_ok (xs := bs ++ [byt (tx ++ behind) tx.size]) (e := tx.size + 1) (J.keep kD) (by omega) (by rw [hi3, lo3]; exact cm2 hff) (fun _ => hu3) (fun hz' => absurd hz hz') fun _ r2 un2 l2 hl2 hr2 sl2 BL2 H28 o28 w28 f28 k28 => ⟨Pv.keep k28 (by simp; omega), ?_⟩
      rw [lo3] at hl2
      have hlb2 : l2.map (·.1) = lk ++ (List.replicate m true ++ bl 8 (byt (tx ++ behind) tx.size)) := by rw [hl2, remB_fst, List.flatMap_append, ← hbits]; simp
      rw [hlb2] at hr2
      obtain ⟨P2, rfl, rfl⟩ := rd hr2
      have hll := congrArg List.length hlb2
      rw [List.length_map, List.length_append, List.length_append, bl_len] at hll
      have hst2 : jSt (⟨0, P2, List.replicate m true ++ bl 8 (byt (tx ++ behind) tx.size), BL.map (·.1), lk.length⟩ : Rdg) l2 (decide (tx.size + 1 = hiOf (tx ++ behind).size 0 ((tx.size + 1 : Nat) : Int))) = 3 := by
        unfold jSt
        rw [if_neg n00, if_neg]
        rintro ⟨q, _⟩
        dsimp only at q
        rw [padd_long (by rw [List.length_drop]; omega)] at q
        cases q
      rw [hst2, if_neg (by decide)] at w28
      rw [hst2]
      intro b30 H32 m32 g30 g30'
      exact fin (r2 := ⟨0, P2, List.replicate m true ++ bl 8 (byt (tx ++ behind) tx.size), BL.map (·.1), lk.length⟩) (k28.trans (m32.keep (by simp))) rfl rfl rfl w28.1
  subst hJ
  exact key
end Go.Proofs.Ytlfdfikgbdgfdaa.G
