/- Of this text what the row needs. -/
import Derived.Test.YtlfdfikgbdgfdaaQSpanElsewhereZ17q
import Derived.Test.YtlfdfikgbdgfdaaQSpanElsewhereKSpanElsewhere
namespace Go.Proofs.Ytlfdfikgbdgfdaa.G
open Go.RowKit
set_option linter.unusedVariables false
set_option linter.unusedSimpArgs false
theorem SpanElsewhere_row (file : ByteArray) (g w h : Int) (s t : Sl) (d0 : Cn) (e0 : Sl) (d1 : Cn) (e1 : Sl) (d2 : Cn) (e2 : Sl) (d3 : Cn) (e3 : Sl) (a0 : Cn) (f0 : Sl) (a1 : Cn) (f1 : Sl) (a2 : Cn) (f2 : Sl) (a3 : Cn) (f3 : Sl) (f u : Int) (ahead behind : ByteArray) (W : World)
    (hfile : file.size < 140737488355328) (hg : 0 ≤ g ∧ g ≤ 255) (hw : -9223372036854775808 ≤ w ∧ w ≤ 9223372036854775807) (hh : -9223372036854775808 ≤ h ∧ h ≤ 9223372036854775807)
    (hs : SlH W.heap none 4 4 (X98 none W.heap) s) (ht : SlH W.heap none 16 3 (X67 none W.heap) t)
    (c0 : ∀ v ∈ d0.1, 0 ≤ v ∧ v ≤ 255) (z0 : SlH W.heap none 1 1 (X5 none W.heap) e0) (c1 : ∀ v ∈ d1.1, 0 ≤ v ∧ v ≤ 255) (z1 : SlH W.heap none 1 1 (X5 none W.heap) e1)
    (c2 : ∀ v ∈ d2.1, 0 ≤ v ∧ v ≤ 255) (z2 : SlH W.heap none 1 1 (X5 none W.heap) e2) (c3 : ∀ v ∈ d3.1, 0 ≤ v ∧ v ≤ 255) (z3 : SlH W.heap none 1 1 (X5 none W.heap) e3)
    (b0 : ∀ v ∈ a0.1, 0 ≤ v ∧ v ≤ 255) (y0 : SlH W.heap none 1 1 (X5 none W.heap) f0) (b1 : ∀ v ∈ a1.1, 0 ≤ v ∧ v ≤ 255) (y1 : SlH W.heap none 1 1 (X5 none W.heap) f1)
    (b2 : ∀ v ∈ a2.1, 0 ≤ v ∧ v ≤ 255) (y2 : SlH W.heap none 1 1 (X5 none W.heap) f2) (b3 : ∀ v ∈ a3.1, 0 ≤ v ∧ v ≤ 255) (y3 : SlH W.heap none 1 1 (X5 none W.heap) f3)
    (hf : -9223372036854775808 ≤ f ∧ f ≤ 9223372036854775807) (hu : -9223372036854775808 ≤ u ∧ u ≤ 9223372036854775807) (hah : ahead.size < 140737488355328) (hbe : behind.size < 140737488355328) :
    mosaiclaw17_SpanElsewhere.s file g w h s t d0 e0 d1 e1 d2 e2 d3 e3 a0 f0 a1 f1 a2 f2 a3 f3 f u ahead behind W.heap (fun r H' => r = true ∧ Keep W.heap H') := by
  obtain ⟨cs, ps, TV, J⟩ := job_view (j := ⟨g, w, h, s, t, (d0, e0), (d1, e1), (d2, e2), (d3, e3), (a0, f0), (a1, f1), (a2, f2), (a3, f3), f, u⟩) hs ht ⟨c0, z0⟩ ⟨c1, z1⟩ ⟨c2, z2⟩ ⟨c3, z3⟩ ⟨b0, y0⟩ ⟨b1, y1⟩ ⟨b2, y2⟩ ⟨b3, y3⟩ hf hu
  unfold mosaiclaw17_SpanElsewhere.s
  intro q1 H2 m2 r1 r1'
  have k2 : Keep W.heap H2 := m2.keep (by simp)
  refine alive_ok17 fun H4 k4 => ⟨Pv.keep k4 (by simp; omega), large17_ok (j := ⟨g, w, h, s, t, (d0, e0), (d1, e1), (d2, e2), (d3, e3), (a0, f0), (a1, f1), (a2, f2), (a3, f3), f, u⟩) fun H7 k7 => ⟨Pv.keep k7 (by have := k4.size; simp; omega), ?_⟩⟩
  have n4 := k4.size
  have n7 := k7.size
  have kA := (k2.trans k4).trans k7
  by_cases hL : (3000 : Int) < u
  · exact ite_t (dect hL) ⟨rfl, kA⟩
  refine ite_f (decf hL) ?_
  have hzA : (ahead ++ file).size = ahead.size + file.size := ByteArray.size_append
  have hzB : (ahead ++ file ++ behind).size = ahead.size + file.size + behind.size := by rw [ByteArray.size_append, hzA]
  have hi1 : hiOf file.size 0 (file.size : Int) = file.size := by unfold hiOf loOf; omega
  have lo1 : loOf file.size 0 = 0 := by unfold loOf; omega
  have ew : IntKind.wrap .i64 ((ahead.size : Int) + (file.size : Int)) = ((ahead.size + file.size : Nat) : Int) := by rw [w64 (by omega)]; omega
  have lo2 : loOf (ahead ++ file ++ behind).size (ahead.size : Int) = ahead.size := by unfold loOf; rw [hzB]; omega
  have hi2 : hiOf (ahead ++ file ++ behind).size (ahead.size : Int) ((ahead.size + file.size : Nat) : Int) = ahead.size + file.size := by unfold hiOf; rw [lo2, hzB]; omega
  obtain ⟨xs, e, hc⟩ := Cut.ex (f := file) (b := file.size) file.size 0 (by omega) (by omega)
  have hb : ∀ i, i < file.size → byt (ahead ++ file ++ behind) (ahead.size + i) = byt file i := fun i hi => by
    have hx : file.data.toList[i]? = some file.data.toList[i] := List.getElem?_eq_getElem (by simpa using hi)
    rw [byt_mid hx, byt_list hx]
  have hc2 := cut_move (s := ahead.size) hb hc
  rw [Nat.add_zero] at hc2
  have fin : ∀ {A : Hp}, Keep W.heap A → ∀ (x17 : Int × Int × Int × Sl × Int) (x9 : Int × Int × Int × Sl × Int) (xs ys : List (Ints 64)), Own A 54 64 x9.2.2.2.1 (xs.flatMap cBl) → Own A 54 64 x17.2.2.2.1 (ys.flatMap cBl) → x9.1 = x17.1 → x9.2.1 = x17.2.1 → x9.2.2.1 = x17.2.2.1 → x9.2.2.2.2 = x17.2.2.2.2 → xs = ys → xs.length ≤ 140737488355328 →
      (if (true : Bool) = true then (if (x9.2.2.2.2 == x17.2.2.2.2) = true then (if (x9.1 == x17.1) = true then (if (x9.2.1 == x17.2.1) = true then (if (x9.2.2.1 == x17.2.2.1) = true then (mosaiclaw17_same.s x9.2.2.2.1 x17.2.2.2.1 A (fun x23 H24 => (fun r H' => r = true ∧ Keep W.heap H') x23 H24)) else ((fun r H' => r = true ∧ Keep W.heap H') false A)) else ((fun r H' => r = true ∧ Keep W.heap H') false A)) else ((fun r H' => r = true ∧ Keep W.heap H') false A)) else ((fun r H' => r = true ∧ Keep W.heap H') false A)) else ((fun r H' => r = true ∧ Keep W.heap H') false A)) := fun {A} kA x17 x9 xs ys o1 o2 h1 h2 h3 h4 h5 h6 =>
    ite_t rfl (ite_t (beqi h4) (ite_t (beqi h1) (ite_t (beqi h2) (ite_t (beqi h3) (same17_ok o1 o2 h6 h5 ⟨rfl, kA⟩)))))
  refine Decode_ok (j := ⟨g, w, h, s, t, (d0, e0), (d1, e1), (d2, e2), (d3, e3), (a0, f0), (a1, f1), (a2, f2), (a3, f3), f, u⟩) (xs := xs) (e := e) (J.keep kA) (by omega) (by rw [hi1, lo1]; exact hc) (fun _ => by show u ≤ 3000; omega) (fun hz H10 k10 => ⟨Pv.keep k10 (by simp; omega), ?_⟩) fun hz r un l hl hr sl BL H10 o10 w10 f10 k10 => ⟨Pv.keep k10 (by simp; omega), ?_⟩
  · intro b12 H14 m14 g12 g12'
    have k14 := k10.trans (m14.keep (by simp) : Keep H10 H14)
    refine ⟨by omega, by omega, ?_⟩
    rw [ew]
    refine Decode_ok (j := ⟨g, w, h, s, t, (d0, e0), (d1, e1), (d2, e2), (d3, e3), (a0, f0), (a1, f1), (a2, f2), (a3, f3), f, u⟩) (xs := xs) (e := ahead.size + e) (J.keep (kA.trans k14)) (by omega) (by rw [hi2, lo2]; exact hc2) (fun _ => by show u ≤ 3000; omega) (fun _ H18 k18 => ⟨Pv.keep k18 (by simp; omega), ?_⟩) fun hz' => absurd hz' hz
    intro b20 H22 m22 g20 g20'
    exact fin ((kA.trans k14).trans (k18.trans (m22.keep (by simp)))) _ _ [] [] (Own.nil _ _ _) (Own.nil _ _ _) rfl rfl rfl rfl rfl (by simp)
  · intro b12 H14 m14 g12 g12'
    have k1014 : Keep H10 H14 := m14.keep (by simp)
    have k14 := k10.trans k1014
    refine ⟨by omega, by omega, ?_⟩
    rw [ew]
    refine Decode_ok (j := ⟨g, w, h, s, t, (d0, e0), (d1, e1), (d2, e2), (d3, e3), (a0, f0), (a1, f1), (a2, f2), (a3, f3), f, u⟩) (xs := xs) (e := ahead.size + e) (J.keep (kA.trans k14)) (by omega) (by rw [hi2, lo2]; exact hc2) (fun _ => by show u ≤ 3000; omega) (fun hz' => absurd hz hz') fun _ r' un' l' hl' hr' sl' BL' H18 o18 w18 f18 k18 => ⟨Pv.keep k18 (by simp; omega), ?_⟩
    intro b20 H22 m22 g20 g20'
    have k22 : Keep H18 H22 := m22.keep (by simp)
    have hll : l.map (·.1) = l'.map (·.1) := by rw [hl, hl', remB_fst, remB_fst]
    rw [← hll, hr] at hr'
    injection hr' with hrr hun
    subst hrr hun
    have hst : jSt r l (decide (e = hiOf file.size 0 (file.size : Int))) = jSt r l' (decide (ahead.size + e = hiOf (ahead ++ file ++ behind).size (ahead.size : Int) ((ahead.size + file.size : Nat) : Int))) := by
      rw [jSt_eq hll, hi1, hi2]
      congr 1
      exact decide_eq_decide.2 (by omega)
    rw [← hst] at w18 ⊢
    have hBB : BL = BL' := by
      by_cases h1 : jSt r l (decide (e = hiOf file.size 0 (file.size : Int))) = 1
      · rw [if_pos h1] at w10 w18
        exact ints_inj (w10.trans w18.symm)
      · rw [if_neg h1] at w10 w18
        rw [w10.2, w18.2]
    have hcnt := o10.count cBl_len (by omega)
    have hBl : BL.length ≤ 140737488355328 := by
      have hX := (jRd_ok (cs := cs) (fun q hq => jT_ok J hz hq) (l.map (·.1)) u.toNat)
      by_cases h1 : jSt r l (decide (e = hiOf file.size 0 (file.size : Int))) = 1
      · rw [if_pos h1] at w10
        have eBL : BL.length = r.X.length := by rw [← w10, List.length_map]
        have hr2 : jRd (⟨g, w, h, s, t, (d0, e0), (d1, e1), (d2, e2), (d3, e3), (a0, f0), (a1, f1), (a2, f2), (a3, f3), f, u⟩ : Jb) cs ps TV (l.map (·.1)) u.toNat = (r, un) := hr
        rw [hr2] at hX
        have s0 := (jSt_one hX.1.st h1).1
        rw [eBL, hX.2 s0]
        obtain ⟨hP, _⟩ := jchk_no hz
        have each := each_le hP
        rw [cat_mul (n := eachL cs ps) (fun k => by unfold jL; rw [List.length_map, walk_len hP]; omega)]
        have : u.toNat * eachL cs ps ≤ 3000 * 10 := Nat.mul_le_mul (by omega) each.2
        omega
      · rw [if_neg h1] at w10
        rw [w10.2]; simp
    exact fin ((kA.trans k14).trans (k18.trans k22)) _ _ BL BL' (o10.kp (k1014.trans (k18.trans k22))) (o18.kp k22) rfl rfl rfl rfl hBB hBl
end Go.Proofs.Ytlfdfikgbdgfdaa.G
