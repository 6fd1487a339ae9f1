/- Layer 7: RunsBlock. -/
import Derived.Test.YthblohaffipkhaaZ07b
import Derived.Test.YthblohaffipkhaaKRunsBlock
namespace Go.Proofs.Ythblohaffipkhaa.G
open Go.RowKit
set_option linter.unusedVariables false
set_option linter.unusedSimpArgs false
set_option maxRecDepth 20000

/-- The marks behind the list. -/
def mk7 (n : Nat) : List Sy := (List.range n).map fun i => (99, 0, i)
theorem mk7_succ (n : Nat) : mk7 (n + 1) = mk7 n ++ [(99, 0, n)] := by simp [mk7, List.range_succ]
theorem mk7_len (n : Nat) : (mk7 n).length = n := by simp [mk7]
theorem mk7_get {n i : Nat} (h : i < n) : (mk7 n)[i]? = some (99, 0, i) := by
  unfold mk7
  rw [List.getElem?_map, List.getElem?_range h]; rfl
theorem RunsBlock_row (s : Sl) (p : Int) (W : World) (hs : SlH W.heap none 4 3 (X42 none W.heap) s) (hp : -32768 ≤ p ∧ p ≤ 32767) :
    mosaiclaw07_RunsBlock.s s p W.heap (fun r H' => r = true ∧ Keep W.heap H') := by
  obtain ⟨xs, v0, hx, z0⟩ := syms_view hs
  have n0 := v0.n
  have c0 := v0.c
  have hb : (xs.length + 8) * 4 ≤ 140737488355328 := by
    rcases z0 with z | z
    · omega
    · have : s.c * 4 ≤ 140737488351232 := z
      omega
  unfold mosaiclaw07_RunsBlock.s
  refine rBlock_ok7 hp v0 hx (by omega) fun B e H2 hB he k2 => ?_
  have y2 := k2.size
  intro b3 H5 c5 g3 g3'
  have k5 : Keep W.heap H5 := k2.trans (c5.keep (by simp))
  have y5 := k5.size
  have hc := (v0.keep k5).cells cS_len cS_ones
  refine ⟨xs.flatMap cS, hc.1, hc.2, apS_list (xs := []) (ys := xs) (Own.nil _ _ _) cS_len cS_ones rfl (by omega) (by omega) (by simp; omega) (by omega) fun l H8 o8 c8 f8 => ⟨Pv.ch c8 (by simp [fp]; omega), ?_⟩⟩
  have y8 := c8.size
  have k8 : Keep H5 H8 := c8.keep (by simp [fp])
  refine Fix.intro (fun (x : Sl × Int) H' => ∃ i : Nat, x.2 = (i : Int) ∧ i ≤ 8 ∧ Own H' 42 3 x.1 ((xs ++ mk7 i).flatMap cS) ∧ Keep H5 H' ∧ ∀ b ∈ fp x.1, H5.size ≤ b) (fun x _ => 8 - x.2.toNat)
    ⟨0, rfl, by omega, by simpa [mk7] using o8, k8, fun b hb => by have := f8 b hb; simp [fp] at this; omega⟩ ?_
  rintro ⟨t, _⟩ H16 ⟨i, rfl, hi, o16, k16, f16⟩ rec hrec
  replace o16 : Own H16 42 3 t ((xs ++ mk7 i).flatMap cS) := o16
  replace f16 : ∀ b ∈ fp t, H5.size ≤ b := f16
  have y16 := k16.size
  simp only
  by_cases h8 : i < 8
  · rw [wu16 (by omega)]
    refine ite_t (dect (by omega)) (nw_i fun H20 b20 k20 z20 => ⟨Pv.keep k20 (by simp; omega), ?_⟩)
    have y20 := k20.size
    refine apS_list (ys := [((99, 0, i) : Sy)]) (o16.kp k20) cS_len cS_ones rfl (by omega) rfl (by simp [mk7_len]; omega) (by omega) fun t' H26 o26 c26 f26 => ⟨Pv.ch c26 fun b hb => ⟨by simp at hb; omega, fun hh => by have := f16 b hh; simp at hb; omega⟩, ?_⟩
    rw [show (i : Int) + 1 = ((i + 1 : Nat) : Int) from by omega, w64n (by omega)]
    refine hrec _ _ ⟨i + 1, rfl, by omega, by rw [mk7_succ, ← List.append_assoc]; exact o26, ((k16.trans k20).ch (F := [])).trans c26 (fun b hb => .inr (f16 b hb)) |>.keep (by simp), fun b hb => ?_⟩ (by simp; omega)
    rcases f26 b hb with h | h
    · exact f16 b h
    · omega
  obtain rfl : i = 8 := by omega
  have vt := o16.view cS_len (by omega)
  have tn := vt.n
  have tc := vt.c
  simp [mk7_len] at tn
  have em : slS t 3 0 (s.n : Int) = ⟨t.a, xs.length, t.c⟩ := by rw [slS_zero, Int.toNat_natCast, n0]
  rw [em]
  have vm : ∀ {G : Hp} {ys : List Sy}, ys.length = xs.length → Own G 42 3 t ((ys ++ mk7 8).flatMap cS) → SlV G ⟨t.a, xs.length, t.c⟩ 3 cS ys := fun {G ys} hl o => by
    have := (o.view cS_len (by omega)).take (i := ys.length) (by simp)
    rw [List.take_left' rfl, slS_zero, Int.toNat_natCast, hl] at this
    exact this
  have k16' := k5.trans k16
  refine ite_f (decf (by omega)) ⟨by omega, by show (s.n : Int) ≤ (t.c : Int); omega, Block_ok7 hp (vm rfl o16) hx (by omega) fun B1 e1 H31 hB1 he1 k31 => ⟨Pv.keep k31 (by simp; omega), ?_⟩⟩
  intro b33 H35 c35 g33 g33'
  have k35 : Keep H16 H35 := k31.trans (c35.keep (by simp))
  have y31 := k31.size
  have y35 := k35.size
  refine Block_ok7 hp (vm rfl (o16.kp k35)) hx (by omega) fun B2 e2 H37 hB2 he2 k37 => ⟨Pv.keep k37 (by simp; omega), ?_⟩
  intro b39 H41 c41 g39 g39'
  have k41 : Keep H16 H41 := (k35.trans k37).trans (c41.keep (by simp))
  have o41 := o16.kp k41
  refine Join.intro (fun b H' => b = false ∧ H41 = H') ?_ fun J hJ => ite_f ?_ (ite_f (bnei (by rw [he1, he])) (ite_f ?_ (ite_f (bnei (by rw [he2, he])) (rSame_ok7 (vm rfl o41) (v0.keep (k16'.trans k41)) (by omega) fun r hr => hJ _ _ ⟨by rw [hr.2 rfl]; rfl, rfl⟩))))
  rotate_left
  · show (!(B1.1 == B.1)) = false
    rw [hB1, hB]; simp
  · show (!(B2.1 == B.1)) = false
    rw [hB2, hB]; simp
  rintro _ _ ⟨rfl, rfl⟩
  refine ite_f rfl ?_
  refine Fix.intro (fun (x : Int) H' => ∃ i : Nat, x = (i : Int) ∧ i ≤ 8 ∧ H41 = H') (fun x _ => 8 - x.toNat) ⟨0, rfl, by omega, rfl⟩ ?_
  rintro _ _ ⟨i, rfl, hi, rfl⟩ rec2 hrec2
  by_cases hi8 : i < 8
  · have hg : (xs ++ mk7 8)[xs.length + i]? = some (99, 0, i) := by
      rw [List.getElem?_append_right (by omega), show xs.length + i - xs.length = i from by omega, mk7_get hi8]
    obtain ⟨b, o, ha, hA⟩ := (o41.view cS_len (by omega)).get hg
    have ew : IntKind.wrap .i64 ((s.n : Int) + (i : Int)) = ((xs.length + i : Nat) : Int) := by rw [w64 (by omega)]; omega
    rw [ew]
    refine ite_t (dect (by omega)) ⟨by omega, by show ((xs.length + i : Nat) : Int) < (t.n : Int); omega, _, ha, ?_⟩
    rw [Int.toNat_natCast]
    refine ⟨_, _, _, hA, ite_f ?_ ?_⟩
    · rw [wu16 (by omega)]; simp
    · rw [show (i : Int) + 1 = ((i + 1 : Nat) : Int) from by omega, w64n (by omega)]
      exact hrec2 _ _ ⟨i + 1, rfl, by omega, rfl⟩ (by simp; omega)
  refine ite_f (decf (by omega)) ?_
  -- the list is written over, turned round
  refine Fix.intro (fun (x : Int) H' => ∃ i : Nat, x = (i : Int) ∧ i ≤ xs.length ∧ Own H' 42 3 t ((xs.reverse.take i ++ xs.drop i ++ mk7 8).flatMap cS) ∧ Ch (fp t) H41 H') (fun x _ => xs.length - x.toNat) ⟨0, rfl, by omega, by simpa using o41, Ch.refl _ _⟩ ?_
  rintro _ H62 ⟨j, rfl, hj, o62, c62⟩ rec3 hrec3
  have k62 : Keep W.heap H62 := ((k16'.trans k41).ch (F := [])).trans c62 (fun b hb => .inr (by have := f16 b hb; omega)) |>.keep (by simp)
  by_cases hjl : j < xs.length
  · obtain ⟨x, hxj⟩ : ∃ x, xs[xs.length - 1 - j]? = some x := ⟨_, List.getElem?_eq_getElem (by omega)⟩
    have hrv : xs.reverse[j]? = some x := by rw [List.getElem?_reverse hjl]; exact hxj
    obtain ⟨b, o, ha, hA⟩ := (v0.keep k62).get hxj
    have e1 : IntKind.wrap .i64 ((s.n : Int) - 1) = (xs.length : Int) - 1 := by rw [w64 (by omega), n0]
    have e2 : IntKind.wrap .i64 ((xs.length : Int) - 1 - (j : Int)) = ((xs.length - 1 - j : Nat) : Int) := by rw [w64 (by omega)]; omega
    rw [e1, e2]
    refine ite_t (dect (by show (j : Int) < ((xs.length : Nat) : Int); omega)) ⟨by omega, by omega, _, ha, ?_⟩
    rw [Int.toNat_natCast]
    refine ⟨_, _, _, hA, by omega, by show (j : Int) < ((xs.length : Nat) : Int); omega, ?_⟩
    rw [Int.toNat_natCast]
    refine o62.setE (f := cS) (i := j) (y := x) cS_len (by omega) (by simp; omega) fun H77 o77 c77 _ => ?_
    rw [show (j : Int) + 1 = ((j + 1 : Nat) : Int) from by omega, w64n (by omega)]
    refine hrec3 _ _ ⟨j + 1, rfl, by omega, ?_, c62.same c77⟩ (by simp; omega)
    have e3 : (xs.reverse.take j ++ xs.drop j ++ mk7 8).set j x = xs.reverse.take (j + 1) ++ xs.drop (j + 1) ++ mk7 8 := by
      have hlj : (xs.reverse.take j).length = j := by simp; omega
      obtain ⟨y, hy⟩ : ∃ y, xs[j]? = some y := ⟨_, List.getElem?_eq_getElem hjl⟩
      rw [drop_cons hy, take_snoc' hrv, List.append_assoc, List.append_assoc, List.append_assoc, List.set_append_right _ _ (by omega), hlj, Nat.sub_self]
      rfl
    rw [← e3]
    exact o77
  · obtain rfl : j = xs.length := by omega
    have o62' : Own H62 42 3 t ((xs.reverse ++ mk7 8).flatMap cS) := by
      rw [List.take_of_length_le (by simp), List.drop_eq_nil_of_le (by omega), List.append_nil] at o62
      exact o62
    have hrx : ∀ x ∈ xs.reverse, smOk x := fun x hh => hx x (List.mem_reverse.1 hh)
    refine ite_f (decf (by show ¬ ((xs.length : Nat) : Int) < ((xs.length : Nat) : Int); omega)) (rBlock_ok7 hp (vm (by simp) o62') hrx (by simp; omega) fun B3 e3 H79 hB3 he3 k79 => ?_)
    intro b80 H82 c82 g80 g80'
    have k82 : Keep H62 H82 := k79.trans (c82.keep (by simp))
    refine Block_ok7 hp (vm (by simp) (o62'.kp k82)) hrx (by simp; omega) fun B4 e4 H84 hB4 he4 k84 => ⟨Pv.keep k84 (by simp; omega), ?_⟩
    intro b86 H88 c88 g86 g86'
    refine ite_t ?_ ⟨by rw [he4, he3]; simp, ((k62.trans k82).trans k84).trans (c88.keep (by simp))⟩
    show (B4.1 == B3.1) = true
    rw [hB4, hB3, beq_self_eq_true]
end Go.Proofs.Ythblohaffipkhaa.G
