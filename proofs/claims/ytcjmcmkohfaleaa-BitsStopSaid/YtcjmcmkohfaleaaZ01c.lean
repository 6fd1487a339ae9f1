/- Layer 1: BitsJoin. -/
import Derived.Test.YtcjmcmkohfaleaaZ01b
import Derived.Test.YtcjmcmkohfaleaaKBitsJoin
namespace Go.Proofs.Ytcjmcmkohfaleaa.G
open Go.RowKit
set_option linter.unusedVariables false
set_option linter.unusedSimpArgs false

theorem num_app (l : List Bool) : ∀ m, num (l ++ m) = num l * 2 ^ m.length + num m := by
  intro m
  have key : ∀ (m : List Bool) (a : Nat), m.foldl (fun v b => 2 * v + b.toNat) a = a * 2 ^ m.length + num m := by
    intro m
    induction m with
    | nil => intro a; simp [num]
    | cons b m ih =>
      intro a
      have h0 := ih (2 * 0 + b.toNat)
      rw [List.foldl_cons, ih]
      unfold num at *
      rw [List.foldl_cons, h0, List.length_cons, Nat.pow_succ, Nat.add_mul]
      have : 2 * a * 2 ^ m.length = a * (2 ^ m.length * 2) := by rw [Nat.mul_comm 2 a, Nat.mul_assoc, Nat.mul_comm 2]
      rw [this]
      simp
      omega
  unfold num
  rw [List.foldl_append, key]
  rfl
theorem ext_app (l : List (Bool × Nat)) (n m : Nat) (h : n + m ≤ l.length) : ext l (n + m) = ext l n ++ ext (l.drop n) m := by
  rw [ext_take h, ext_take (by omega), ext_take (by rw [List.length_drop]; omega), List.map_drop, List.take_add]
/-- How many of the bits are passed over where so many are asked. -/
def tk (l : List (Bool × Nat)) (n : Int) : Nat := if 0 ≤ n ∧ n ≤ l.length then n.toNat else 0
theorem tk_le (l : List (Bool × Nat)) (n : Int) : tk l n ≤ l.length := by unfold tk; split <;> omega
theorem Skip_x {H : Hp} {k : Nat} {l : List (Bool × Nat)} {e u : Nat} {n : Int} {Q : Bool → Hp → Prop} (hs : Src H k l e u)
    (h : ∀ H', Src H' k (l.drop (tk l n)) e (u + tk l n) → Same H H' k → Q (decide (0 ≤ n ∧ n ≤ l.length)) H') : bits_Source_Skip.s (some ⟨k, 0, none⟩) n H Q := by
  unfold tk at h
  by_cases hb : 0 ≤ n ∧ n ≤ l.length
  · rw [if_pos hb, dect hb] at h
    exact Skip_ok hs (by omega) fun _ _ H' S s => h H' S s
  · rw [if_neg hb, decf hb] at h
    exact Skip_ok hs (fun _ => h H (by simpa using hs) (Same.refl _ _)) (by omega)
theorem Next_x {H : Hp} {k : Nat} {l : List (Bool × Nat)} {e u m : Nat} {Q : Int × Bool → Hp → Prop} (hs : Src H k l e u) (hm : m ≤ 16)
    (h : ∀ H', Src H' k (l.drop (tk l m)) e (u + tk l m) → Ch [k] H H' → Q ((if m ≤ l.length then (num (ext l m) : Int) else 0), decide (m ≤ l.length)) H') : bits_Source_Next.s (some ⟨k, 0, none⟩) (m : Int) H Q := by
  unfold tk at h
  by_cases hb : m ≤ l.length
  · rw [if_pos (by omega), if_pos hb, dect hb] at h
    exact Next_ok hs (by omega) fun _ _ _ H' S s => h H' S s
  · rw [if_neg (by omega), if_neg hb, decf hb] at h
    exact Next_ok hs (fun _ H' k' => h H' (by simpa using hs.keep k') k'.ch) (by omega)
theorem BitsJoin_row (f : ByteArray) (x y at_ a b : Int) (W : World) (hf : f.size < 140737488355328) (hx : -9223372036854775808 ≤ x ∧ x ≤ 9223372036854775807) (hy : -9223372036854775808 ≤ y ∧ y ≤ 9223372036854775807) (ha : -9223372036854775808 ≤ at_ ∧ at_ ≤ 9223372036854775807) (hA : -9223372036854775808 ≤ a ∧ a ≤ 9223372036854775807) (hB : -9223372036854775808 ≤ b ∧ b ≤ 9223372036854775807) :
    mosaiclaw01_BitsJoin.s f x y at_ a b W.heap (fun r H' => r = true ∧ Keep W.heap H') := by
  unfold mosaiclaw01_BitsJoin.s
  intro b1 H2 c2 g1 g1'
  have k2 : Keep W.heap H2 := c2.keep (by simp)
  have y2 := k2.size
  refine alive_ok fun H4 k4 => ⟨Pv.keep k4 (by simpa using g1'), ?_⟩
  have y4 := k4.size
  obtain ⟨hl1, hl2⟩ := lohi f.size x y
  obtain ⟨xs, e, hc⟩ := Cut.ex (f := f) (b := hiOf f.size x y) _ (loOf f.size x) (Nat.le_refl _) hl1
  have hle := hc.le
  have hrl := remB_len xs (loOf f.size x)
  refine Open_ok (by omega) hc fun p H7 S7 k7 g7 => ⟨Pv.keep k7 (by simp; omega), ?_⟩
  have y7 := k7.size
  refine Open_ok (by omega) hc fun q H10 S10 k10 g10 => ?_
  generalize remB (loOf f.size x) 7 xs = l at *
  have z7 := S7.lt
  have z10 := S10.lt
  have P10 := S7.keep k10
  have kW : Keep W.heap H10 := ((k2.trans k4).trans k7).trans k10
  refine Join.intro (fun b H' => b = false ∧ H10 = H') ?_ fun J hJ => ite_f rfl (ite_f rfl (hJ _ _ ⟨rfl, rfl⟩))
  rintro _ _ ⟨rfl, rfl⟩
  refine ite_f rfl (Left_ok P10 ?_)
  have bnd : l.length ≤ 1125899906842624 := by omega
  refine Skip_x P10 fun H17 S17 s17 => Skip_x (S10.ch s17.ch (by simp; omega)) fun H19 S19 s19 => ?_
  have T17 := S17.ch s19.ch (by simp; omega)
  have k19 : Keep W.heap H19 := (kW.same s17 (by omega)).same s19 (by omega)
  have z19 := k19.size
  have hz17 := S17.lt
  have htk := tk_le l at_
  have hnot : ¬ (0 ≤ at_ ∧ at_ ≤ l.length) → tk l at_ = 0 := fun h => by unfold tk; rw [if_neg h]
  rw [Nat.zero_add] at S19 T17
  have hsum : (l.drop (tk l at_)).length + tk l at_ = l.length := by rw [List.length_drop]; omega
  have hw : IntKind.wrap .i64 (((l.drop (tk l at_)).length : Int) + (tk l at_ : Int)) = (l.length : Int) := by rw [w64 (by omega)]; omega
  refine Join.intro (fun b H' => b = false ∧ H19 = H') ?_ ?_
  rotate_left
  · intro J hJ
    refine ite_f (by simp) ?_
    have tail : ∀ (G : Hp → Prop), G H19 → (decide (0 ≤ at_ ∧ at_ ≤ l.length) = false → tk l at_ = 0) → True := fun _ _ _ => trivial
    by_cases h0 : 0 ≤ at_
    · refine ite_t (dect h0) (ite_f (by simp [h0]) (Left_ok T17 (Used_ok T17 (ite_f (bnei hw) ?_))))
      by_cases h1 : at_ ≤ l.length
      · exact ite_f (by simp [h0, h1]) (hJ _ _ ⟨rfl, rfl⟩)
      · exact ite_t (by simp [h0]; omega) (Used_ok T17 (hJ _ _ ⟨bnei (by have := hnot (by omega); omega), rfl⟩))
    · refine ite_f (decf h0) (ite_f (by simp [h0]) (Left_ok T17 (Used_ok T17 (ite_f (bnei hw) ?_))))
      exact ite_t (by simp [h0]) (Used_ok T17 (hJ _ _ ⟨bnei (by have := hnot (by omega); omega), rfl⟩))
  rintro _ _ ⟨rfl, rfl⟩
  generalize hd : l.drop (tk l at_) = r at *
  generalize tk l at_ = u at *
  refine ite_f rfl (clip_ok (clip_ok ?_))
  have hn := clipN_le a
  have hm := clipN_le b
  generalize clipN a = n at *
  generalize clipN b = m' at *
  rw [show (17 : Int) - (n : Int) = ((17 - n : Nat) : Int) from by omega, w64n (by omega)]
  refine ⟨by omega, Lt.of ?_⟩
  rw [show Int.tmod (m' : Int) ((17 - n : Nat) : Int) = ((m' % (17 - n) : Nat) : Int) from rfl]
  have hmm : m' % (17 - n) < 17 - n := Nat.mod_lt _ (by omega)
  generalize m' % (17 - n) = m at *
  rw [show (n : Int) + (m : Int) = ((n + m : Nat) : Int) from by omega, w64n (by omega)]
  refine Peek_ok T17 (by omega) fun _ _ H31 k31 => Next_x (T17.keep k31) (by omega) fun H33 S33 c33 => ?_
  rw [Int.toNat_natCast]
  have Q33 : Src H33 q r e u := (S19.keep k31).ch c33 (by simp; omega)
  have k33 : Keep W.heap H33 := ((k19.trans k31).ch (F := [])).trans c33 (by simp; omega) |>.keep (by simp)
  have ht := tk_le r (n + m : Nat)
  refine Join.intro (fun c H' => c = false ∧ H33 = H') ?_ ?_
  rotate_left
  · intro J hJ
    refine ite_f rfl (Left_ok Q33 (ite_f ?_ (Left_ok S33 (Used_ok S33 (ite_f (bnei ?_) ?_)))))
    · by_cases h : n + m ≤ r.length
      · simp [h]; omega
      · simp [h]; omega
    · rw [List.length_drop, w64 (by omega)]; omega
    · by_cases h : n + m ≤ r.length
      · refine ite_t (dect h) (ite_f (bnei (by simp [h])) (ite_f (by simp [h]) (hJ _ _ ⟨rfl, rfl⟩)))
      · have h0 : tk r (n + m : Nat) = 0 := by unfold tk; rw [if_neg (by omega)]
        refine ite_f (decf h) (ite_t (by simp [h]) (ite_f (bnei (by simp [h])) (Used_ok S33 (Used_ok Q33 (hJ _ _ ⟨bnei (by omega), rfl⟩)))))
  rintro _ _ ⟨rfl, rfl⟩
  refine ite_f rfl ?_
  by_cases h : n + m ≤ r.length
  · refine ite_f (by simp [h]) (Next_x Q33 (by omega) fun H38 S38 c38 => Next_x S38 (by omega) fun H40 S40 c40 => ?_)
    have t0 : tk r (n + m : Nat) = n + m := by unfold tk; rw [if_pos (by omega)]; omega
    have t1 : tk r n = n := by unfold tk; rw [if_pos (by omega)]; omega
    rw [t1] at S40
    have hdl : (r.drop n).length = r.length - n := by rw [List.length_drop]
    have t2 : tk (r.drop n) m = m := by unfold tk; rw [hdl, if_pos (by omega)]; omega
    have hq33 := Q33.lt
    rw [t2] at S40
    rw [t0] at S33
    rw [t1]
    have P40 := (S33.ch c38 (by simp; omega)).ch c40 (by simp; omega)
    refine ite_t (dect (by omega)) (ite_t (dect (by omega)) ⟨by omega, ite_t (beqi ?_) (At_ok P40 (At_ok S40 ⟨beqi ?_, ?_⟩))⟩)
    · rw [if_pos h, if_pos (by omega), if_pos (by omega), ext_app r n m h, num_app, ext_len]
      have e1 := ext_lt r n
      have e2 := ext_lt (r.drop n) m
      have e3 : (num (ext r n) + 1) * 2 ^ m ≤ 2 ^ n * 2 ^ m := Nat.mul_le_mul_right _ e1
      rw [← Nat.pow_add, Nat.add_mul] at e3
      have e4 := pow_lt (show n + m ≤ 16 by omega)
      have e16 : (2 : Nat) ^ 16 = 65536 := rfl
      rw [shln (k := .i64) (by show m ≤ 64; omega) (w64n (by omega)), w64 (by omega)]
      omega
    · rw [List.drop_drop]
    · exact ((k33.ch (F := [])).trans (c38.trans c40 (by simp)) (by simp; omega)).keep (by simp)
  · exact ite_t (by simp [h]) ⟨rfl, k33⟩
end Go.Proofs.Ytcjmcmkohfaleaa.G
