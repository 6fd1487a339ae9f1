-- PRINTED BY print.sh 35421559b90ae4d0a3588c463048766b98c2df88dd9212a6774a882060cdf62d: not written by this session
import Derived.Test.YtacokffnonfacaaPMagnitudeClipx0
namespace Go.Proofs.Ytacokffnonfacaa.PMagnitudeClip
open Go.RowKit Go.Proofs.YtacokffnonfacaaW.PrintWords Go.Proofs.YtacokffnonfacaaW.PrintLast Go.Proofs.YtacokffnonfacaaW.PrintMore
attribute [local go_sem] max2_int min2_int max_two min_two max_three min_three max_four min_four   -- for this text's walks alone
set_option linter.unusedVariables false
set_option linter.unusedSimpArgs false

/-! ### magnitude_Clip: function 9 -/
def magnitude_Clip.f (a0 : Int) (a1 : Int) : Option (Int) := some (IntKind.i16.wrap (mn (mx a0 (wrap64 (-(wrap64 ((wrap64 (2 ^ (mn (mx a1 0) 15).toNat)) - 1))))) (wrap64 ((wrap64 (2 ^ (mn (mx a1 0) 15).toNat)) - 1))))
set_option maxHeartbeats 8000000 in
set_option maxRecDepth 100000 in
theorem magnitude_Clip.calls (a0 : Int) (a1 : Int) (r : Int) (w : World) (h : magnitude_Clip.f a0 a1 = some r) :
    Calls Try.prog 9 #[.int .i64 a0, .int .i8 a1] w fun e w' => e = .returned (.int .i16 r) ∧ Below w.heap.size w w' := by
  have HB := Aside0.mk (Below.refl w.heap.size w)
  have H : (some (IntKind.i16.wrap (mn (mx a0 (wrap64 (-(wrap64 ((wrap64 (2 ^ (mn (mx a1 0) 15).toNat)) - 1))))) (wrap64 ((wrap64 (2 ^ (mn (mx a1 0) 15).toNat)) - 1))))) = some r := h
  clear h
  obtain ⟨ji3, hji3⟩ : ∃ j_ : Int, (mx a1 0) = j_ := ⟨_, rfl⟩
  replace H : (some (IntKind.i16.wrap (mn (mx a0 (wrap64 (-(wrap64 ((wrap64 (2 ^ (mn (ji3) 15).toNat)) - 1))))) (wrap64 ((wrap64 (2 ^ (mn (ji3) 15).toNat)) - 1))))) = some r := by first | (rw [hji3] at H; exact H) | (simp only [hji3] at H ⊢; exact H)
  (try (have hji3l : 0 ≤ ji3 := by (rw [← hji3]; unfold mx; (repeat' split) <;> omega)))
  (try (have hji3m : 0 ≤ ji3 := by omega))
  have hji3_ : (if a1 < 0 then 0 else a1) = ji3 := hji3
  obtain ⟨ji4, hji4⟩ : ∃ j_ : Int, (mn (ji3) 15) = j_ := ⟨_, rfl⟩
  replace H : (some (IntKind.i16.wrap (mn (mx a0 (wrap64 (-(wrap64 ((wrap64 (2 ^ (ji4).toNat)) - 1))))) (wrap64 ((wrap64 (2 ^ (ji4).toNat)) - 1))))) = some r := by first | (rw [hji4] at H; exact H) | (simp only [hji4] at H ⊢; exact H)
  have hji4_ : (if 15 < (ji3) then 15 else (ji3)) = ji4 := hji4
  obtain ⟨ji5, hji5⟩ : ∃ j_ : Int, (mx a0 (wrap64 (-(wrap64 ((wrap64 (2 ^ (ji4).toNat)) - 1))))) = j_ := ⟨_, rfl⟩
  replace H : (some (IntKind.i16.wrap (mn (ji5) (wrap64 ((wrap64 (2 ^ (ji4).toNat)) - 1))))) = some r := by first | (rw [hji5] at H; exact H) | (simp only [hji5] at H ⊢; exact H)
  have hji5_ : (if a0 < (wrap64 (-(wrap64 ((wrap64 (2 ^ (ji4).toNat)) - 1)))) then (wrap64 (-(wrap64 ((wrap64 (2 ^ (ji4).toNat)) - 1)))) else a0) = ji5 := hji5
  obtain ⟨ji6, hji6⟩ : ∃ j_ : Int, (mn (ji5) (wrap64 ((wrap64 (2 ^ (ji4).toNat)) - 1))) = j_ := ⟨_, rfl⟩
  replace H : (some (IntKind.i16.wrap (ji6))) = some r := by first | (rw [hji6] at H; exact H) | (simp only [hji6] at H ⊢; exact H)
  have hji6_ : (if (wrap64 ((wrap64 (2 ^ (ji4).toNat)) - 1)) < (ji5) then (wrap64 ((wrap64 (2 ^ (ji4).toNat)) - 1)) else (ji5)) = ji6 := hji6
  obtain rfl := Option.some.inj H
  go_enter Try.func9, Try.ntmps9
  go_wp2
  go_ret
  exact ⟨by first | rfl | (simp [errW_none, errW_some] <;> rfl) | (simp only [← hji3, ← hji4, ← hji5, ← hji6]; first | rfl | (simp [errW_none, errW_some] <;> rfl)) | (simp [*, errW_none, errW_some] <;> rfl), by repeat (first | (with_reducible first | exact HB.out | apply below_alloc | apply pw_below_drewN | apply below_drew1) | exact HB.out)⟩

/-! ### mosaicref06_power: function 18 -/
def mosaicref06_power.l0 : Nat → Int → Int → Int → Option (Int)
  | 0, _, _, _ => none
  | k + 1, x0, x3, x4 => if x4 < x0 then (mosaicref06_power.l0 k x0 (wrap64 (2 * x3)) (wrap64 (x4 + 1))) else (some x3)
def mosaicref06_power.f (k : Nat) (a0 : Int) : Option (Int) := mosaicref06_power.l0 k a0 1 0
theorem mosaicref06_power.mono_l : ∀ k, (∀ y0 y1 y2, LeO (mosaicref06_power.l0 k y0 y1 y2) (mosaicref06_power.l0 (k + 1) y0 y1 y2))
  | 0 => fun _ _ _ r h => by simp [mosaicref06_power.l0] at h
  | k + 1 => by
    have ih0 := mosaicref06_power.mono_l k
    · intro y0 y1 y2
      unfold mosaicref06_power.l0
      repeat' first
      | (with_reducible exact ih0 _ _ _)
      | (with_reducible exact LeO.refl _)
      | (with_reducible exact LeO.none _)
      | (with_reducible refine LeO.ite ?_ ?_)
      | (with_reducible refine LeO.bind ?_ (fun _ => ?_))
      | exact ih0 _ _ _
      | exact LeO.none _
      | refine LeO.ite ?_ ?_
      | refine LeO.bind ?_ (fun _ => ?_)
theorem mosaicref06_power.mono : ∀ a0 k, LeO (mosaicref06_power.f k a0) (mosaicref06_power.f (k + 1) a0) := by
  intro a0 k
  have ih0 := mosaicref06_power.mono_l k
  unfold mosaicref06_power.f
  repeat' first
      | (with_reducible exact ih0 _ _ _)
      | (with_reducible exact LeO.refl _)
      | (with_reducible exact LeO.none _)
      | (with_reducible refine LeO.ite ?_ ?_)
      | (with_reducible refine LeO.bind ?_ (fun _ => ?_))
      | exact ih0 _ _ _
      | exact LeO.none _
      | refine LeO.ite ?_ ?_
      | refine LeO.bind ?_ (fun _ => ?_)
set_option maxHeartbeats 8000000 in
set_option maxRecDepth 100000 in
theorem mosaicref06_power.calls (k : Nat) (a0 : Int) (r : Int) (w : World) (h : mosaicref06_power.f k a0 = some r) :
    Calls Try.prog 18 #[.int .i64 a0] w fun e w' => e = .returned (.int .i64 r) ∧ Drawn0 w w' := by
  have H : (mosaicref06_power.l0 k a0 1 0) = some r := h
  clear h
  have H' := Aside0.mk H
  clear H
  go_enter Try.func18, Try.ntmps18
  go_wp2
  go_loopg [3, 4] k (fun kq v3 v4 w' => ∃ (x3_1 : Int) (x4_1 : Int), v3 = .int .i64 x3_1 ∧ v4 = .int .i64 x4_1 ∧ Aside0 (mosaicref06_power.l0 kq a0 x3_1 x4_1 = some r) ∧ Aside0 (kq ≤ k) ∧ Drawn0 w w')
  case atStart => exact ⟨(1), (0), (by first | rfl | (simp; done) | (simp [*]; done)), (by first | rfl | (simp; done) | (simp [*]; done)), H', ⟨Nat.le_refl _⟩, by repeat (first | exact Drawn0.refl _ | apply Drawn0.step)⟩
  case round =>
    clear H'
    try clear c1
    obtain ⟨x3_1, x4_1, rfl, rfl, HA, HK1, ⟨m1, rfl⟩⟩ := hrel
    cases gk with
    | zero => exact absurd HA.out (by simp [mosaicref06_power.l0])
    | succ k1 =>
      have H := HA.out
      clear HA
      simp only [mosaicref06_power.l0] at H
      by_cases c2 : x4_1 < a0
      · rw [if_pos c2] at H
        have c2b0 : decide (x4_1 < a0) = true := decide_eq_true c2
        clear c2
        have H' := Aside0.mk H
        clear H
        go_wp2
        go_roundg k1
        case measure => have := HK1.out; omega
        case rel => exact ⟨(wrap64 (2 * x3_1)), (wrap64 (x4_1 + 1)), (by first | rfl | (simp; done) | (simp [*]; done)), (by first | rfl | (simp; done) | (simp [*]; done)), H', ⟨by have := HK1.out; omega⟩, by repeat (first | exact Drawn0.refl _ | apply Drawn0.step)⟩
      · rw [if_neg c2] at H
        have c2b0 : decide (x4_1 < a0) = false := decide_eq_false c2
        clear c2
        obtain rfl := Option.some.inj H
        go_wp2
        go_ret
        exact ⟨by first | rfl | (simp; done) | (simp [*]; done), by repeat (first | exact Drawn0.refl _ | apply Drawn0.step)⟩

/-! ### mosaicref06_Clip: function 10 -/
mutual
def mosaicref06_Clip.j0 : Nat → Int → Int → Option (Int)
  | 0, _, _ => none
  | k + 1, x0, x5 => if x5 > 15 then (mosaicref06_Clip.j1 k x0 15) else (mosaicref06_Clip.j1 k x0 x5)
def mosaicref06_Clip.j1 : Nat → Int → Int → Option (Int)
  | 0, _, _ => none
  | k + 1, x0, x5 => (mosaicref06_power.f k x5).bind fun t101 => (if x0 > (wrap64 (t101 - 1)) then (some (IntKind.i16.wrap (wrap64 (t101 - 1)))) else (if x0 < (wrap64 (-(wrap64 (t101 - 1)))) then (some (IntKind.i16.wrap (wrap64 (-(wrap64 (t101 - 1)))))) else (some (IntKind.i16.wrap (x0)))))
end
def mosaicref06_Clip.f (k : Nat) (a0 : Int) (a1 : Int) : Option (Int) := if (wrap64 (a1)) < 0 then (mosaicref06_Clip.j0 k a0 0) else (mosaicref06_Clip.j0 k a0 (wrap64 (a1)))
theorem mosaicref06_Clip.mono_l : ∀ k, (∀ y0 y1, LeO (mosaicref06_Clip.j0 k y0 y1) (mosaicref06_Clip.j0 (k + 1) y0 y1)) ∧ (∀ y0 y1, LeO (mosaicref06_Clip.j1 k y0 y1) (mosaicref06_Clip.j1 (k + 1) y0 y1))
  | 0 => ⟨fun _ _ r h => by simp [mosaicref06_Clip.j0] at h, fun _ _ r h => by simp [mosaicref06_Clip.j1] at h⟩
  | k + 1 => by
    obtain ⟨ih0, ih1⟩ := mosaicref06_Clip.mono_l k
    refine ⟨?_, ?_⟩
    · intro y0 y1
      unfold mosaicref06_Clip.j0
      repeat' first
      | (with_reducible exact ih0 _ _)
      | (with_reducible exact ih1 _ _)
      | (with_reducible exact mosaicref06_power.mono _ _)
      | (with_reducible exact LeO.refl _)
      | (with_reducible exact LeO.none _)
      | (with_reducible refine LeO.ite ?_ ?_)
      | (with_reducible refine LeO.bind ?_ (fun _ => ?_))
      | exact ih0 _ _
      | exact ih1 _ _
      | exact mosaicref06_power.mono _ _
      | exact LeO.none _
      | refine LeO.ite ?_ ?_
      | refine LeO.bind ?_ (fun _ => ?_)
    · intro y0 y1
      unfold mosaicref06_Clip.j1
      repeat' first
      | (with_reducible exact ih0 _ _)
      | (with_reducible exact ih1 _ _)
      | (with_reducible exact mosaicref06_power.mono _ _)
      | (with_reducible exact LeO.refl _)
      | (with_reducible exact LeO.none _)
      | (with_reducible refine LeO.ite ?_ ?_)
      | (with_reducible refine LeO.bind ?_ (fun _ => ?_))
      | exact ih0 _ _
      | exact ih1 _ _
      | exact mosaicref06_power.mono _ _
      | exact LeO.none _
      | refine LeO.ite ?_ ?_
      | refine LeO.bind ?_ (fun _ => ?_)
theorem mosaicref06_Clip.mono : ∀ a0 a1 k, LeO (mosaicref06_Clip.f k a0 a1) (mosaicref06_Clip.f (k + 1) a0 a1) := by
  intro a0 a1 k
  obtain ⟨ih0, ih1⟩ := mosaicref06_Clip.mono_l k
  unfold mosaicref06_Clip.f
  repeat' first
      | (with_reducible exact ih0 _ _)
      | (with_reducible exact ih1 _ _)
      | (with_reducible exact mosaicref06_power.mono _ _)
      | (with_reducible exact LeO.refl _)
      | (with_reducible exact LeO.none _)
      | (with_reducible refine LeO.ite ?_ ?_)
      | (with_reducible refine LeO.bind ?_ (fun _ => ?_))
      | exact ih0 _ _
      | exact ih1 _ _
      | exact mosaicref06_power.mono _ _
      | exact LeO.none _
      | refine LeO.ite ?_ ?_
      | refine LeO.bind ?_ (fun _ => ?_)
set_option maxHeartbeats 8000000 in
set_option maxRecDepth 100000 in
theorem mosaicref06_Clip.calls (k : Nat) (a0 : Int) (a1 : Int) (r : Int) (w : World) (h : mosaicref06_Clip.f k a0 a1 = some r) :
    Calls Try.prog 10 #[.int .i64 a0, .int .i8 a1] w fun e w' => e = .returned (.int .i16 r) ∧ Drawn0 w w' := by
  have H : (if (wrap64 (a1)) < 0 then (mosaicref06_Clip.j0 k a0 0) else (mosaicref06_Clip.j0 k a0 (wrap64 (a1)))) = some r := h
  clear h
  have HC3 := Aside0.mk H
  clear H
  go_enter Try.func10, Try.ntmps10
  go_upto_if 10 with (fail)
  go_cut [5] (fun v5 wc => ∃ (kq : Nat) (x5_2 : Int), v5 = .int .i64 x5_2 ∧ Aside0 (mosaicref06_Clip.j0 kq a0 x5_2 = some r) ∧ Aside0 (kq ≤ k) ∧ Drawn0 w wc)
  case first =>
    have H := HC3.out
    clear HC3
    by_cases c4 : (wrap64 (a1)) < 0
    · rw [if_pos c4] at H
      have c4b0 : decide ((wrap64 (a1)) < 0) = true := decide_eq_true c4
      clear c4
      (first | rw [c4b0] | (simp only [i64_w, i32_w]; rw [c4b0]) | skip)
      have H' := Aside0.mk H
      clear H
      go_wp2
      go_meet
      case rel => exact ⟨_, (0), (by first | rfl | (simp; done) | (simp [*]; done)), H', ⟨by first | omega | exact Nat.le_refl _⟩, by repeat (first | exact Drawn0.refl _ | apply Drawn0.step)⟩
    · rw [if_neg c4] at H
      have c4b0 : decide ((wrap64 (a1)) < 0) = false := decide_eq_false c4
      clear c4
      (first | rw [c4b0] | (simp only [i64_w, i32_w]; rw [c4b0]) | skip)
      have H' := Aside0.mk H
      clear H
      go_wp2
      go_meet
      case rel => exact ⟨_, (wrap64 (a1)), (by first | rfl | (simp; done) | (simp [*]; done)), H', ⟨by first | omega | exact Nat.le_refl _⟩, by repeat (first | exact Drawn0.refl _ | apply Drawn0.step)⟩
  case rest =>
    clear HC3
    try clear c1
    try clear p2
    try clear c4
    try clear c4b0
    obtain ⟨kq, x5_2, rfl, HA, HJ2, ⟨mc2, rfl⟩⟩ := hcut
    cases kq with
    | zero => exact absurd HA.out (by simp [mosaicref06_Clip.j0])
    | succ kj2 =>
      have H := HA.out
      clear HA
      simp only [mosaicref06_Clip.j0] at H
      have HC5 := Aside0.mk H
      clear H
      go_upto_if 12 with (fail)
      go_cut [5] (fun v5 wc => ∃ (kq : Nat) (x5_4 : Int), v5 = .int .i64 x5_4 ∧ Aside0 (mosaicref06_Clip.j1 kq a0 x5_4 = some r) ∧ Aside0 (kq ≤ kj2) ∧ Drawn0 w wc)
      case first =>
        have H := HC5.out
        clear HC5
        by_cases c6 : x5_2 > 15
        · rw [if_pos c6] at H
          have c6b0 : decide (15 < x5_2) = true := decide_eq_true c6
          clear c6
          (first | rw [c6b0] | (simp only [i64_w, i32_w]; rw [c6b0]) | skip)
          have H' := Aside0.mk H
          clear H
          go_wp2
          go_meet
          case rel => exact ⟨_, (15), (by first | rfl | (simp; done) | (simp [*]; done)), H', ⟨by have := HJ2.out; first | omega | exact Nat.le_refl _⟩, by repeat (first | exact Drawn0.refl _ | apply Drawn0.step)⟩
        · rw [if_neg c6] at H
          have c6b0 : decide (15 < x5_2) = false := decide_eq_false c6
          clear c6
          (first | rw [c6b0] | (simp only [i64_w, i32_w]; rw [c6b0]) | skip)
          have H' := Aside0.mk H
          clear H
          go_wp2
          go_meet
          case rel => exact ⟨_, (x5_2), (by first | rfl | (simp; done) | (simp [*]; done)), H', ⟨by have := HJ2.out; first | omega | exact Nat.le_refl _⟩, by repeat (first | exact Drawn0.refl _ | apply Drawn0.step)⟩
      case rest =>
        clear HC5
        try clear c1
        try clear c2
        try clear p2
        try clear c4
        try clear c4b0
        try clear c6
        try clear c6b0
        try clear p6
        try clear p2
        obtain ⟨kq, x5_4, rfl, HA, HJ4, ⟨mc4, rfl⟩⟩ := hcut
        cases kq with
        | zero => exact absurd HA.out (by simp [mosaicref06_Clip.j1])
        | succ kj4 =>
          have H := HA.out
          clear HA
          simp only [mosaicref06_Clip.j1] at H
          replace H := Option.bind_eq_some_iff.mp H
          obtain ⟨t101, A70, H⟩ := H
          replace H : (if a0 > (wrap64 (t101 - 1)) then (some (IntKind.i16.wrap (wrap64 (t101 - 1)))) else (if a0 < (wrap64 (-(wrap64 (t101 - 1)))) then (some (IntKind.i16.wrap (wrap64 (-(wrap64 (t101 - 1)))))) else (some (IntKind.i16.wrap (a0))))) = some r := H
          have A7 := Aside0.mk A70
          clear A70
          by_cases c8 : a0 > (wrap64 (t101 - 1))
          · rw [if_pos c8] at H
            have c8b0 : decide ((wrap64 (t101 - 1)) < a0) = true := decide_eq_true c8
            clear c8
            obtain rfl := Option.some.inj H
            go_wp2_with (first | ((with_reducible refine gate_callee (f := 18) rfl ?_); refine goesL_ (some 14) rfl rfl Try.func18 (by kernel_rfl) rfl #[.int .i64 x5_4] rfl (by (try simp only [List.map_toArray, List.map_cons, List.map_nil]); first | done | rfl | (simp only [List.length_drop, List.length_take]; rfl)) ?_; (with_reducible refine (mosaicref06_power.calls kj4 x5_4 t101 _ A7.out).mono ?_); rintro e w' ⟨rfl, ⟨nd, rfl⟩⟩; refine ⟨_, rfl, ?_⟩))
            go_ret
            exact ⟨by first | rfl | (simp; done) | (simp [*]; done), by repeat (first | exact Drawn0.refl _ | apply Drawn0.step)⟩
          · rw [if_neg c8] at H
            have c8b0 : decide ((wrap64 (t101 - 1)) < a0) = false := decide_eq_false c8
            clear c8
            by_cases c9 : a0 < (wrap64 (-(wrap64 (t101 - 1))))
            · rw [if_pos c9] at H
              have c9b0 : decide (a0 < (wrap64 (-(wrap64 (t101 - 1))))) = true := decide_eq_true c9
              clear c9
              obtain rfl := Option.some.inj H
              go_wp2_with (first | ((with_reducible refine gate_callee (f := 18) rfl ?_); refine goesL_ (some 14) rfl rfl Try.func18 (by kernel_rfl) rfl #[.int .i64 x5_4] rfl (by (try simp only [List.map_toArray, List.map_cons, List.map_nil]); first | done | rfl | (simp only [List.length_drop, List.length_take]; rfl)) ?_; (with_reducible refine (mosaicref06_power.calls kj4 x5_4 t101 _ A7.out).mono ?_); rintro e w' ⟨rfl, ⟨nd, rfl⟩⟩; refine ⟨_, rfl, ?_⟩))
              go_ret
              exact ⟨by first | rfl | (simp; done) | (simp [*]; done), by repeat (first | exact Drawn0.refl _ | apply Drawn0.step)⟩
            · rw [if_neg c9] at H
              have c9b0 : decide (a0 < (wrap64 (-(wrap64 (t101 - 1))))) = false := decide_eq_false c9
              clear c9
              obtain rfl := Option.some.inj H
              go_wp2_with (first | ((with_reducible refine gate_callee (f := 18) rfl ?_); refine goesL_ (some 14) rfl rfl Try.func18 (by kernel_rfl) rfl #[.int .i64 x5_4] rfl (by (try simp only [List.map_toArray, List.map_cons, List.map_nil]); first | done | rfl | (simp only [List.length_drop, List.length_take]; rfl)) ?_; (with_reducible refine (mosaicref06_power.calls kj4 x5_4 t101 _ A7.out).mono ?_); rintro e w' ⟨rfl, ⟨nd, rfl⟩⟩; refine ⟨_, rfl, ?_⟩))
              go_ret
              exact ⟨by first | rfl | (simp; done) | (simp [*]; done), by repeat (first | exact Drawn0.refl _ | apply Drawn0.step)⟩

/-! ### mosaiclaw06_MagnitudeClip: function 3 -/
def mosaiclaw06_MagnitudeClip.f (k : Nat) (a0 : Int) (a1 : Int) : Option (Bool) := (magnitude_Clip.f a0 a1).bind fun t102 => ((mosaicref06_Clip.f k a0 a1).bind fun t103 => (some (t102 == t103)))
theorem mosaiclaw06_MagnitudeClip.mono : ∀ a0 a1 k, LeO (mosaiclaw06_MagnitudeClip.f k a0 a1) (mosaiclaw06_MagnitudeClip.f (k + 1) a0 a1) := by
  intro a0 a1 k
  unfold mosaiclaw06_MagnitudeClip.f
  repeat' first
      | (with_reducible exact mosaicref06_Clip.mono _ _ _)
      | (with_reducible exact LeO.refl _)
      | (with_reducible exact LeO.none _)
      | (with_reducible refine LeO.ite ?_ ?_)
      | (with_reducible refine LeO.bind ?_ (fun _ => ?_))
      | exact mosaicref06_Clip.mono _ _ _
      | exact LeO.none _
      | refine LeO.ite ?_ ?_
      | refine LeO.bind ?_ (fun _ => ?_)
set_option maxHeartbeats 8000000 in
set_option maxRecDepth 100000 in
theorem mosaiclaw06_MagnitudeClip.calls (k : Nat) (a0 : Int) (a1 : Int) (r : Bool) (w : World) (h : mosaiclaw06_MagnitudeClip.f k a0 a1 = some r) :
    Calls Try.prog 3 #[.int .i64 a0, .int .i8 a1] w fun e w' => e = .returned (.bool r) ∧ Below w.heap.size w w' := by
  have HB := Aside0.mk (Below.refl w.heap.size w)
  have H : ((magnitude_Clip.f a0 a1).bind fun t102 => ((mosaicref06_Clip.f k a0 a1).bind fun t103 => (some (t102 == t103)))) = some r := h
  clear h
  replace H := Option.bind_eq_some_iff.mp H
  obtain ⟨t102, A30, H⟩ := H
  replace H : ((mosaicref06_Clip.f k a0 a1).bind fun t103 => (some (t102 == t103))) = some r := H
  have A3 := Aside0.mk A30
  clear A30
  replace H := Option.bind_eq_some_iff.mp H
  obtain ⟨t103, A40, H⟩ := H
  replace H : (some (t102 == t103)) = some r := H
  have A4 := Aside0.mk A40
  clear A40
  obtain rfl := Option.some.inj H
  go_enter Try.func3, Try.ntmps3
  go_wp2_with (first | ((with_reducible refine gate_callee (f := 9) rfl ?_); refine goesL_ (some 7) rfl rfl Try.func9 (by kernel_rfl) rfl #[.int .i64 a0, .int .i8 a1] rfl (by (try simp only [List.map_toArray, List.map_cons, List.map_nil]); first | done | rfl | (simp only [List.length_drop, List.length_take]; rfl)) ?_; (with_reducible refine (magnitude_Clip.calls a0 a1 t102 _ A3.out).mono ?_); rintro e w5 ⟨rfl, hb⟩; refine ⟨_, rfl, ?_⟩; have n0_ := Aside0.mk (below_step (by repeat (first | (with_reducible first | exact HB.out | apply below_alloc | apply pw_below_drewN | apply below_drew1) | exact HB.out)) hb); clear HB; have HB := n0_; clear n0_; (try clear hb); (try clear hb2); (try clear hk); (try clear hi)) | ((with_reducible refine gate_callee (f := 10) rfl ?_); refine goesL_ (some 10) rfl rfl Try.func10 (by kernel_rfl) rfl #[.int .i64 a0, .int .i8 a1] rfl (by (try simp only [List.map_toArray, List.map_cons, List.map_nil]); first | done | rfl | (simp only [List.length_drop, List.length_take]; rfl)) ?_; (with_reducible refine (mosaicref06_Clip.calls k a0 a1 t103 _ A4.out).mono ?_); rintro e w' ⟨rfl, ⟨nd, rfl⟩⟩; refine ⟨_, rfl, ?_⟩))
  go_ret
  exact ⟨by first | rfl | (simp [errW_none, errW_some] <;> rfl) | (simp [*, errW_none, errW_some] <;> rfl), by repeat (first | (with_reducible first | exact HB.out | apply below_alloc | apply pw_below_drewN | apply below_drew1) | exact HB.out)⟩

/-- THE ONE PURE STATEMENT of mosaiclaw06_MagnitudeClip: yours. -/
def mosaiclaw06_MagnitudeClip.Pure : Prop := ∀ (a0 : Int) (a1 : Int), (Lit.int .i64 a0).wf = true → (Lit.int .i8 a1).wf = true → ∃ k, mosaiclaw06_MagnitudeClip.f k a0 a1 = some true
theorem mosaiclaw06_MagnitudeClip.walk (P : mosaiclaw06_MagnitudeClip.Pure) (a0 : Int) (a1 : Int) (w : World) (w0 : (Lit.int .i64 a0).wf = true) (w1 : (Lit.int .i8 a1).wf = true) :
    Calls Try.prog 3 #[.int .i64 a0, .int .i8 a1] w fun e w' => e = .returned (.bool true) ∧ Below w.heap.size w w' := by
  obtain ⟨k, h⟩ := P a0 a1 w0 w1
  refine (mosaiclaw06_MagnitudeClip.calls k a0 a1 true w h).mono ?_
  rintro e w' ⟨rfl, hd⟩
  exact ⟨rfl, hd⟩

end Go.Proofs.Ytacokffnonfacaa.PMagnitudeClip
