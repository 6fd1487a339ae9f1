/- Layer 14: GeomCovers. -/
import Derived.Test.YtlonijlcddlhjaaZ14d
import Derived.Test.YtlonijlcddlhjaaZ14t
import Derived.Test.YtlonijlcddlhjaaZP
import Derived.Test.YtlonijlcddlhjaaKGeomCovers
namespace Go.Proofs.Ytlonijlcddlhjaa.G
open Go.RowKit
set_option linter.unusedVariables false
set_option linter.unusedSimpArgs false

abbrev cIv (v : Int) : List Value := [.int .i64 v]
theorem cIv_len (v : Int) : (cIv v).length = 1 := rfl
theorem nwA_iv {H : Hp} {T : TypeId} {cs : Array Value} {K : Addr → Hp → Prop} (h : ∀ H', Bk H' H.size T cs.toList → Keep H H' → H'.size = H.size + 1 → K ⟨H.size, 0, none⟩ H') : nwA H T cs K := by
  refine h _ ?_ ⟨by simp, fun k hk => ?_⟩ (by simp)
  · unfold Bk; simp
  · rw [Array.getElem?_push, if_neg (by omega)]
theorem Own.set1 {H : Hp} {s : Sl} {T : TypeId} {xs : List Int} {i : Nat} {v : Int} {K : Hp → Prop} (o : Own H T 1 s (xs.flatMap cIv)) (hi : i < xs.length)
    (hK : ∀ H', Own H' T 1 s ((xs.set i v).flatMap cIv) → Ch (fp s) H H' → H'.size = H.size → K H') : ∃ p, s.a = some p ∧ st H (p.add (i * 1)) (.int .i64 v) K := by
  have hfm : ∀ ys : List Int, ys.flatMap cIv = ys.map fun v => Value.int .i64 v := fun ys => by
    induction ys with
    | nil => rfl
    | cons y ys ih => rw [List.flatMap_cons, ih]; rfl
  rcases o with ⟨rfl, h2⟩ | ⟨b, sp, ha, hb, hl, hsp, hle⟩
  · rw [hfm] at h2
    have := List.map_eq_nil_iff.1 h2
    subst this
    simp at hi
  · refine ⟨_, ha, st_a hb (by rw [List.length_append, hfm, List.length_map]; omega) fun H' b' s' => hK H' (.inr ⟨b, sp, ha, ?_, ?_, hsp, hle⟩) (s'.ch.mono (by simp [fp, ha])) s'.size⟩
    · rw [hfm] at b' ⊢
      rw [Nat.mul_one, List.set_append_left _ _ (by rw [List.length_map]; exact hi)] at b'
      rw [List.map_set]
      exact b'
    · rw [← hl, hfm, hfm, List.length_map, List.length_map, List.length_set]
/-- The place of a block in a part's list. -/
def atX (A : Nat) (x : Sp) : Int := x.2.2.2.1 * 4 * ((A : Int) + 1) + x.2.2.1
open Classical in
/-- What has been seen of a part. -/
noncomputable def sw (A : Nat) (L : List Sp) (i N : Nat) : List Int := (List.range N).map fun (k : Nat) => if ∃ x ∈ L, x.1 = (i : Int) ∧ atX A x = (k : Int) then 1 else 0
theorem sw_len (A : Nat) (L : List Sp) (i N : Nat) : (sw A L i N).length = N := by simp [sw]
open Classical in
theorem sw_get {A : Nat} {L : List Sp} {i N k : Nat} (h : k < N) : (sw A L i N)[k]? = some (if ∃ x ∈ L, x.1 = (i : Int) ∧ atX A x = (k : Int) then 1 else 0) := by
  unfold sw
  rw [List.getElem?_map, List.getElem?_range h]
  rfl
theorem sw_nil (A i N : Nat) : sw A [] i N = List.replicate N 0 := by
  refine List.ext_getElem? fun k => ?_
  by_cases hk : k < N
  · rw [sw_get hk, List.getElem?_replicate, if_pos hk, if_neg (by simp)]
  · rw [List.getElem?_eq_none (by rw [sw_len]; omega), List.getElem?_eq_none (by simp; omega)]
theorem sw_same {A : Nat} {L : List Sp} {x : Sp} {i N k : Nat} (h1 : x.1 = (i : Int)) (h2 : atX A x = (k : Int)) : sw A (L ++ [x]) i N = (sw A L i N).set k 1 := by
  refine List.ext_getElem? fun j => ?_
  rw [List.getElem?_set, sw_len]
  by_cases hj : j < N
  · rw [sw_get hj]
    by_cases e : k = j
    · subst e
      rw [if_pos rfl, if_pos hj, if_pos ⟨x, by simp, h1, h2⟩]
    · rw [if_neg e, sw_get hj]
      congr 1
      have : (∃ y ∈ L ++ [x], y.1 = (i : Int) ∧ atX A y = (j : Int)) ↔ (∃ y ∈ L, y.1 = (i : Int) ∧ atX A y = (j : Int)) := by
        constructor
        · rintro ⟨y, hy, e1, e2⟩
          rcases List.mem_append.1 hy with hy | hy
          · exact ⟨y, hy, e1, e2⟩
          · obtain rfl : y = x := by simpa using hy
            rw [h2] at e2
            exact absurd (by exact_mod_cast e2) e
        · rintro ⟨y, hy, e1, e2⟩
          exact ⟨y, by simp [hy], e1, e2⟩
      by_cases g : ∃ y ∈ L, y.1 = (i : Int) ∧ atX A y = (j : Int)
      · rw [if_pos (this.2 g), if_pos g]
      · rw [if_neg (fun q => g (this.1 q)), if_neg g]
  · rw [List.getElem?_eq_none (by rw [sw_len]; omega)]
    by_cases e : k = j
    · rw [if_pos e, if_neg (by omega)]
    · rw [if_neg e, List.getElem?_eq_none (by rw [sw_len]; omega)]
theorem sw_other {A : Nat} {L : List Sp} {x : Sp} {i N : Nat} (h1 : x.1 ≠ (i : Int)) : sw A (L ++ [x]) i N = sw A L i N := by
  refine List.ext_getElem? fun j => ?_
  by_cases hj : j < N
  · rw [sw_get hj, sw_get hj]
    congr 1
    have : (∃ y ∈ L ++ [x], y.1 = (i : Int) ∧ atX A y = (j : Int)) ↔ (∃ y ∈ L, y.1 = (i : Int) ∧ atX A y = (j : Int)) := by
      constructor
      · rintro ⟨y, hy, e1, e2⟩
        rcases List.mem_append.1 hy with hy | hy
        · exact ⟨y, hy, e1, e2⟩
        · obtain rfl : y = x := by simpa using hy
          exact absurd e1 h1
      · rintro ⟨y, hy, e1, e2⟩
        exact ⟨y, by simp [hy], e1, e2⟩
    by_cases g : ∃ y ∈ L, y.1 = (i : Int) ∧ atX A y = (j : Int)
    · rw [if_pos (this.2 g), if_pos g]
    · rw [if_neg (fun q => g (this.1 q)), if_neg g]
  · rw [List.getElem?_eq_none (by rw [sw_len]; omega), List.getElem?_eq_none (by rw [sw_len]; omega)]
theorem at_in {A X Y : Nat} (hX : X < 4 * A) : (Y : Int) * 4 * ((A : Int) + 1) + X = ((Y * (4 * (A + 1)) + X : Nat) : Int) := by
  push_cast
  rw [Int.mul_assoc]
theorem at_one {A X Y X' Y' : Nat} (h1 : X < 4 * A) (h2 : X' < 4 * A) (h : Y * (4 * (A + 1)) + X = Y' * (4 * (A + 1)) + X') : X = X' ∧ Y = Y' := by
  have d1 := divmod (a := 0) (q := Y) (show X < 4 * (A + 1) by omega)
  have d2 := divmod (a := 0) (q := Y') (show X' < 4 * (A + 1) by omega)
  rw [h] at d1
  exact ⟨d1.1.symm.trans d2.1, d1.2.symm.trans d2.2⟩
theorem at_lt {A B X Y : Nat} (hX : X < 4 * A) (hY : Y < 4 * B) : Y * (4 * (A + 1)) + X < 16 * (A + 1) * (B + 1) := by
  have := Nat.mul_le_mul_right (4 * (A + 1)) (show Y + 1 ≤ 4 * B by omega)
  rw [Nat.add_mul, Nat.one_mul] at this
  have e : 16 * (A + 1) * (B + 1) = 4 * B * (4 * (A + 1)) + 16 * (A + 1) := by
    rw [Nat.mul_add, Nat.mul_one, show 16 * (A + 1) * B = 4 * B * (4 * (A + 1)) from by rw [show 16 * (A + 1) = 4 * (4 * (A + 1)) from by omega, Nat.mul_right_comm]]
  omega
/-- The lists of what has been seen, one for a part. -/
structure SN (H : Hp) (A N : Nat) (L : List Sp) (gs : List Sl) : Prop where
  own : ∀ (i : Nat) (s : Sl), gs[i]? = some s → Own H 3 1 s ((sw A L i N).flatMap cIv)
  dj : ∀ (i j : Nat) (s s' : Sl), i ≠ j → gs[i]? = some s → gs[j]? = some s' → ∀ b ∈ fp s, b ∉ fp s'
theorem SN.ch {H H' : Hp} {A N : Nat} {L : List Sp} {gs : List Sl} {F : List Nat} (a : SN H A N L gs) (c : Ch F H H') (hF : ∀ b ∈ gs.flatMap fp, b ∉ F) : SN H' A N L gs :=
  ⟨fun i s hs => (a.own i s hs).ch c fun b hb => hF b (mem_all hs b hb), a.dj⟩
theorem SN.keep {H H' : Hp} {A N : Nat} {L : List Sp} {gs : List Sl} (a : SN H A N L gs) (c : Keep H H') : SN H' A N L gs := a.ch (c.ch (F := [])) (by simp)
/-- What does not turn. -/
structure GC (W H : Hp) (g w h : Int) (s t : Sl) (A B : Nat) (sl : Sl) (gs : List Sl) (b1 b3 b5 b18 b20 b24 b85 top : Nat) : Prop where
  f1 : Bk H b1 26 (c26 g w h s)
  f3 : Bk H b3 32 [.slice t.a t.n t.c]
  f5 : Bk H b5 4 [.bool false]
  f18 : Bk H b18 3 [.int .i64 (A : Int)]
  f20 : Bk H b20 3 [.int .i64 (B : Int)]
  f24 : Bk H b24 55 [.slice sl.a sl.n sl.c]
  own : Own H 56 1 sl (gs.flatMap cL)
  kp : Keep W H
  lt : ∀ b ∈ b1 :: b3 :: b5 :: b18 :: b20 :: b24 :: fp sl, b < top ∧ b ≠ b85 ∧ b ∉ gs.flatMap fp
  lo : W.size ≤ b85 ∧ W.size ≤ top ∧ (∀ b ∈ gs.flatMap fp, W.size ≤ b ∧ b < top ∧ b ≠ b85) ∧ b85 < top
theorem GC.ch {W H H' : Hp} {g w h : Int} {s t : Sl} {A B : Nat} {sl : Sl} {gs : List Sl} {b1 b3 b5 b18 b20 b24 b85 top : Nat} {F : List Nat} (a : GC W H g w h s t A B sl gs b1 b3 b5 b18 b20 b24 b85 top) (c : Ch F H H') (hF : ∀ b ∈ F, b = b85 ∨ top ≤ b ∨ b ∈ gs.flatMap fp) : GC W H' g w h s t A B sl gs b1 b3 b5 b18 b20 b24 b85 top := by
  have lo := a.lo
  have nF : ∀ b ∈ b1 :: b3 :: b5 :: b18 :: b20 :: b24 :: fp sl, b ∉ F := fun b hb hh => by
    obtain ⟨q1, q2, q3⟩ := a.lt b hb
    rcases hF b hh with q | q | q
    · exact q2 q
    · omega
    · exact q3 q
  exact ⟨a.f1.ch c (nF _ (by simp)), a.f3.ch c (nF _ (by simp)), a.f5.ch c (nF _ (by simp)), a.f18.ch c (nF _ (by simp)), a.f20.ch c (nF _ (by simp)), a.f24.ch c (nF _ (by simp)), a.own.ch c fun b hb => nF b (by simp [hb]),
    (a.kp.ch (F := [])).trans c (fun b hb => .inr (by
      rcases hF b hb with q | q | q
      · omega
      · omega
      · exact (lo.2.2.1 b q).1)) |>.keep (by simp), a.lt, a.lo⟩
theorem GC.keep {W H H' : Hp} {g w h : Int} {s t : Sl} {A B : Nat} {sl : Sl} {gs : List Sl} {b1 b3 b5 b18 b20 b24 b85 top : Nat} (a : GC W H g w h s t A B sl gs b1 b3 b5 b18 b20 b24 b85 top) (c : Keep H H') : GC W H' g w h s t A B sl gs b1 b3 b5 b18 b20 b24 b85 top := a.ch (c.ch (F := [])) (by simp)
set_option maxHeartbeats 4000000 in
theorem GeomCovers_row (g w h : Int) (s t : Sl) (W : World) (hg : 0 ≤ g ∧ g ≤ 255) (hw : -9223372036854775808 ≤ w ∧ w ≤ 9223372036854775807) (hh : -9223372036854775808 ≤ h ∧ h ≤ 9223372036854775807)
    (hs : SlH W.heap none 4 4 (X23 none W.heap) s) (ht : SlH W.heap none 16 3 (X52 none W.heap) t) :
    mosaiclaw14_GeomCovers.s g w h s t W.heap (fun r H' => r = true ∧ Keep W.heap H') := by
  obtain ⟨cs, v0, hok, hl4⟩ := comps_view hs
  obtain ⟨ps, u0, hpk, hm4⟩ := parts_view ht
  have n0 := v0.n
  have n1 := u0.n
  unfold mosaiclaw14_GeomCovers.s
  intro b1 H2 c2 g1 g1' b3 H4 c4 g3 g3' b5 H6 c6 g5 g5'
  have k6 : Keep W.heap H6 := ((c2.keep (by simp)).trans (c4.keep (by simp))).trans (c6.keep (by simp))
  have y2 := c2.size
  have y4 := c4.size
  have y6 := c6.size
  refine alive_ok14 fun H8 k8 => ⟨Pv.keep k8 (by simp; omega), ?_⟩
  have y8 := k8.size
  have k8' := k6.trans k8
  refine Join.intro (fun b H' => Keep W.heap H' ∧ Keep H8 H' ∧ (b = false → Prt w h cs ps = 0)) ?_ fun J hJ => ?_
  rotate_left
  · refine gParts_ok (v0.keep k8') hok (by omega) (u0.keep k8') hpk fun H276 k276 => ⟨Pv.keep k276 (by simp; omega), ?_⟩
    by_cases hP : Prt w h cs ps = 0
    · have fr := (prt_fr hP).2.1
      exact ite_f (bnei hP) (many_ok (v0.keep (k8'.trans k276)) hok fr.n.2 fun b H279 k279 => ⟨Pv.keep k279 (by have := k276.size; simp; omega), hJ _ _ ⟨k8'.trans (k276.trans k279), k276.trans k279, fun _ => hP⟩⟩)
    · exact ite_t (bnet hP) (hJ _ _ ⟨k8'.trans k276, k276, by simp⟩)
  rintro b H12 ⟨k12, k12', hb⟩
  cases b with
  | true => exact ite_t rfl fun H13 c13 => ⟨rfl, (k12.ch (F := [])).trans c13 (by simp; omega) |>.keep (by simp)⟩
  | false =>
  have hP := hb rfl
  obtain ⟨hC, fr, hL, hBd, hU⟩ := prt_fr hP
  have y12 := k12'.size
  obtain ⟨up1, up2⟩ := uni_pos hP
  obtain ⟨⟨ux0, ux1⟩, uy0, uy1⟩ := uni_le (w := w) (h := h) (cs := cs) (ps := ps)
  obtain ⟨el1, el10⟩ := each_le hP
  obtain ⟨A, hA⟩ : ∃ A : Nat, (Uni w h cs ps).1 = A := ⟨(Uni w h cs ps).1.toNat, by omega⟩
  obtain ⟨B, hB⟩ : ∃ B : Nat, (Uni w h cs ps).2 = B := ⟨(Uni w h cs ps).2.toNat, by omega⟩
  have CV := cov hP hA hB
  have hAB1 := Nat.mul_le_mul (show A ≤ 262140 by omega) (show B ≤ 262140 by omega)
  have hAB2 := Nat.mul_le_mul (show 16 * (A + 1) ≤ 16 * 262141 by omega) (show B + 1 ≤ 262141 by omega)
  have hAB3 := Nat.mul_pos (show 0 < A by omega) (show 0 < B by omega)
  have hABi : (Uni w h cs ps).1 * (Uni w h cs ps).2 = ((A * B : Nat) : Int) := by rw [hA, hB]; push_cast; rfl
  refine ite_f rfl (gUnits_ok (v0.keep k12) hok (by omega) (u0.keep k12) hpk fun H16 k16 => ⟨Pv.keep k16 (by simp; omega), ?_⟩)
  have y16 := k16.size
  rw [hA, hB]
  intro b18 H19 c19 g18 g18' b20 H23 c23 g20 g20' b24 H25 c25 g24 g24' q24
  have y19 := c19.size
  have y23 := c23.size
  have y25 := c25.size
  have k19 : Keep H16 H19 := c19.keep (by simp)
  have k25 : Keep H16 H25 := ((k19.ch (F := [])).trans c23 (by simp; omega) |>.keep (by simp)).trans (c25.keep (by simp))
  have kA := (k12.trans k16).trans k25
  obtain ⟨N, hN⟩ : ∃ N : Nat, 16 * (A + 1) * (B + 1) = N := ⟨_, rfl⟩
  have eN : IntKind.wrap .i64 ((IntKind.wrap .i64 ((16 : Int) * (IntKind.wrap .i64 ((A : Int) + 1)))) * (IntKind.wrap .i64 ((B : Int) + 1))) = (N : Int) := by
    rw [w64 (x := (A : Int) + 1) (by omega), w64 (x := (B : Int) + 1) (by omega), w64 (x := 16 * ((A : Int) + 1)) (by omega)]
    have : 16 * ((A : Int) + 1) * ((B : Int) + 1) = (N : Int) := by rw [← hN]; push_cast; rfl
    rw [this, w64 (by omega)]
  rw [eN]
  have hpv5 : ∀ {X Y : Hp} {F : List Nat}, Ch F X Y → (∀ b ∈ F, H23.size ≤ b) → H23.size ≤ X.size → Pv [b1, b3, b5, b18, b20] X Y := fun {X Y F} c hF hX => Pv.ch c fun b hb => ⟨by simp at hb; omega, fun hh => by have := hF b hh; simp at hb; omega⟩
  -- the lists are made
  refine Fix.intro (fun (x : Int × Int) H' => ∃ (i : Nat) (sl : Sl) (gs : List Sl), x = (uSum cs (ps.take i), (i : Int)) ∧ i ≤ ps.length ∧ gs.length = i ∧ Own H' 56 1 sl (gs.flatMap cL) ∧ SN H' A N [] gs ∧ Bk H' b24 55 [.slice sl.a sl.n sl.c] ∧ (∀ b ∈ fp sl, H25.size ≤ b ∧ b ∉ gs.flatMap fp) ∧ (∀ b ∈ gs.flatMap fp, H25.size ≤ b ∧ b < H'.size) ∧ Ch [b24] H25 H') (fun x _ => ps.length - x.2.toNat)
    ⟨0, ⟨none, 0, 0⟩, [], by simp [uSum], by omega, rfl, Own.nil _ _ _, ⟨by simp, by simp⟩, q24, by simp [fp], by simp, Ch.refl _ _⟩ ?_
  rintro _ H29 ⟨i, sl, gs, rfl, hi, hgl, osl, sn, b24', hsl, hgs, c29⟩ rec hrec
  simp only
  have y29 := c29.size
  have k29 : Keep W.heap H29 := (kA.ch (F := [])).trans c29 (by simp; omega) |>.keep (by simp)
  by_cases hil : i < ps.length
  · obtain ⟨p, hp⟩ : ∃ p, ps[i]? = some p := ⟨_, get_some hil⟩
    obtain ⟨pc0, pc1⟩ := part_in hBd hp
    obtain ⟨c, hc⟩ : ∃ c, cs[p.comp.toNat]? = some c := ⟨_, get_some (by omega)⟩
    obtain ⟨⟨ch1, ch4⟩, cv1, cv4⟩ := fr.fac c (List.mem_of_getElem? hc)
    obtain ⟨m1, m16⟩ := mul16 ⟨ch1, ch4⟩ ⟨cv1, cv4⟩
    obtain ⟨us0, us1⟩ := parts_len hP 0 0 i hi
    obtain ⟨b, o, ha, hAp⟩ := (u0.keep k29).get hp
    obtain ⟨bc, oc, hac, hAc⟩ := (v0.keep k29).get hc
    refine ite_t (dect (by omega)) ⟨by omega, by omega, _, ha, ?_⟩
    rw [Int.toNat_natCast]
    refine ldI_of hAp (j := 0) rfl ⟨pc0, by omega, _, hac, _, _, _, _, hAc, ?_⟩
    intro b50 H51 c51 g50 g50'
    have k51 : Keep H29 H51 := c51.keep (by simp)
    obtain ⟨bd, od, had, hAd⟩ := (u0.keep (k29.trans k51)).get hp
    obtain ⟨be, oe, hae, hAe⟩ := (v0.keep (k29.trans k51)).get hc
    rw [ha] at had
    rw [hac] at hae
    obtain ⟨rfl, rfl⟩ : b = bd ∧ o = od := by injection had with q; injection q with q1 q2; exact ⟨q1, q2⟩
    obtain ⟨rfl, rfl⟩ : bc = be ∧ oc = oe := by injection hae with q; injection q with q1 q2; exact ⟨q1, q2⟩
    refine ⟨hAe, hAd.2 0 _ rfl, fun H54 c54 => ?_⟩
    have y51 := k51.size
    have y54 := c54.size
    have k54 : Keep H29 H54 := (k51.ch (F := [])).trans c54 (by simp; omega) |>.keep (by simp)
    have ul := uSum_next (cs := cs) hp
    rw [hv_at hc] at ul
    have us2 := (parts_len hP 0 0 (i + 1) (by omega)).2
    have us3 := (parts_len hP 0 0 (i + 1) (by omega)).1
    have usb : uSum cs (ps.take i) ≤ 16 * i := by
      have : ∀ k, k ≤ ps.length → uSum cs (ps.take k) ≤ 16 * k := by
        intro k
        induction k with
        | zero => intro _; simp [uSum]
        | succ k ih =>
          intro hk
          obtain ⟨p', hp'⟩ : ∃ p, ps[k]? = some p := ⟨_, get_some (by omega)⟩
          obtain ⟨pc0', pc1'⟩ := part_in hBd hp'
          obtain ⟨c', hc'⟩ : ∃ c, cs[p'.comp.toNat]? = some c := ⟨_, get_some (by omega)⟩
          obtain ⟨⟨ch1', ch4'⟩, cv1', cv4'⟩ := fr.fac c' (List.mem_of_getElem? hc')
          have := mul16 ⟨ch1', ch4'⟩ ⟨cv1', cv4'⟩
          have := ih (by omega)
          rw [uSum_next hp', hv_at hc']
          omega
      exact this i hi
    rw [wu (x := c.h) (by omega), wu (x := c.v) (by omega), w64 (x := c.h * c.v) (by omega), ← ul, w64 (x := uSum cs (ps.take (i + 1))) (by omega)]
    refine Lt.of (ldL_i (b24'.keep k54) rfl ⟨by omega, by omega, by omega, ?_⟩)
    rw [Int.toNat_natCast, Nat.mul_one]
    refine nwA_iv fun H67 b67 k67 z67 => ⟨hpv5 (k67.ch (F := [])) (by simp) (by omega), by rw [((b24'.keep k54).keep k67).cell]; rfl, ?_⟩
    refine nw_i fun H71 b71 k71 z71 => ⟨hpv5 (k71.ch (F := [])) (by simp) (by omega), by rw [(((b24'.keep k54).keep k67).keep k71).cell]; rfl, ?_⟩
    have k71' := (k54.trans k67).trans k71
    have y71 := k71'.size
    refine apS_list (f := cL) (ys := [(⟨some ⟨H54.size, 0, none⟩, N, N⟩ : Sl)]) (osl.kp k71') cL_len cL_ones rfl (by omega) rfl (by rw [hgl]; simp; omega) (by omega) fun l77 H78 o78 c78 f78 => ⟨hpv5 c78 (fun b hb => by have := hsl b hb; omega) (by omega), ?_⟩
    have y78 := c78.size
    have b24q := (b24'.keep k71').ch c78 (fun hh => by have := (hsl _ hh).1; omega)
    refine st_i b24q (by simp) fun H80 b80 s80 => ⟨hpv5 s80.ch (by simp; omega) (by omega), ?_⟩
    rw [show (i : Int) + 1 = ((i + 1 : Nat) : Int) from by omega, w64 (by omega)]
    have hsl2 := osl.fp_lt
    have kk : Ch (b24 :: fp sl) H29 H80 := (((k71'.ch (F := b24 :: fp sl)).trans c78 (fun b hb => .inl (by simp [hb]))).trans s80.ch (by simp))
    refine hrec _ _ ⟨i + 1, l77, gs ++ [⟨some ⟨H54.size, 0, none⟩, N, N⟩], rfl, by omega, by simp [hgl], ?_, ⟨fun j s' hj => ?_, fun j j' s1 s2 hjj h1 h2 b hb hh => ?_⟩, b80, fun b hb => ⟨?_, fun hh => ?_⟩, fun b hb => ?_, ?_⟩ (by simp; omega)
    · exact o78.ch s80.ch (fun b hb => by
        rcases f78 b hb with q | q
        · have := (hsl b q).1; simp; omega
        · simp; omega)
    · by_cases hjl : j < gs.length
      · rw [List.getElem?_append_left hjl] at hj
        have := sn.own j s' hj
        refine this.ch kk fun b hb hh => ?_
        have hm := mem_all hj b hb
        rcases List.mem_cons.1 hh with rfl | hh
        · have := (hgs _ hm).1; omega
        · exact (hsl b hh).2 hm
      · rw [List.getElem?_append_right (by omega)] at hj
        have hj0 := (List.getElem?_eq_some_iff.1 hj).1
        simp at hj0
        rw [show j - gs.length = 0 from by omega] at hj
        simp at hj
        subst hj
        refine .inr ⟨H54.size, [], rfl, ?_, by rw [fm_len cIv_len, sw_len, Nat.mul_one], by simp, Nat.le_refl _⟩
        have e : (sw A [] j N).flatMap cIv ++ [] = (madeCells z3.cells N).toList := by
          rw [sw_nil, List.append_nil]
          refine List.ext_getElem? fun k => ?_
          by_cases hk : k < N
          · rw [show (madeCells z3.cells N).toList[k]? = some (.int .i64 0) from by
              simp [madeCells, hk, z3, Value.cells, Nat.mod_one]]
            have := fm_at (f := cIv) cIv_len (List.replicate N 0) k 0 (by rw [List.getElem?_replicate, if_pos hk]) 0 _ rfl
            rwa [Nat.mul_one, Nat.add_zero] at this
          · rw [List.getElem?_eq_none (by rw [fm_len cIv_len]; simp; omega), List.getElem?_eq_none (by simp [madeCells]; omega)]
        rw [e]
        refine ((b67.keep k71).ch c78 (fun hh => ?_)).same s80 (by omega)
        have := hsl2 _ hh
        have := k54.size
        omega
    · have hnew : ∀ {k : Nat} {q : Sl}, (gs ++ [(⟨some ⟨H54.size, 0, none⟩, N, N⟩ : Sl)])[k]? = some q → (k < gs.length ∧ gs[k]? = some q) ∨ (k = gs.length ∧ q = ⟨some ⟨H54.size, 0, none⟩, N, N⟩) := fun {k q} hq => by
        by_cases hkl : k < gs.length
        · rw [List.getElem?_append_left hkl] at hq
          exact .inl ⟨hkl, hq⟩
        · rw [List.getElem?_append_right (by omega)] at hq
          have hj0 := (List.getElem?_eq_some_iff.1 hq).1
          simp at hj0
          rw [show k - gs.length = 0 from by omega] at hq
          simp at hq
          exact .inr ⟨by omega, hq.symm⟩
      have hk54 := k54.size
      rcases hnew h1 with ⟨j1, h1⟩ | ⟨rfl, rfl⟩ <;> rcases hnew h2 with ⟨j2, h2⟩ | ⟨rfl, rfl⟩
      · exact sn.dj j j' s1 s2 hjj h1 h2 b hb hh
      · have := (hgs b (mem_all h1 b hb)).2
        simp [fp] at hh
        omega
      · have := (hgs b (mem_all h2 b hh)).2
        simp [fp] at hb
        omega
      · exact hjj rfl
    · rcases f78 b hb with q | q
      · exact (hsl b q).1
      · omega
    · rw [List.flatMap_append] at hh
      have hk54 := k54.size
      rcases List.mem_append.1 hh with hh | hh
      · rcases f78 b hb with q | q
        · exact (hsl b q).2 hh
        · have := (hgs b hh).2; omega
      · simp [fp] at hh
        rcases f78 b hb with q | q
        · have := hsl2 b q; omega
        · omega
    · rw [List.flatMap_append] at hb
      have hk54 := k54.size
      have := s80.size
      rcases List.mem_append.1 hb with hb | hb
      · have := hgs b hb; omega
      · simp [fp] at hb
        omega
    · refine c29.trans kk fun b hb => ?_
      rcases List.mem_cons.1 hb with rfl | hb
      · exact .inl (by simp)
      · have := (hsl b hb).1
        exact .inr this
  refine ite_f (decf (by omega)) ?_
  obtain rfl : i = ps.length := by omega
  rw [List.take_length]
  clear hrec rec hil
  refine Join.intro (fun (x : Int) H' => x = (eachL cs ps : Int) ∧ H29 = H') ?_ fun J hJ => ?_
  rotate_left
  · have us := (parts_len hP 0 0 ps.length (Nat.le_refl _)).1
    rw [List.take_length] at us
    unfold eachL at hJ
    by_cases h1 : ps.length = 1
    · refine ite_t (beqi (by omega)) (hJ _ _ ⟨?_, rfl⟩)
      rw [if_pos h1]; rfl
    · refine ite_f (beqf (by omega)) (hJ _ _ ⟨?_, rfl⟩)
      rw [if_neg h1]; omega
  rintro _ _ ⟨rfl, rfl⟩
  intro b85 H87 c87 g85 g85'
  have k87 : Keep H29 H87 := c87.keep (by simp)
  have y87 := k87.size
  have kB := k29.trans k87
  rw [show (A : Int) * (B : Int) = ((A * B : Nat) : Int) from by push_cast; rfl, w64 (x := ((A * B : Nat) : Int)) (by omega)]
  obtain ⟨wf, we⟩ := wEnd_at (f := 0) (u := ((A * B : Nat) : Int)) (T := ((A * B : Nat) : Int)) (by omega) (by omega) (by omega)
  refine Walk_ok (v0.keep kB) hok (by omega) (u0.keep kB) hpk (by omega) (by omega) (by omega) fun p5 p40 p1 p3 p26 l8 m8 H89 wb k89 lo => ?_
  rw [hABi, wf, we] at wb
  have y89 := k89.size
  refine ⟨Pv.keep k89 (by simp; omega), fun q1 q3 q5 q18 q20 q85 => ?_⟩
  have kC := k87.trans k89
  have hslt := osl.fp_lt
  have gc89 : GC W.heap H89 g w h s t A B sl gs b1 b3 b5 b18 b20 b24 b85 H89.size := ⟨q1, q3, q5, q18, q20, b24'.keep kC, osl.kp kC, kB.trans k89, fun b hb => by
    have hgg : ∀ b', b' < H25.size → b' ∉ gs.flatMap fp := fun b' hb' hh => by have := (hgs b' hh).1; omega
    rcases List.mem_cons.1 hb with rfl | hb
    · exact ⟨by omega, by omega, hgg _ (by omega)⟩
    rcases List.mem_cons.1 hb with rfl | hb
    · exact ⟨by omega, by omega, hgg _ (by omega)⟩
    rcases List.mem_cons.1 hb with rfl | hb
    · exact ⟨by omega, by omega, hgg _ (by omega)⟩
    rcases List.mem_cons.1 hb with rfl | hb
    · exact ⟨by omega, by omega, hgg _ (by omega)⟩
    rcases List.mem_cons.1 hb with rfl | hb
    · exact ⟨by omega, by omega, hgg _ (by omega)⟩
    rcases List.mem_cons.1 hb with rfl | hb
    · exact ⟨by omega, by omega, hgg _ (by omega)⟩
    have := hslt b hb
    exact ⟨by omega, by omega, (hsl b hb).2⟩, by have := kB.size; omega, by have := kB.size; omega, fun b hb => by have := hgs b hb; have := kA.size; omega, by omega⟩
  have sn89 := sn.keep kC
  refine Rg_i fun rr H94 hrr k94 z94 hD hl => ?_
  have y94 := k94.size
  have sq := walk_seq (wb.keep k94) hok (by omega) (by rw [hABi]; omega) (.func (.yield (H89.size + 1)) #[] #[])
  rw [show (0 + min ((A * B : Nat) : Int) (((A * B : Nat) : Int) - 0)).toNat - (0 : Int).toNat = A * B from by omega, show (0 : Int).toNat = 0 from rfl] at sq
  have hXn := walk_len hP 0 (A * B)
  generalize hXS : walkL w h cs ps 0 (A * B) = XS at sq CV hXn
  have hXb : XS.length ≤ 687194767360 := by
    rw [hXn]
    have := Nat.mul_le_mul (show A * B ≤ 68719476736 by omega) el10
    omega
  have hglt : ∀ b ∈ gs.flatMap fp, b < H89.size := fun b hb => by have := hgs b hb; omega
  refine sq _ _ (fun i G H' => G = (H89.size + 1) :: b85 :: gs.flatMap fp ∧ GC W.heap H' g w h s t A B sl gs b1 b3 b5 b18 b20 b24 b85 H89.size ∧ SN H' A N (XS.take i) gs ∧ Bk H' b85 3 [.int .i64 (i : Int)] ∧ Dfr [H89.size] H' ∧ Lp H' (H89.size + 1) rr) (fun _ _ => False) ((H89.size + 1) :: b85 :: gs.flatMap fp) ?_ ?_ ?_ ?_ ?_ ?_ ?_ ?_
  · intro b hb hh
    have h1 := lo b hh
    have h2 := wb.lts b hh
    rcases List.mem_cons.1 hb with rfl | hb
    · omega
    rcases List.mem_cons.1 hb with rfl | hb
    · omega
    have := hgs b hb; omega
  · exact ⟨rfl, gc89.keep k94, sn89.keep k94, q85.keep k94, ⟨hD, by simp, trivial⟩, hl⟩
  · rintro i G P R F ⟨rfl, a1, a2, a3, a4, a5⟩ kk hF
    have nF : ∀ {y}, y < H94.size → y ∉ F := fun {y} hy hh => by have := (hF y hh).1; omega
    exact ⟨rfl, a1.ch kk (fun b hb => .inr (.inl (by have := (hF b hb).1; omega))), a2.ch kk (fun b hb => nF (by have := hglt b hb; omega)), a3.ch kk (nF (by omega)), Dfr.ch kk a4 (fun D hD => by rw [List.mem_singleton.1 hD]; exact nF (by omega)), a5.ch kk (nF (by omega))⟩
  · exact fun _ _ _ _ hz => hz.elim
  · rintro i G P ⟨rfl, a1, a2, a3, a4, a5⟩ b hb
    have := a3.lt
    have := a5.lt
    rcases List.mem_cons.1 hb with rfl | hb
    · omega
    rcases List.mem_cons.1 hb with rfl | hb
    · omega
    have := hglt b hb; omega
  · rintro j G x H97 K hx ⟨rfl, a1, a2, a3, a4, a5⟩ hT hZ
    have hjl := (List.getElem?_eq_some_iff.1 hx).1
    obtain ⟨i, p, X, Y, hp, hX, hY, e1, e2, e3, e4, e5⟩ := CV.inn x (List.mem_of_getElem? hx)
    obtain ⟨x1, x2, x3, x4, x5⟩ := x
    simp only at e1 e2 e3 e4 e5
    subst e1 e2 e3 e4
    obtain ⟨pc0, pc1⟩ := part_in hBd hp
    have hil := (List.getElem?_eq_some_iff.1 hp).1
    refine ⟨a5, ?_⟩
    intro b100 H102 c102 g100 g100'
    have k102 : Keep H97 H102 := c102.keep (by simp)
    have y102 := k102.size
    have l102 := a5.ch c102 (by simp)
    have zl := a5.lt
    have z85 := a3.lt
    refine ⟨l102, Up_s l102 fun H103 s103 l103 => ⟨Pv.ch s103.ch (by simp; omega), ?_⟩⟩
    have y103 := s103.size
    have gc103 := (a1.keep k102).ch s103.ch (by simp)
    have sn103 := (a2.keep k102).ch s103.ch (fun b hb hh => by have := hglt b hb; simp at hh; omega)
    have b103 := (a3.keep k102).same s103 (by omega)
    refine Join.intro (fun b H' => b = false ∧ H103 = H') ?_ fun J hJ => ?_
    rotate_left
    · obtain ⟨ba, bo, ha, hAp⟩ := (u0.keep gc103.kp).get hp
      refine ite_f (decf (by omega)) (ldL_i gc103.f3 rfl (ite_f (decf (by omega)) (ldL_i gc103.f3 rfl ⟨by omega, by omega, _, ha, ?_⟩)))
      rw [Int.toNat_natCast]
      refine ldI_of hAp (j := 0) rfl (ite_f (bnei rfl) (ite_f (decf (by show ¬ (X : Int) < 0; omega)) (ite_f (decf (by show ¬ (Y : Int) < 0; omega)) (ldI_i gc103.f18 rfl ?_))))
      rw [w64 (x := (A : Int) + 1) (by omega), w64 (x := 4 * ((A : Int) + 1)) (by omega)]
      refine ite_f (decf (by show ¬ 4 * ((A : Int) + 1) ≤ (X : Int); omega)) (ldI_i gc103.f20 rfl ?_)
      rw [w64 (x := (B : Int) + 1) (by omega), w64 (x := 4 * ((B : Int) + 1)) (by omega)]
      exact hJ _ _ ⟨decf (by show ¬ 4 * ((B : Int) + 1) ≤ (Y : Int); omega), rfl⟩
    rintro _ _ ⟨rfl, rfl⟩
    refine ite_f rfl ⟨_, _, _, _, ldA_full gc103.f1, gBlocks_ok (v0.keep gc103.kp) hok (by omega) fun H115 k115 => ⟨Pv.keep k115 (by simp; omega), ?_⟩⟩
    have y115 := k115.size
    have gc115 := gc103.keep k115
    have sn115 := sn103.keep k115
    have b115 := b103.keep k115
    have l115 := l103.ch (k115.ch (F := [])) (by simp)
    have hatl := at_lt hX hY
    have hat := at_in (Y := Y) hX
    rw [hN] at hatl
    refine ldI_i gc115.f18 rfl ?_
    have eat : IntKind.wrap .i64 ((IntKind.wrap .i64 ((IntKind.wrap .i64 ((Y : Int) * 4)) * (IntKind.wrap .i64 ((A : Int) + 1)))) + (X : Int)) = ((Y * (4 * (A + 1)) + X : Nat) : Int) := by
      rw [w64 (x := (Y : Int) * 4) (by omega), w64 (x := (A : Int) + 1) (by omega)]
      have : 0 ≤ (Y : Int) * 4 * ((A : Int) + 1) := Int.mul_nonneg (by omega) (by omega)
      rw [w64 (x := (Y : Int) * 4 * ((A : Int) + 1)) (by omega), hat, w64 (by omega)]
    rw [eat]
    refine Lt.of ?_
    generalize hk : Y * (4 * (A + 1)) + X = k at hatl hat
    have hatx : atX A ((i : Int), p.comp, (X : Int), (Y : Int), x5) = (k : Int) := hat
    obtain ⟨sg, hsg⟩ : ∃ sg, gs[i]? = some sg := ⟨_, List.getElem?_eq_getElem (by omega)⟩
    have vs := gc115.own.view cL_len (by omega)
    have vsn := vs.n
    rw [hgl] at vsn
    obtain ⟨bs, os, has, hAs⟩ := vs.get hsg
    have og := sn115.own i sg hsg
    have vg := og.view cIv_len (by omega)
    have vgn := vg.n
    rw [sw_len] at vgn
    have hfresh : ¬ ∃ y ∈ XS.take j, y.1 = (i : Int) ∧ atX A y = (k : Int) := by
      rintro ⟨y, hy, q1, q2⟩
      obtain ⟨m, hm⟩ := List.mem_iff_getElem?.1 hy
      have hml := (List.getElem?_eq_some_iff.1 hm).1
      rw [List.length_take] at hml
      rw [List.getElem?_take, if_pos (by omega)] at hm
      obtain ⟨i', p', X', Y', hp', hX', hY', f1, f2, f3, f4, f5⟩ := CV.inn y (List.mem_of_getElem? hm)
      unfold atX at q2
      rw [f3, f4, at_in hX'] at q2
      have := at_one hX' hX (show Y' * (4 * (A + 1)) + X' = Y * (4 * (A + 1)) + X by omega)
      have := CV.one m j y _ hm hx (by rw [q1]) (by rw [f3, this.1]) (by rw [f4, this.2])
      omega
    have hget := sw_get (A := A) (L := XS.take j) (i := i) hatl
    rw [if_neg hfresh] at hget
    obtain ⟨bg, og', hag, hAg⟩ := vg.get hget
    have hld : ∀ {K : Int → Prop}, K 0 → ldL H115 (⟨b24, 0, none⟩ : Addr) (fun x141 => 0 ≤ (i : Int) ∧ (i : Int) < (x141.n : Int) ∧ someA x141.a (fun p145 => ldL H115 (p145.add (Int.toNat (i : Int) * 1)) (fun x147 => 0 ≤ (k : Int) ∧ (k : Int) < (x147.n : Int) ∧ someA x147.a (fun p151 => ldI .i64 H115 (p151.add (Int.toNat (k : Int) * 1)) K)))) := fun {K} hK => by
      refine ldL_i gc115.f24 rfl ⟨by omega, by omega, _, has, ?_⟩
      rw [Int.toNat_natCast]
      refine ldL_of0 hAs ⟨by omega, by omega, _, hag, ?_⟩
      rw [Int.toNat_natCast]
      exact ldI_of0 hAg rfl hK
    refine Join.intro (fun b H' => b = false ∧ H115 = H') ?_ fun J hJ => ?_
    rotate_left
    · by_cases r1 : (X : Int) < (Blo w h cs p.comp).1
      · have hr5 : x5 = decide ((Y : Int) < (Blo w h cs p.comp).2) := by
          by_cases r2 : (Y : Int) < (Blo w h cs p.comp).2
          · rw [dect r2]; exact e5.2 ⟨r1, r2⟩
          · rw [decf r2]
            cases x5 with
            | false => rfl
            | true => exact absurd (e5.1 rfl).2 r2
        refine ite_t (dect r1) (ite_f (by rw [← hr5, beq_self_eq_true]; rfl) (hld (hJ _ _ ⟨bnei rfl, rfl⟩)))
      · have hr5 : x5 = false := by
          cases x5 with
          | false => rfl
          | true => exact absurd (e5.1 rfl).1 r1
        refine ite_f (decf r1) (ite_f (by rw [hr5]; rfl) (hld (hJ _ _ ⟨bnei rfl, rfl⟩)))
    rintro _ _ ⟨rfl, rfl⟩
    have hmg : ∀ b ∈ fp sg, b ∈ gs.flatMap fp := mem_all hsg
    have h85g : b85 ∉ fp sg := fun hh => (gc89.lo.2.2.1 _ (hmg _ hh)).2.2 rfl
    refine ite_f rfl (ldL_i gc115.f24 rfl ⟨by omega, by omega, _, has, ?_⟩)
    rw [Int.toNat_natCast]
    refine ldL_of0 hAs ⟨by omega, by omega, ?_⟩
    have hset := og.set1 (i := k) (v := 1) (by rw [sw_len]; exact hatl) (K := fun H137 => ldI .i64 H137 (⟨b85, 0, none⟩ : Addr) (fun x138 => st H137 (⟨b85, 0, none⟩ : Addr) (.int .i64 (IntKind.wrap .i64 (x138 + 1))) (fun H140 => Lp H140 (H89.size + 1) (bsy rr) ∧ K true (putL H140 (H89.size + 1) rr)))) fun H137 o137 c137 z137 => ?_
    · rw [Int.toNat_natCast]; exact hset
    have b137 := b115.ch c137 h85g
    refine ldI_i b137 rfl (st_i b137 (by simp) fun H140 b140 s140 => ?_)
    rw [show (j : Int) + 1 = ((j + 1 : Nat) : Int) from by omega, w64 (by omega), List.set_cons_zero] at b140
    have l140 := (l115.ch c137 (fun hh => by have := hglt _ (hmg _ hh); omega)).ch s140.ch (by simp; omega)
    have c9 : Ch ((H89.size + 1) :: b85 :: gs.flatMap fp) H97 (putL H140 (H89.size + 1) rr) := (((((k102.ch (F := (H89.size + 1) :: b85 :: gs.flatMap fp)).trans s103.ch (by simp)).trans (k115.ch (F := [])) (by simp)).trans c137 (fun b hb => .inl (by simp only [List.mem_cons]; exact .inr (.inr (hmg b hb))))).trans s140.ch (by simp)).trans putL_same.ch (by simp)
    refine ⟨l140, hT _ _ ⟨rfl, a1.ch c9 (fun b hb => ?_), ⟨fun i' s' hs' => ?_, a2.dj⟩, b140.same putL_same (by omega), Dfr.ch c9 a4 (fun D hD hh => ?_), putL_lp l140⟩ c9 fun b hb => .inl hb⟩
    · rcases List.mem_cons.1 hb with rfl | hb
      · exact .inr (.inl (by omega))
      rcases List.mem_cons.1 hb with rfl | hb
      · exact .inl rfl
      · exact .inr (.inr hb)
    · have hm' : ∀ b ∈ fp s', b ∈ gs.flatMap fp := mem_all hs'
      have tl : ∀ {cs' : List Value}, Own H137 3 1 s' cs' → Own (putL H140 (H89.size + 1) rr) 3 1 s' cs' := fun {cs'} o' => (o'.ch s140.ch (fun b hb hh => by simp at hh; subst hh; exact (gc89.lo.2.2.1 _ (hm' _ hb)).2.2 rfl)).ch putL_same.ch (fun b hb hh => by simp at hh; have := hglt _ (hm' _ hb); omega)
      rw [take_next hx]
      by_cases hii : i' = i
      · subst hii
        rw [hsg] at hs'
        obtain rfl : sg = s' := Option.some.inj hs'
        rw [sw_same rfl hatx]
        exact tl o137
      · rw [sw_other (by simp only; omega)]
        refine tl ((sn115.own i' s' hs').ch c137 fun b hb => a2.dj i' i s' sg hii hs' hsg b hb)
    · simp at hD
      subst hD
      rcases List.mem_cons.1 hh with q | hh
      · omega
      rcases List.mem_cons.1 hh with q | hh
      · omega
      · have := hglt _ hh; omega
  · rintro G H98 ⟨rfl, a1, a2, a3, a4, a5⟩
    rw [List.take_length] at a2
    refine .inl ⟨a5, Up_s a5 fun H193 s193 _ => ?_⟩
    have zl := a5.lt
    have z85 := a3.lt
    have gcE := a1.ch s193.ch (by simp)
    have snE := a2.ch s193.ch (fun b hb hh => by have := hglt b hb; simp at hh; omega)
    have b85E := a3.same s193 (by omega)
    have dE := Dfr.ch s193.ch a4 (by simp)
    have gl5 := gcE.lt b5 (by simp)
    -- what is told at the end
    have fin : ∀ {H' : Hp}, GC W.heap H' g w h s t A B sl gs b1 b3 b5 b18 b20 b24 b85 H89.size → Dfr [H89.size] H' → st H' (⟨b5, 0, none⟩ : Addr) (.bool true) (fun H261 => tkD (H89.size :: []) H261 (fun H262 => ldB H262 (⟨b5, 0, none⟩ : Addr) (fun x264 => x264 = true ∧ Keep W.heap H262))) := fun {H'} gq dq => by
      refine st_i gq.f5 (by simp) fun H261 b261 s261 => tkD_ok (Dfr.ch s261.ch dq (by simp; omega)) fun H262 c262 z262 => ldB_i (b261.ch c262 (by simp; omega)) rfl ⟨rfl, ?_⟩
      refine ((gq.kp.same s261 (by omega)).ch (F := [])).trans c262 (fun b hb => .inr ?_) |>.keep (by simp)
      have := gq.lo
      simp at hb; omega
    refine Join.intro (fun b H' => b = false ∧ H193 = H') ?_ fun J hJ => ?_
    rotate_left
    · refine ite_f rfl (ldI_i b85E rfl (ldI_i gcE.f18 rfl (ldI_i gcE.f20 rfl (hJ _ _ ⟨bnei ?_, rfl⟩))))
      have m1 : ((eachL cs ps : Nat) : Int) * (A : Int) = ((eachL cs ps * A : Nat) : Int) := by push_cast; rfl
      have b1 : eachL cs ps * A ≤ 10 * 262140 := Nat.mul_le_mul el10 (by omega)
      rw [m1, w64 (x := ((eachL cs ps * A : Nat) : Int)) (by omega)]
      have m2 : ((eachL cs ps * A : Nat) : Int) * (B : Int) = (XS.length : Int) := by
        rw [hXn]
        push_cast
        rw [Int.mul_assoc, Int.mul_comm]
      rw [m2, w64 (by omega)]
    rintro _ _ ⟨rfl, rfl⟩
    refine ite_f rfl (Fix.intro (fun (x : Int) H' => ∃ i : Nat, x = (i : Int) ∧ i ≤ ps.length ∧ Keep H193 H') (fun x _ => ps.length - x.toNat) ⟨0, rfl, by omega, Keep.refl _⟩ ?_)
    rintro _ H204 ⟨i, rfl, hi2, k204⟩ rec hrec
    have gc2 := gcE.keep k204
    refine ldL_i gc2.f3 rfl ?_
    by_cases hil : i < ps.length
    rotate_left
    · exact ite_f (decf (by omega)) (fin gc2 (dE.keep k204))
    obtain ⟨p, hp⟩ : ∃ p, ps[i]? = some p := ⟨_, get_some hil⟩
    obtain ⟨pc0, pc1⟩ := part_in hBd hp
    obtain ⟨wd1, wd2⟩ := CV.wide i p hp
    obtain ⟨ba, bo, ha, hAp⟩ := (u0.keep gc2.kp).get hp
    refine ite_t (dect (by omega)) ⟨_, _, _, _, ldA_full gc2.f1, ldL_i gc2.f3 rfl ⟨by omega, by omega, _, ha, ?_⟩⟩
    rw [Int.toNat_natCast]
    refine ldI_of hAp (j := 0) rfl (gBlocks_ok (v0.keep gc2.kp) hok (by omega) fun H224 k224 => ?_)
    obtain ⟨⟨bx0, bx1⟩, by0, by1⟩ := blo_le (w := w) (h := h) (cs := cs) (i := p.comp)
    obtain ⟨WD, hWD⟩ : ∃ n : Nat, (Blo w h cs p.comp).1 = n := ⟨(Blo w h cs p.comp).1.toNat, by omega⟩
    obtain ⟨HG, hHG⟩ : ∃ n : Nat, (Blo w h cs p.comp).2 = n := ⟨(Blo w h cs p.comp).2.toNat, by omega⟩
    have hcall := fun X Y => CV.all i p X Y hp
    rw [hWD] at wd1
    rw [hHG] at wd2
    simp only [hWD, hHG] at hcall
    rw [hWD, hHG]
    have mWH := Nat.mul_le_mul (show WD ≤ 262140 by omega) (show HG ≤ 262140 by omega)
    rw [show (WD : Int) * (HG : Int) = ((WD * HG : Nat) : Int) from by push_cast; rfl, w64 (x := ((WD * HG : Nat) : Int)) (by omega)]
    refine Fix.intro (fun (x : Int) H' => ∃ k : Nat, x = (k : Int) ∧ k ≤ WD * HG ∧ Keep H193 H') (fun x _ => WD * HG - x.toNat) ⟨0, rfl, by omega, k204.trans k224⟩ ?_
    rintro _ H228 ⟨k, rfl, hk, k228⟩ rec2 hrec2
    by_cases hkl : k < WD * HG
    rotate_left
    · refine ite_f (decf (by omega)) ?_
      rw [show (i : Int) + 1 = ((i + 1 : Nat) : Int) from by omega, w64 (by omega)]
      exact hrec _ _ ⟨i + 1, rfl, by omega, k228⟩ (by simp; omega)
    have gc3 := gcE.keep k228
    have sn3 := snE.keep k228
    have hW0 : 0 < WD := by
      rcases Nat.eq_zero_or_pos WD with q | q
      · subst q; omega
      · exact q
    have hX := Nat.mod_lt k hW0
    have hY : k / WD < HG := Nat.div_lt_of_lt_mul hkl
    have ed : Int.tdiv (k : Int) (WD : Int) = ((k / WD : Nat) : Int) := rfl
    have em : Int.tmod (k : Int) (WD : Int) = ((k % WD : Nat) : Int) := rfl
    generalize k / WD = qY at hY ed
    generalize k % WD = qX at hX em
    refine ite_t (dect (by omega)) (Join.intro (fun b H' => b = false ∧ Keep H193 H') ?_ fun J hJ => ?_)
    · rintro _ H233 ⟨rfl, k233⟩
      refine ite_f rfl ?_
      rw [show (k : Int) + 1 = ((k + 1 : Nat) : Int) from by omega, w64 (by omega)]
      exact hrec2 _ _ ⟨k + 1, rfl, by omega, k233⟩ (by simp; omega)
    obtain ⟨y, hy, y1, y2, y3⟩ := hcall (qX) (qY) (by omega) (by omega)
    have hXA : qX < 4 * A := by omega
    have hYB : qY < 4 * B := by omega
    have hatl := at_lt hXA hYB
    have hat := at_in (Y := qY) hXA
    rw [hN] at hatl
    refine ldI_i gc3.f18 rfl ?_
    rw [w64 (x := (A : Int) + 1) (by omega), w64 (x := 4 * ((A : Int) + 1)) (by omega)]
    refine ite_f (decf (by omega)) (ldI_i gc3.f20 rfl ?_)
    rw [w64 (x := (B : Int) + 1) (by omega), w64 (x := 4 * ((B : Int) + 1)) (by omega)]
    obtain ⟨sg, hsg⟩ : ∃ sg, gs[i]? = some sg := ⟨_, List.getElem?_eq_getElem (by omega)⟩
    have vs := gc3.own.view cL_len (by omega)
    have vsn := vs.n
    rw [hgl] at vsn
    obtain ⟨bs, os, has, hAs⟩ := vs.get hsg
    have vg := (sn3.own i sg hsg).view cIv_len (by omega)
    have vgn := vg.n
    rw [sw_len] at vgn
    refine ite_f (decf (by omega)) ⟨by omega, by omega, ldL_i gc3.f24 rfl ⟨by omega, by omega, _, has, ?_⟩⟩
    refine ldL_of0 hAs (ldI_i gc3.f18 rfl ?_)
    have eat : IntKind.wrap .i64 ((IntKind.wrap .i64 ((IntKind.wrap .i64 ((IntKind.wrap .i64 (Int.tdiv (k : Int) (WD : Int))) * 4)) * (IntKind.wrap .i64 ((A : Int) + 1)))) + (Int.tmod (k : Int) (WD : Int))) = ((qY * (4 * (A + 1)) + qX : Nat) : Int) := by
      rw [ed, em, w64 (x := ((qY : Nat) : Int)) (by omega), w64 (x := ((qY : Nat) : Int) * 4) (by omega), w64 (x := (A : Int) + 1) (by omega)]
      have : 0 ≤ ((qY : Nat) : Int) * 4 * ((A : Int) + 1) := Int.mul_nonneg (by omega) (by omega)
      rw [w64 (x := ((qY : Nat) : Int) * 4 * ((A : Int) + 1)) (by omega), hat, w64 (by omega)]
    rw [eat]
    have hget := sw_get (A := A) (L := XS) (i := i) hatl
    rw [if_pos ⟨y, hy, y1, by unfold atX; rw [y2, y3, hat]⟩] at hget
    obtain ⟨bg, og', hag, hAg⟩ := vg.get hget
    refine ⟨by omega, by omega, _, hag, ?_⟩
    rw [Int.toNat_natCast]
    exact ldI_of0 hAg rfl (hJ _ _ ⟨beqf (by omega), k228⟩)
  · exact fun _ _ hz => hz.elim
end Go.Proofs.Ytlonijlcddlhjaa.G
