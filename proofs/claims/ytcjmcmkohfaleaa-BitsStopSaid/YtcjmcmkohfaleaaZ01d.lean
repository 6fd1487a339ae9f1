/- Layer 1: BitsStop. -/
import Derived.Test.YtcjmcmkohfaleaaZ01c
import Derived.Test.YtcjmcmkohfaleaaKBitsStop
namespace Go.Proofs.Ytcjmcmkohfaleaa.G
open Go.RowKit
set_option linter.unusedVariables false
set_option linter.unusedSimpArgs false

/-- The bits' places are further on by s. -/
def sh (s : Nat) (c : Bool × Nat) : Bool × Nat := (c.1, s + c.2)
theorem remB_shift (s : Nat) : ∀ (xs : List Nat) (p b : Nat), remB (s + p) b xs = (remB p b xs).map (sh s)
  | [], p, b => rfl
  | x :: r, p, b => by
    rw [remB, remB, List.map_append, ← remB_shift s r, List.map_map, Nat.add_assoc]
    rfl
theorem remB_place {f : ByteArray} {n : Nat} : ∀ {xs : List Nat} {p e : Nat}, Cut f n p xs e → ∀ b, ∀ c ∈ remB p b xs, c.2 ≤ e
  | [], p, e, h, b, c, hc => by cases hc
  | x :: r, p, e, h, b, c, hc => by
    have hl := h.2.2.2.le
    have := wd_pos x
    rcases List.mem_append.1 hc with hc | hc
    · obtain ⟨d, _, rfl⟩ := List.mem_map.1 hc
      show p ≤ e
      omega
    · exact remB_place h.2.2.2 7 c hc
theorem place_le {l : List (Bool × Nat)} {e : Nat} (h : ∀ c ∈ l, c.2 ≤ e) : placeOf l e ≤ e := by
  cases l with
  | nil => exact Nat.le_refl _
  | cons c r => exact h c (by simp)
theorem ext_shift (s : Nat) (l : List (Bool × Nat)) (n : Nat) : ext (l.map (sh s)) n = ext l n := by
  unfold ext
  refine List.map_congr_left fun i _ => ?_
  unfold bitAt
  rw [List.getElem?_map]
  cases l[i]? <;> rfl
theorem place_shift (s e : Nat) (l : List (Bool × Nat)) : placeOf (l.map (sh s)) (s + e) = s + placeOf l e := by cases l <;> rfl
theorem padd_shift (s : Nat) (l : List (Bool × Nat)) : padd (l.map (sh s)) = padd l := by
  unfold padd
  rw [List.length_map, List.all_map]
  rfl
theorem cut_shift {A B : ByteArray} {s d nA nB : Nat} (hA : nA = d + 2) (h1 : byt A d = 255) (h2 : byt A (d + 1) ≠ 0) (hb : ∀ i, i < nA → byt B (s + i) = byt A i) (hB : s + nA ≤ nB) :
    ∀ (xs : List Nat) (p e : Nat), Cut A nA p xs e → p ≤ d → Cut B nB (s + p) xs (s + e)
  | [], p, e, h, hp => by
    obtain ⟨rfl, h⟩ := h
    refine ⟨rfl, .inr ?_⟩
    rcases h with h | ⟨_, h3, h4⟩
    · omega
    · refine ⟨by omega, by rw [hb p (by omega)]; exact h3, .inr ?_⟩
      rw [Nat.add_assoc, hb (p + 1) (by omega)]
      rcases h4 with h4 | h4
      · omega
      · exact h4
  | x :: r, p, e, ⟨h3, h4, h5, h6⟩, hp => by
    have hpd : p < d := by
      rcases Nat.lt_or_ge p d with h | h
      · exact h
      · obtain rfl : p = d := by omega
        exact absurd (h5 (by omega)).2 h2
    have hw : p + wd x ≤ d := by
      unfold wd
      split
      · rename_i hx
        have := (h5 hx).2
        rcases Nat.lt_or_ge (p + 1) d with h | h
        · omega
        · rw [show p + 1 = d from by omega] at this; omega
      · omega
    refine ⟨by omega, by rw [hb p (by omega)]; exact h4, fun hx => ⟨by omega, ?_⟩, ?_⟩
    · rw [Nat.add_assoc, hb (p + 1) (by omega)]
      exact (h5 hx).2
    · rw [Nat.add_assoc]
      exact cut_shift hA h1 h2 hb hB r (p + wd x) e h6 hw
abbrev cI (x : Int) : List Value := [.int .i64 x]
theorem BitsStop_row (data : ByteArray) (mk : Int) (behind ahead : ByteArray) (s : Sl) (W : World) (hd : data.size < 140737488355328) (hm : 0 ≤ mk ∧ mk ≤ 255) (hbe : behind.size < 140737488355328) (hah : ahead.size < 140737488355328) (hs : SlH W.heap none 8 1 (X3 none W.heap) s) :
    mosaiclaw01_BitsStop.s data mk behind ahead s W.heap (fun r H' => r = true ∧ Keep W.heap H') := by
  obtain ⟨xs, v0, _, z0⟩ := hs.view (f := cI) (B := fun _ => True) fun cs ⟨a, e, _⟩ => ⟨a, e, trivial⟩
  have n0 := v0.n
  have c0 := v0.c
  have b0 : s.n * 8 ≤ 140737488355328 := by
    rcases z0 with z | z
    · omega
    · have : s.c * 8 ≤ 140737488351232 := z
      omega
  unfold mosaiclaw01_BitsStop.s
  refine alive_ok fun H2 k2 => ?_
  by_cases hm0 : mk = 0
  · exact ite_t (beqi hm0) ⟨rfl, k2⟩
  refine ite_f (beqf hm0) (nw_i fun H4 b4 k4 z4 => ?_)
  obtain ⟨m, rfl⟩ : ∃ m : Nat, mk = (m : Int) := ⟨mk.toNat, by omega⟩
  have hen : ∀ b ∈ [255, m], b < 256 := by intro b hb; simp at hb; omega
  generalize hE : bytesOf [255, m] = en
  have hesz : en.size = 2 := by rw [← hE, bytesOf_size]; rfl
  have g0 := bytesOf_get hen (i := 0) rfl
  have g1 := bytesOf_get hen (i := 1) rfl
  rw [hE] at g0 g1
  refine ⟨en, hesz.symm, ?_, ?_⟩
  · rw [← hE, bytesOf_cells hen]
    refine ⟨fm_ones cB_ones _, fun j v hv => ⟨_, rfl, ?_⟩⟩
    exact cell_a b4 hv
  have sA : (data ++ en).size = data.size + 2 := by simp [hesz]
  have sB : (ahead ++ data ++ en ++ behind).size = ahead.size + (data.size + 2) + behind.size := by simp [hesz]; omega
  refine ⟨by omega, by omega, by simp; omega, by simp; omega, ?_⟩
  have eA1 : loOf (data ++ en).size 0 = 0 := by unfold loOf; omega
  have eA2 : hiOf (data ++ en).size 0 ((data ++ en).size : Int) = data.size + 2 := by unfold hiOf; rw [eA1, sA]; omega
  have eB1 : loOf (ahead ++ data ++ en ++ behind).size (ahead.size : Int) = ahead.size := by rw [sB]; unfold loOf; omega
  have eB2 : hiOf (ahead ++ data ++ en ++ behind).size (ahead.size : Int) ((ahead ++ data ++ en ++ behind).size : Int) = ahead.size + (data.size + 2) + behind.size := by unfold hiOf; rw [eB1, sB]; omega
  have lA : (data ++ en).data.toList = data.data.toList ++ en.data.toList := by simp
  have lB : (ahead ++ data ++ en ++ behind).data.toList = ahead.data.toList ++ ((data ++ en).data.toList ++ behind.data.toList) := by simp
  have hdl : data.data.toList.length = data.size := by simp
  have hal : ahead.data.toList.length = ahead.size := by simp
  have hAl : (data ++ en).data.toList.length = data.size + 2 := by rw [← sA]; simp
  have bA0 : byt (data ++ en) data.size = 255 := by
    rw [byt_list (x := UInt8.ofNat 255) (by rw [lA, List.getElem?_append_right (by omega), hdl, Nat.sub_self]; exact g0.1)]
    exact g0.2
  have bA1 : byt (data ++ en) (data.size + 1) ≠ 0 := by
    rw [byt_list (x := UInt8.ofNat m) (by rw [lA, List.getElem?_append_right (by omega), hdl, show data.size + 1 - data.size = 1 from by omega]; exact g1.1), g1.2]
    omega
  have bAB : ∀ i, i < data.size + 2 → byt (ahead ++ data ++ en ++ behind) (ahead.size + i) = byt (data ++ en) i := fun i hi => by
    have h1 := List.getElem?_eq_getElem (l := (data ++ en).data.toList) (i := i) (by omega)
    rw [byt_list h1]
    refine byt_list ?_
    rw [lB, List.getElem?_append_right (by omega), hal, show ahead.size + i - ahead.size = i from by omega, List.getElem?_append_left (by omega)]
    exact h1
  obtain ⟨ys, e, hc⟩ := Cut.ex (f := data ++ en) (b := data.size + 2) _ 0 (Nat.le_refl _) (by omega)
  have hc2 := cut_shift (B := ahead ++ data ++ en ++ behind) (s := ahead.size) (nB := ahead.size + (data.size + 2) + behind.size) rfl bA0 bA1 bAB (by omega) ys 0 e hc (by omega)
  have hle := hc.le
  have hrl := remB_len ys 0
  refine Open_ok (xs := ys) (e := e) (by omega) (by rw [eA1, eA2]; exact hc) fun p H15 S15 k15 g15 => ?_
  refine Open_ok (xs := ys) (e := ahead.size + e) (by omega) (by rw [eB1, eB2]; exact hc2) fun q H17 S17 k17 g17 => ?_
  rw [eA1] at S15
  rw [eB1, ← Nat.add_zero ahead.size, remB_shift] at S17
  rw [Nat.add_zero] at S17
  have hplace := remB_place hc 7
  generalize remB 0 7 ys = l at *
  have P17 := S15.keep k17
  have kW : Keep W.heap H17 := ((k2.trans k4).trans k15).trans k17
  have z15 := S15.lt
  have y4 := (k2.trans k4).size
  have y17 := k17.size
  have y15 := k15.size
  refine Join.intro (fun b H' => b = false ∧ H17 = H') ?_ fun J hJ => ite_f rfl (ite_f rfl (ite_f rfl (Left_ok P17 (Left_ok S17 (hJ _ _ ⟨bnei (by simp), rfl⟩)))))
  rintro _ _ ⟨rfl, rfl⟩
  refine ite_f rfl ?_
  refine Fix.intro (fun (x : Int) H' => ∃ (i u : Nat), x = (i : Int) ∧ i ≤ xs.length ∧ u ≤ l.length ∧ Src H' p (l.drop u) e u ∧ Src H' q ((l.drop u).map (sh ahead.size)) (ahead.size + e) u ∧ Keep W.heap H') (fun x _ => xs.length - x.toNat)
    ⟨0, 0, rfl, by omega, by omega, P17, S17, kW⟩ ?_
  rintro _ H24 ⟨i, u, rfl, hi, hu, P, Q, k24⟩ rec hrec
  have zq := Q.lt
  have zp := P.lt
  by_cases hix : i < xs.length
  · obtain ⟨b, o, ha, hA⟩ := (v0.keep k24).get (List.getElem?_eq_getElem hix)
    refine ite_t (dect (by omega)) ⟨by omega, by omega, _, ha, ldI_of0 hA rfl (clip_ok ?_)⟩
    have hn := clipN_le xs[i]
    generalize clipN xs[i] = n at *
    refine Peek_ok P (by omega) fun _ _ H36 k36 => Peek_ok (Q.keep k36) (by omega) fun _ _ H38 k38 => ?_
    have k38' := k36.trans k38
    refine Next_x (P.keep k38') hn fun H40 P40 c40 => Next_x ((Q.keep k38').ch c40 (by simp; omega)) hn fun H42 Q42 c42 => ?_
    have hz38 := k38'.size
    have P42 := P40.ch c42 (by simp; omega)
    have k42 : Keep W.heap H42 := (((k24.trans k38').ch (F := [])).trans (c40.mono (G := [p, q]) (by simp) |>.trans c42 (by simp)) (by simp; omega)).keep (by simp)
    have htk : tk ((l.drop u).map (sh ahead.size)) n = tk (l.drop u) n := by unfold tk; rw [List.length_map]
    rw [htk, ← List.map_drop] at Q42
    have htl := tk_le (l.drop u) n
    rw [List.length_drop] at htl
    rw [List.drop_drop] at Q42 P42
    refine Join.intro (fun c H' => c = false ∧ Keep H42 H') ?_ ?_
    · rintro _ H45 ⟨rfl, k45⟩
      refine ite_f rfl ?_
      rw [show (i : Int) + 1 = ((i + 1 : Nat) : Int) from by omega, w64n (by omega)]
      exact hrec _ _ ⟨i + 1, u + tk (l.drop u) n, rfl, by omega, by omega, P42.keep k45, Q42.keep k45, k42.trans k45⟩ (by simp; omega)
    · intro J hJ
      rw [ext_shift, ext_shift, List.length_map]
      refine ite_f (bnei rfl) (ite_f rfl (ite_f (bnei rfl) (ite_f (by simp) (At_ok P42 (At_ok Q42 ?_)))))
      rw [place_shift]
      have hpl := place_le (l := l.drop (u + tk (l.drop u) n)) fun c hc => hplace c (List.mem_of_mem_drop hc)
      refine ite_f (bnei (by rw [w64 (by omega)]; omega)) (Padded_ok P42 fun H51 k51 => Padded_ok (Q42.keep k51) fun H53 k53 => ?_)
      rw [padd_shift]
      exact ite_f (by simp) (Used_ok (P42.keep (k51.trans k53)) (Used_ok (Q42.keep (k51.trans k53)) (hJ _ _ ⟨bnei rfl, k51.trans k53⟩)))
  · exact ite_f (decf (by omega)) (Left_ok P (Left_ok Q ⟨beqi (by simp), k24⟩))
end Go.Proofs.Ytcjmcmkohfaleaa.G
