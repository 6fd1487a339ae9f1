/- Layer 1: BitsBack. -/
import Derived.Test.YtcjmcmkohfaleaaZ01a
import Derived.Test.YtcjmcmkohfaleaaZCo
import Derived.Test.YtcjmcmkohfaleaaKBitsBack
namespace Go.Proofs.Ytcjmcmkohfaleaa.G
open Go.RowKit
set_option linter.unusedVariables false
set_option linter.unusedSimpArgs false

theorem alive_ok {H : Hp} {Q : Bool → Hp → Prop} (h : ∀ H', Keep H H' → Q true H') : mosaiclaw01_alive.s H Q := by
  unfold mosaiclaw01_alive.s
  have hc : Cut (⟨#[165, 255, 0, 60, 255, 217]⟩ : ByteArray) 6 0 [165, 255, 60] 4 := by
    refine ⟨by omega, by decide, by simp, by decide, by decide, fun _ => ⟨by decide, by decide⟩, by decide, by decide, by simp, by decide, .inr (by decide)⟩
  have e1 : hiOf (⟨#[165, 255, 0, 60, 255, 217]⟩ : ByteArray).size 0 6 = 6 := by decide
  have e2 : loOf (⟨#[165, 255, 0, 60, 255, 217]⟩ : ByteArray).size 0 = 0 := by decide
  refine Open_ok (xs := [165, 255, 60]) (e := 4) (by decide) (by rw [e1, e2]; exact hc) fun k H2 S2 k2 g2 => bits_New_ok fun q H4 S4 k4 g4 => ?_
  rw [e2] at S2
  have z2 := S2.lt
  have z4 := S4.lts q (by simp)
  have y4 := k4.size
  refine Join.intro (fun b H' => b = false ∧ H4 = H') ?_ fun J hJ => ite_f rfl (hJ _ _ ⟨rfl, rfl⟩)
  rintro _ _ ⟨rfl, rfl⟩
  have hlen : (remB 0 7 [165, 255, 60]).length = 24 := by decide
  refine ite_f rfl (Next_ok (S2.keep k4) (by rw [hlen]; omega) fun _ _ _ H9 S9 c9 => ?_)
  refine Put_ok (S4.ch c9 (by simp [fp]; omega)) (by simp) (by omega) fun _ _ s' H11 S11 c11 f11 => ?_
  have k11 : Keep H H11 := ((((k2.trans k4).ch (F := [])).trans c9 (by simp; omega)).trans c11 (by simp [fp]; have := k2.size; omega)).keep (by simp)
  have S9' := S9.ch c11 (by simp [fp]; omega)
  have v1 : num (ext (remB 0 7 [165, 255, 60]) (12 : Int).toNat) = 2655 := by decide
  have v2 : placeOf ((remB 0 7 [165, 255, 60]).drop (12 : Int).toNat) 4 = 1 := by decide
  have v3 : ((remB 0 7 [165, 255, 60]).drop (12 : Int).toNat).length = 12 := by decide
  rw [v1]
  refine ite_t rfl (ite_t rfl (Left_ok S9' (ite_t (by rw [v3]; rfl) (At_ok S9' (ite_t (by rw [v2]; rfl) (ite_t rfl (Len_ok S11 (by simp [bl_len]) ?_)))))))
  have : ((([] : List Bool) ++ bl (3 : Int).toNat (low 5 (3 : Int).toNat)).length : Int) = 3 := by decide
  rw [this]
  exact h _ k11
def clipN (n : Int) : Nat := (n % 17).toNat
theorem clipN_le (n : Int) : clipN n ≤ 16 := by unfold clipN; omega
theorem clip_ok {n : Int} {H : Hp} {Q : Int → Hp → Prop} (h : Q (clipN n : Int) H) : mosaiclaw01_clip.s n H Q := by
  unfold mosaiclaw01_clip.s
  have e1 : n.tmod 17 = if 0 ≤ n then n % 17 else -((-n) % 17) := by
    split
    · rename_i h; exact Int.tmod_eq_emod_of_nonneg h
    · have := Int.tmod_eq_emod_of_nonneg (a := -n) (b := 17) (by omega)
      rw [Int.neg_tmod] at this
      omega
  refine Join.intro (fun x H' => x = (clipN n : Int) ∧ H = H') ?_ ?_
  · rintro _ _ ⟨rfl, rfl⟩; exact h
  · intro J hJ
    by_cases h1 : n.tmod 17 < 0
    · refine ite_t (dect h1) (hJ _ _ ⟨?_, rfl⟩)
      rw [w64 (by split at e1 <;> omega)]
      unfold clipN
      split at e1 <;> omega
    · refine ite_f (decf h1) (hJ _ _ ⟨?_, rfl⟩)
      unfold clipN
      split at e1 <;> omega

/-! ### the bytes of a text -/
theorem byt_list {f : ByteArray} {p : Nat} {x : UInt8} (h : f.data.toList[p]? = some x) : byt f p = x.toNat := by
  obtain ⟨h1, h2⟩ := List.getElem?_eq_some_iff.1 h
  have h1' : p < f.size := by simpa using h1
  unfold byt bt
  rw [dif_pos (by simpa using h1')]
  simp only [Int.toNat_natCast]
  rw [← h2]
  rfl
theorem cut_stuff {f : ByteArray} : ∀ (bs : List Nat) (p : Nat), (∀ i y, (stuff bs)[i]? = some y → byt f (p + i) = y) → Cut f (p + (stuff bs).length) p bs (p + (stuff bs).length)
  | [], p, _ => ⟨by simp [stuff], .inl (by simp [stuff])⟩
  | x :: r, p, h => by
    have e : stuff (x :: r) = (if x = 255 then [255, 0] else [x]) ++ stuff r := rfl
    have hl : (if x = 255 then [255, 0] else [x]).length = wd x := by unfold wd; split <;> rfl
    have h0 : byt f p = x := by
      have hx : (stuff (x :: r))[0]? = some x := by
        rw [e]
        split
        · rename_i hh; subst hh; rfl
        · rfl
      have := h 0 x hx
      simpa using this
    have hr := cut_stuff (f := f) r (p + wd x) fun i y hy => by
      have := h (wd x + i) y (by rw [e, List.getElem?_append_right (by omega), hl, show wd x + i - wd x = i from by omega]; exact hy)
      rwa [Nat.add_assoc]
    have hlen : (stuff (x :: r)).length = wd x + (stuff r).length := by rw [e, List.length_append, hl]
    have hw := wd_pos x
    rw [hlen, ← Nat.add_assoc]
    refine ⟨by omega, h0, fun hff => ⟨?_, ?_⟩, hr⟩
    · have : wd x = 2 := by unfold wd; rw [if_pos hff]
      omega
    · exact h 1 0 (by rw [e, if_pos hff]; rfl)
theorem bytesOf_get {l : List Nat} (hl : ∀ b ∈ l, b < 256) {i y : Nat} (h : l[i]? = some y) : (bytesOf l).data.toList[i]? = some (UInt8.ofNat y) ∧ (UInt8.ofNat y).toNat = y := by
  refine ⟨by simp [bytesOf, h], ?_⟩
  have := hl y (List.mem_of_getElem? h)
  simp [UInt8.toNat_ofNat']
  omega
theorem byt_mid {a t b : ByteArray} {i : Nat} {x : UInt8} (h : t.data.toList[i]? = some x) : byt (a ++ t ++ b) (a.size + i) = x.toNat := by
  refine byt_list ?_
  have h1 := (List.getElem?_eq_some_iff.1 h).1
  have e : (a ++ t ++ b).data.toList = a.data.toList ++ t.data.toList ++ b.data.toList := by simp
  rw [e, List.append_assoc, List.getElem?_append_right (by simp), List.getElem?_append_left (by simp at h1 ⊢; omega)]
  simpa using h
theorem remB_fst : ∀ (xs : List Nat) (p : Nat), (remB p 7 xs).map (·.1) = xs.flatMap (bl 8)
  | [], p => rfl
  | x :: r, p => by rw [remB, List.map_append, remB_fst r, List.flatMap_cons, List.map_map]; simp [Function.comp_def]
theorem ext_take {l : List (Bool × Nat)} {n : Nat} (h : n ≤ l.length) : ext l n = (l.map (·.1)).take n := by
  refine List.ext_getElem (by simp [ext]; omega) fun i h1 h2 => ?_
  simp at h2
  simp [ext, bitAt, List.getElem?_eq_getElem (show i < l.length by omega)]
/-- What the acts put. -/
def actB (x : Act1) : List Bool := bl (clipN x.2.2) (low x.2.1 (clipN x.2.2))
theorem actB_len (x : Act1) : (actB x).length = clipN x.2.2 := bl_len _ _
def actsB (xs : List Act1) : List Bool := xs.flatMap actB
theorem actsB_len : ∀ xs : List Act1, (actsB xs).length ≤ 16 * xs.length
  | [] => by simp [actsB]
  | x :: r => by
    have := actsB_len r
    have h2 := clipN_le x.2.2
    unfold actsB at *
    rw [List.flatMap_cons, List.length_append, actB_len, List.length_cons]
    omega
theorem actsB_snoc (xs : List Act1) {i : Nat} (hi : i < xs.length) : actsB (xs.take (i + 1)) = actsB (xs.take i) ++ actB xs[i] := by
  unfold actsB
  rw [List.take_add_one, List.getElem?_eq_getElem hi, List.flatMap_append]
  simp
theorem actsB_pre (xs : List Act1) (i : Nat) : actsB xs = actsB (xs.take i) ++ actsB (xs.drop i) := by
  unfold actsB
  rw [← List.flatMap_append, List.take_append_drop]

theorem BitsBack_row (a0 : Sl) (a1 a2 : ByteArray) (W : World) (h0 : SlH W.heap none 24 3 (X29 none W.heap) a0) (h1 : a1.size < 140737488355328) (h2 : a2.size < 140737488355328) :
    mosaiclaw01_BitsBack.s a0 a1 a2 W.heap (fun r H' => r = true ∧ Keep W.heap H') := by
  obtain ⟨xs, v0, z0⟩ := acts_view h0
  have n0 := v0.n
  have c0 := v0.c
  have b0 : a0.n * 24 ≤ 140737488355328 := by
    rcases z0 with z | z
    · omega
    · have : a0.c * 24 ≤ 140737488351232 := z
      omega
  have hall := actsB_len xs
  have hlen : ∀ i, (actsB (xs.take i)).length ≤ (actsB xs).length := fun i => by rw [actsB_pre xs i, List.length_append]; omega
  unfold mosaiclaw01_BitsBack.s
  refine alive_ok fun H2 k2 => bits_New_ok fun k H4 S4 k4 g4 => ite_f rfl ?_
  have y2 := k2.size
  refine Fix.intro (fun (x : Int × Int) H' => ∃ (i : Nat) (s : Sl), x = (((actsB (xs.take i)).length : Int), (i : Int)) ∧ i ≤ xs.length ∧ Snk H' k s (actsB (xs.take i)) ∧ Keep W.heap H' ∧ ∀ b ∈ k :: fp s, W.heap.size ≤ b) (fun x _ => xs.length - x.2.toNat)
    ⟨0, _, rfl, by omega, by simpa [actsB] using S4, k2.trans k4, by simp [fp]; omega⟩ ?_
  rintro _ H8 ⟨i, s, rfl, hi, S8, k8, g8⟩ rec hrec
  have hli := hlen i
  simp only
  by_cases hix : i < xs.length
  · obtain ⟨b, o, ha, hA⟩ := (v0.keep k8).get (List.getElem?_eq_getElem hix)
    have hcl := clipN_le xs[i].2.2
    refine ite_t (dect (by omega)) ⟨by omega, by omega, _, ha, ldI_of hA (j := 2) rfl (clip_ok ⟨by omega, by omega, ldI_of hA (j := 1) rfl (Put_ok S8 (by omega) (by omega) fun _ _ s' H24 S24 c24 f24 => ite_f rfl ?_)⟩)⟩
    have e1 := actsB_snoc xs hix
    have e2 : (actsB (xs.take (i + 1))).length = (actsB (xs.take i)).length + clipN xs[i].2.2 := by rw [e1, List.length_append, actB_len]
    rw [show (((actsB (xs.take i)).length : Nat) : Int) + (clipN xs[i].2.2 : Int) = ((actsB (xs.take (i + 1))).length : Int) from by omega, show (i : Int) + 1 = ((i + 1 : Nat) : Int) from by omega, w64n (by have := hlen (i + 1); omega), w64n (by omega)]
    refine hrec _ _ ⟨i + 1, s', rfl, by omega, ?_, ((k8.ch (F := [])).trans c24 fun b hb => .inr (g8 b hb)).keep (by simp), fun b hb => ?_⟩ (by simp; omega)
    · rw [e1]
      rw [Int.toNat_natCast] at S24
      exact S24
    · have := k8.size
      rcases List.mem_cons.1 hb with rfl | hb
      · exact g8 _ (by simp)
      · rcases f24 b hb with h | h
        · exact g8 b (by simp [h])
        · omega
  refine ite_f (decf (by omega)) ?_
  rw [List.take_of_length_le (by omega)] at S8 ⊢
  generalize hL : actsB xs = l at *
  refine Join.intro (fun b H' => b = false ∧ H8 = H') ?_ fun J hJ => ite_f rfl (Len_ok S8 (by omega) (hJ _ _ ⟨bnei rfl, rfl⟩))
  rintro _ _ ⟨rfl, rfl⟩
  refine ite_f rfl (Pad_ok S8 (by omega) fun s' H29 S29 c29 f29 => ?_)
  have k29 : Keep W.heap H29 := ((k8.ch (F := [])).trans c29 fun b hb => .inr (g8 b hb)).keep (by simp)
  generalize hP : (8 - l.length % 8) % 8 = pd at *
  have hM : (l ++ List.replicate pd true).length = l.length + pd := by simp
  have hM8 : (l.length + pd) % 8 = 0 := by omega
  generalize hm : l ++ List.replicate pd true = m at *
  have S29' := S29
  obtain ⟨bs, v, n, R, hn, hmb⟩ := S29'
  have hoc : octs m = bs := by rw [hmb]; exact octs_eq R.byte hn
  have hn0 : n = 0 := by
    have := congrArg List.length hmb
    rw [List.length_append, fm8, bl_len, hM] at this
    omega
  subst hn0
  replace hmb : m = bs.flatMap (bl 8) := by rw [hmb]; simp [bl]
  refine Text_ok S29 (by omega) fun H31 k31 => ?_
  have htx : text m = bytesOf (stuff bs) := by unfold text; rw [hoc]
  have hts : (text m).size = (stuff bs).length := by rw [htx, bytesOf_size]
  have hst := stuff_len bs
  have hbl : 8 * bs.length = l.length + pd := by rw [← hM, hmb, fm8]
  refine ⟨by omega, by simp; omega, ?_⟩
  have hsz : (a1 ++ text m ++ a2).size = a1.size + (text m).size + a2.size := by simp
  have eh : (a1.size : Int) + ((text m).size : Int) = ((a1.size + (text m).size : Nat) : Int) := by omega
  rw [eh, w64n (by omega)]
  have elo : loOf (a1 ++ text m ++ a2).size (a1.size : Int) = a1.size := by rw [hsz]; unfold loOf; omega
  have ehi : hiOf (a1 ++ text m ++ a2).size (a1.size : Int) ((a1.size + (text m).size : Nat) : Int) = a1.size + (text m).size := by unfold hiOf; rw [elo, hsz]; omega
  have hcut : Cut (a1 ++ text m ++ a2) (a1.size + (text m).size) a1.size bs (a1.size + (text m).size) := by
    rw [hts]
    refine cut_stuff bs a1.size fun i y hy => ?_
    obtain ⟨q1, q2⟩ := bytesOf_get (stuff_byte R.byte) hy
    rw [htx, byt_mid q1, q2]
  refine Open_ok (xs := bs) (e := a1.size + (text m).size) (by rw [hsz]; omega) (by rw [elo, ehi]; exact hcut) fun q H35 S35 k35 g35 => ?_
  rw [elo] at S35
  have k35' := (k29.trans k31).trans k35
  have y35 := k29.trans k31
  have z35 := y35.size
  have hq := S35.lt
  have rl := remB_len bs a1.size
  have rf := remB_fst bs a1.size
  rw [← hmb] at rf
  generalize hr : remB a1.size 7 bs = r at *
  have Sk := S29.ch ((k31.trans k35).ch (F := [])) (by simp)
  refine Join.intro (fun b H' => b = false ∧ H35 = H') ?_ ?_
  rotate_left
  · intro J hJ
    refine ite_f rfl (Len_ok Sk (by omega) ?_)
    refine ite_f (bnei (show Int.tmod (m.length : Int) 8 = 0 by rw [show Int.tmod (m.length : Int) 8 = ((m.length % 8 : Nat) : Int) from rfl]; omega)) (Left_ok S35 (Len_ok Sk (by omega) (ite_f (bnei (by omega)) (Len_ok Sk (by omega) (hJ _ _ ⟨decf ?_, rfl⟩)))))
    rw [w64 (by omega)]
    omega
  rintro _ _ ⟨rfl, rfl⟩
  refine ite_f rfl ?_
  refine Fix.intro (fun (x : Int) H' => ∃ (i : Nat), x = (i : Int) ∧ i ≤ xs.length ∧ Src H' q (r.drop (actsB (xs.take i)).length) (a1.size + (text m).size) (actsB (xs.take i)).length ∧ Keep W.heap H') (fun x _ => xs.length - x.toNat)
    ⟨0, rfl, by omega, by simpa [actsB] using S35, k35'⟩ ?_
  rintro _ H42 ⟨i, rfl, hi, S42, k42⟩ rec2 hrec2
  have hli := hlen i
  by_cases hix : i < xs.length
  · obtain ⟨b, o, ha, hA⟩ := (v0.keep k42).get (List.getElem?_eq_getElem hix)
    have hcl := clipN_le xs[i].2.2
    have e1 := actsB_snoc xs hix
    have e2 : (actsB (xs.take (i + 1))).length = (actsB (xs.take i)).length + clipN xs[i].2.2 := by rw [e1, List.length_append, actB_len]
    have hli1 := hlen (i + 1)
    refine ite_t (dect (by omega)) ⟨by omega, by omega, _, ha, ldI_of hA (j := 2) rfl (clip_ok ?_)⟩
    refine Next_ok S42 (by rw [List.length_drop]; omega) fun _ _ _ H54 S54 c54 => ?_
    have k54 : Keep W.heap H54 := ((k42.ch (F := [])).trans c54 (by simp; omega)).keep (by simp)
    rw [Int.toNat_natCast] at S54 ⊢
    obtain ⟨b', o', ha', hA'⟩ := (v0.keep k54).get (List.getElem?_eq_getElem hix)
    rw [ha] at ha'
    obtain ⟨rfl, rfl⟩ : b = b' ∧ o = o' := by injection ha' with h; injection h with h1 h2; exact ⟨h1, h2⟩
    have hnum : num (ext (r.drop (actsB (xs.take i)).length) (clipN xs[i].2.2)) = low xs[i].2.1 (clipN xs[i].2.2) := by
      rw [ext_take (by rw [List.length_drop]; omega), List.map_drop, rf, ← hm, ← hL, actsB_pre xs (i + 1), e1]
      rw [List.append_assoc, List.append_assoc, List.drop_append_of_le_length (Nat.le_refl _), List.drop_of_length_le (Nat.le_refl _), List.nil_append, List.take_append_of_le_length (by rw [actB_len]; omega), List.take_of_length_le (by rw [actB_len]; omega)]
      unfold actB
      rw [num_bl, low_mod _ (Nat.le_refl _)]
    refine Join.intro (fun b H' => b = false ∧ H54 = H') ?_ ?_
    · rintro _ _ ⟨rfl, rfl⟩
      refine ite_f rfl ?_
      rw [show (i : Int) + 1 = ((i + 1 : Nat) : Int) from by omega, w64n (by omega)]
      refine hrec2 _ _ ⟨i + 1, rfl, by omega, ?_, k54⟩ (by simp; omega)
      rw [e2]
      rwa [List.drop_drop] at S54
    · intro J hJ
      refine ite_f rfl ⟨by omega, by omega, by omega, ldI_of hA' (j := 1) rfl (hJ _ _ ⟨bnei ?_, rfl⟩)⟩
      have hp1 := pow_lt hcl
      have e16 : (2 : Nat) ^ 16 = 65536 := rfl
      have hp0 : 0 < 2 ^ clipN xs[i].2.2 := Nat.pow_pos (by omega)
      have e3 := shln (k := .i64) (x := 1) (n := clipN xs[i].2.2) (by show _ ≤ 64; omega) (w64n (by omega))
      rw [show ((1 : Nat) : Int) = (1 : Int) from rfl, Nat.one_mul] at e3
      have e4 := and_mask xs[i].2.1 (n := clipN xs[i].2.2) (by omega)
      rw [e3, w64 (by omega), e4, ← low_cast]
      exact congrArg _ hnum
  · refine ite_f (decf (by omega)) ?_
    rw [List.take_of_length_le (by omega), hL] at S42
    have hd : (r.drop l.length).map (·.1) = List.replicate pd true := by
      rw [List.map_drop, rf, ← hm, List.drop_append_of_le_length (Nat.le_refl _), List.drop_of_length_le (Nat.le_refl _), List.nil_append]
    have hdl : (r.drop l.length).length = pd := by rw [List.length_drop]; omega
    have hpad : padd (r.drop l.length) = true := by
      unfold padd
      rw [dect (by omega), Bool.true_and, List.all_eq_true]
      intro x hx
      have := List.mem_map_of_mem (f := fun x : Bool × Nat => x.1) hx
      rw [hd] at this
      exact (List.mem_replicate.1 this).2
    refine Padded_ok S42 fun H65 k65 => Left_ok (S42.keep k65) (Skip_ok (S42.keep k65) (by omega) fun _ _ H69 S69 s69 => ?_)
    rw [Int.toNat_natCast, List.drop_of_length_le (Nat.le_refl _), hdl] at S69
    rw [hpad, hdl, w64 (by omega)]
    refine ite_t rfl (ite_t rfl (Used_ok S69 (ite_t (beqi (by omega)) (At_ok S69 ⟨?_, (k42.trans k65).same s69 (by omega)⟩))))
    simp [placeOf]
end Go.Proofs.Ytcjmcmkohfaleaa.G
