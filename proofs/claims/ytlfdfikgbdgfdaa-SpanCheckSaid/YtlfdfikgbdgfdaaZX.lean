/- A sink's text, opened again. -/
import Derived.Test.YtlfdfikgbdgfdaaZCo
namespace Go.Proofs.Ytlfdfikgbdgfdaa.G
open Go.RowKit
set_option linter.unusedVariables false
set_option linter.unusedSimpArgs false

theorem byt_list {f : ByteArray} {p : Nat} {x : UInt8} (h : f.data.toList[p]? = some x) : byt f p = x.toNat := by
  obtain ⟨h1, h2⟩ := List.getElem?_eq_some_iff.1 h
  have h1' : p < f.size := by simpa using h1
  unfold byt bt
  rw [dif_pos (by simpa using h1')]
  simp only [Int.toNat_natCast]
  rw [← h2]
  rfl
theorem cut_stuff {f : ByteArray} : ∀ (bs : List Nat) (p : Nat), (∀ i y, (stuff bs)[i]? = some y → byt f (p + i) = y) → Cut f (p + (stuff bs).length) p bs (p + (stuff bs).length)
  | [], p, _ => ⟨by simp [stuff], .inl (by simp [stuff])⟩
  | x :: r, p, h => by
    have e : stuff (x :: r) = (if x = 255 then [255, 0] else [x]) ++ stuff r := rfl
    have hl : (if x = 255 then [255, 0] else [x]).length = wd x := by unfold wd; split <;> rfl
    have h0 : byt f p = x := by
      have hx : (stuff (x :: r))[0]? = some x := by
        rw [e]
        split
        · rename_i hh; subst hh; rfl
        · rfl
      have := h 0 x hx
      simpa using this
    have hr := cut_stuff (f := f) r (p + wd x) fun i y hy => by
      have := h (wd x + i) y (by rw [e, List.getElem?_append_right (by omega), hl, show wd x + i - wd x = i from by omega]; exact hy)
      rwa [Nat.add_assoc]
    have hlen : (stuff (x :: r)).length = wd x + (stuff r).length := by rw [e, List.length_append, hl]
    have hw := wd_pos x
    rw [hlen, ← Nat.add_assoc]
    refine ⟨by omega, h0, fun hff => ⟨?_, ?_⟩, hr⟩
    · have : wd x = 2 := by unfold wd; rw [if_pos hff]
      omega
    · exact h 1 0 (by rw [e, if_pos hff]; rfl)
theorem bytesOf_get {l : List Nat} (hl : ∀ b ∈ l, b < 256) {i y : Nat} (h : l[i]? = some y) : (bytesOf l).data.toList[i]? = some (UInt8.ofNat y) ∧ (UInt8.ofNat y).toNat = y := by
  refine ⟨by simp [bytesOf, h], ?_⟩
  have := hl y (List.mem_of_getElem? h)
  simp [UInt8.toNat_ofNat']
  omega
theorem byt_mid {a t b : ByteArray} {i : Nat} {x : UInt8} (h : t.data.toList[i]? = some x) : byt (a ++ t ++ b) (a.size + i) = x.toNat := by
  refine byt_list ?_
  have h1 := (List.getElem?_eq_some_iff.1 h).1
  have e : (a ++ t ++ b).data.toList = a.data.toList ++ t.data.toList ++ b.data.toList := by simp
  rw [e, List.append_assoc, List.getElem?_append_right (by simp), List.getElem?_append_left (by simp at h1 ⊢; omega)]
  simpa using h
theorem remB_fst : ∀ (xs : List Nat) (p : Nat), (remB p 7 xs).map (·.1) = xs.flatMap (bl 8)
  | [], p => rfl
  | x :: r, p => by rw [remB, List.map_append, remB_fst r, List.flatMap_cons, List.map_map]; simp [Function.comp_def]
theorem ext_take {l : List (Bool × Nat)} {n : Nat} (h : n ≤ l.length) : ext l n = (l.map (·.1)).take n := by
  refine List.ext_getElem (by simp [ext]; omega) fun i h1 h2 => ?_
  simp at h2
  simp [ext, bitAt, List.getElem?_eq_getElem (show i < l.length by omega)]
/-- The text of whole bytes gives these bits again. -/
theorem reopen_ok {H : Hp} {k : Nat} {s : Sl} {m : List Bool} {Q : Option Addr → Hp → Prop} (hs : Snk H k s m) (h8 : m.length % 8 = 0) (hl : m.length ≤ 562949953421312)
    (h : ∀ q r e H', Src H' q r e 0 → r.map (·.1) = m → Keep H H' → H.size ≤ q → Q (some ⟨q, 0, none⟩) H') : bits_Open.s (text m) 0 ((text m).size : Int) H Q := by
  obtain ⟨bs, v, n, R, hn, hmb⟩ := hs
  have hoc : octs m = bs := by rw [hmb]; exact octs_eq R.byte hn
  have hn0 : n = 0 := by
    have := congrArg List.length hmb
    rw [List.length_append, fm8, bl_len] at this
    omega
  subst hn0
  replace hmb : m = bs.flatMap (bl 8) := by rw [hmb]; simp [bl]
  have htx : text m = bytesOf (stuff bs) := by unfold text; rw [hoc]
  have hts : (text m).size = (stuff bs).length := by rw [htx, bytesOf_size]
  have hst := stuff_len bs
  have hbl : 8 * bs.length = m.length := by rw [hmb, fm8]
  have elo : loOf (text m).size 0 = 0 := by unfold loOf; omega
  have ehi : hiOf (text m).size 0 ((text m).size : Int) = (text m).size := by unfold hiOf; rw [elo]; omega
  have hcut : Cut (text m) (text m).size 0 bs (text m).size := by
    have := cut_stuff (f := text m) bs 0 fun i y hy => by
      obtain ⟨q1, q2⟩ := bytesOf_get (stuff_byte R.byte) hy
      rw [htx, Nat.zero_add, byt_list q1, q2]
    rw [Nat.zero_add, ← hts] at this
    exact this
  refine Open_ok (xs := bs) (e := (text m).size) (by omega) (by rw [elo, ehi]; exact hcut) fun q H35 S35 k35 g35 => ?_
  rw [elo] at S35
  exact h q _ _ H35 S35 (by rw [remB_fst, ← hmb]) k35 g35
end Go.Proofs.Ytlfdfikgbdgfdaa.G
