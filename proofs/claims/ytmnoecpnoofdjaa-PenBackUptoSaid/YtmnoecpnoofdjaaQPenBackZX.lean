/- Of this text what the row needs. -/
import Derived.Test.YtmnoecpnoofdjaaQPenBackZCo
namespace Go.Proofs.Ytmnoecpnoofdjaa.G
open Go.RowKit
set_option linter.unusedVariables false
set_option linter.unusedSimpArgs false
theorem byt_list {f : ByteArray} {p : Nat} {x : UInt8} (h : f.data.toList[p]? = some x) : byt f p = x.toNat := by
 obtain ⟨h1, h2⟩ := List.getElem?_eq_some_iff.1 h
 have h1' : p < f.size := by simpa using h1
 unfold byt bt
 rw [dif_pos (by simpa using h1')]
 simp only [Int.toNat_natCast]
 rw [← h2]
 rfl
theorem cut_stuff {f : ByteArray} : ∀ (bs : List Nat) (p : Nat), (∀ i y, (stuff bs)[i]? = some y → byt f (p + i) = y) → Cut f (p + (stuff bs).length) p bs (p + (stuff bs).length)
 | [], p, _ => ⟨by simp [stuff], .inl (by simp [stuff])⟩
 | x :: r, p, h => by
  have e : stuff (x :: r) = (if x = 255 then [255, 0] else [x]) ++ stuff r := rfl
  have hl : (if x = 255 then [255, 0] else [x]).length = wd x := by unfold wd; split <;> rfl
  have h0 : byt f p = x := by
   have hx : (stuff (x :: r))[0]? = some x := by
    rw [e]
    split
    ·rename_i hh; subst hh; rfl
    ·rfl
   have := h 0 x hx
   simpa using this
  have hr := cut_stuff (f := f) r (p + wd x) fun i y hy => by
   have := h (wd x + i) y (by rw [e, List.getElem?_append_right (by omega), hl, show wd x + i - wd x = i from by omega]; exact hy)
   rwa [Nat.add_assoc]
  have hlen : (stuff (x :: r)).length = wd x + (stuff r).length := by rw [e, List.length_append, hl]
  have hw := wd_pos x
  rw [hlen, ← Nat.add_assoc]
  refine ⟨by omega, h0, fun hff => ⟨?_, ?_⟩, hr⟩
  ·have : wd x = 2 := by unfold wd; rw [if_pos hff]
   omega
  ·exact h 1 0 (by rw [e, if_pos hff]; rfl)
theorem bytesOf_get {l : List Nat} (hl : ∀ b ∈ l, b < 256) {i y : Nat} (h : l[i]? = some y) : (bytesOf l).data.toList[i]? = some (UInt8.ofNat y) ∧ (UInt8.ofNat y).toNat = y := by
 refine ⟨by simp [bytesOf, h], ?_⟩
 have := hl y (List.mem_of_getElem? h)
 simp [UInt8.toNat_ofNat']
 omega
theorem byt_mid {a t b : ByteArray} {i : Nat} {x : UInt8} (h : t.data.toList[i]? = some x) : byt (a ++ t ++ b) (a.size + i) = x.toNat := by
 refine byt_list ?_
 have h1 := (List.getElem?_eq_some_iff.1 h).1
 have e : (a ++ t ++ b).data.toList = a.data.toList ++ t.data.toList ++ b.data.toList := by simp
 rw [e, List.append_assoc, List.getElem?_append_right (by simp), List.getElem?_append_left (by simp at h1 ⊢; omega)]
 simpa using h
theorem remB_fst : ∀ (xs : List Nat) (p : Nat), (remB p 7 xs).map (·.1) = xs.flatMap (bl 8)
 | [], p => rfl
 | x :: r, p => by rw [remB, List.map_append, remB_fst r, List.flatMap_cons, List.map_map]; simp [Function.comp_def]
end Go.Proofs.Ytmnoecpnoofdjaa.G
