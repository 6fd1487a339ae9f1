/- Bytes as lists. -/
import Derived.Test.YtdcjjoihlnjpnaaZ19
namespace Go.Proofs.Ytdcjjoihlnjpnaa.G
open Go.RowKit
set_option linter.unusedVariables false
set_option linter.unusedSimpArgs false

abbrev cB (b : Nat) : List Value := [.int .u8 (b : Int)]
theorem cB_len (b : Nat) : (cB b).length = 1 := rfl
theorem cB_ones (b : Nat) : ∀ u ∈ cB b, u.oneCell' = true := ones_cons rfl ones_nil
def bytesOf (l : List Nat) : ByteArray := ⟨(l.map UInt8.ofNat).toArray⟩
theorem bytesOf_size (l : List Nat) : (bytesOf l).size = l.length := by simp [bytesOf, ByteArray.size]
theorem fmB : ∀ l : List Nat, l.flatMap cB = l.map fun (b : Nat) => Value.int .u8 (b : Int)
  | [] => rfl
  | b :: l => by rw [List.flatMap_cons, List.map_cons, fmB l]; rfl
theorem bytesOf_cells {l : List Nat} (h : ∀ b ∈ l, b < 256) : byteCells (bytesOf l) = l.flatMap cB := by
  rw [fmB]
  unfold byteCells bytesOf
  simp only [List.map_map]
  refine List.map_congr_left fun b hb => ?_
  have := h b hb
  simp [UInt8.toNat_ofNat']
  omega
def stuff (l : List Nat) : List Nat := l.flatMap fun b => if b = 255 then [255, 0] else [b]
theorem stuff_snoc (l : List Nat) (b : Nat) : stuff (l ++ [b]) = stuff l ++ (if b = 255 then [255, 0] else [b]) := by simp [stuff]
theorem stuff_len : ∀ l : List Nat, (stuff l).length ≤ 2 * l.length
  | [] => by simp [stuff]
  | b :: l => by
    have := stuff_len l
    unfold stuff at *
    rw [List.flatMap_cons, List.length_append]
    have h2 : (if b = 255 then [255, 0] else [b]).length ≤ 2 := by split <;> simp
    simp only [List.length_cons]
    omega
theorem stuff_byte {l : List Nat} (h : ∀ b ∈ l, b < 256) : ∀ b ∈ stuff l, b < 256 := fun b hb => by
  obtain ⟨c, hc, hb⟩ := List.mem_flatMap.1 hb
  have := h c hc
  split at hb <;> simp at hb <;> omega
theorem bytesOf_app (a b : List Nat) : bytesOf a ++ bytesOf b = bytesOf (a ++ b) := by
  apply ByteArray.ext
  rw [ByteArray.data_append]
  simp [bytesOf]
theorem bytesOf_take (l : List Nat) (i : Nat) : (bytesOf l).extract 0 i = bytesOf (l.take i) := by
  apply ByteArray.ext
  rw [ByteArray.data_extract]
  apply Array.toList_inj.1
  simp [bytesOf]
/-- A text's bytes. -/
def byL (s : ByteArray) : List Nat := s.data.toList.map (·.toNat)
theorem byL_len (s : ByteArray) : (byL s).length = s.size := by simp [byL]
theorem byL_byte (s : ByteArray) : ∀ b ∈ byL s, b < 256 := fun b hb => by
  obtain ⟨x, _, rfl⟩ := List.mem_map.1 hb
  exact x.toNat_lt
theorem byL_of {l : List Nat} (h : ∀ b ∈ l, b < 256) : byL (bytesOf l) = l := by
  unfold byL bytesOf
  simp only [List.map_map]
  refine (List.map_congr_left fun b hb => ?_).trans (List.map_id _)
  have := h b hb
  simp [UInt8.toNat_ofNat']
  omega
theorem byL_app (a b : ByteArray) : byL (a ++ b) = byL a ++ byL b := by
  unfold byL
  rw [ByteArray.data_append]
  simp
theorem bt_byL {s : ByteArray} {k x : Nat} (h : (byL s)[k]? = some x) : bt s (k : Int) = (x : Int) := by
  have hk := (List.getElem?_eq_some_iff.1 h).1
  rw [byL_len] at hk
  rw [bt_nat hk]
  unfold byL at h
  rw [List.getElem?_map, List.getElem?_eq_getElem (by simpa using hk)] at h
  simp at h
  rw [← h]
  rfl
end Go.Proofs.Ytdcjjoihlnjpnaa.G
