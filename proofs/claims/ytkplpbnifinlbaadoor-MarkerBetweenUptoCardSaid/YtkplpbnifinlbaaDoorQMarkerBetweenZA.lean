/- Of this text what the row needs. -/
import Derived.Test.YtkplpbnifinlbaaDoorQMarkerBetweenGM
import Derived.Test.YtkplpbnifinlbaaDoorQMarkerBetweenGP
namespace Go.Proofs.YtkplpbnifinlbaaDoor.G
open Go.RowKit
set_option linter.unusedVariables false
set_option linter.unusedSimpArgs false
section
variable {H : Hp} {b o : Nat} {T : TypeId} {cs : List Value}
theorem ldS_a {v : ByteArray} {K : ByteArray → Prop} (h : Bk H b T cs) (hv : cs[o]? = some (.string v)) (hK : K v) : ldS H ((⟨b, 0, none⟩ : Addr).add o) K := by rw [add_mk, Nat.zero_add]; exact ldS_i h hv hK
end
theorem gand {k : IntKind} {x y : Nat} (hx : x < 2 ^ k.bits) (hy : y < 2 ^ k.bits) (hw : IntKind.wrap k ((x &&& y : Nat) : Int) = ((x &&& y : Nat) : Int)) : Go.bits .and k (x : Int) (y : Int) = ((x &&& y : Nat) : Int) := by
  show IntKind.wrap k ((BitVec.ofInt k.bits (x : Int) &&& BitVec.ofInt k.bits (y : Int)).toNat : Int) = _
  rw [BitVec.toNat_and, BitVec.ofInt_natCast, BitVec.ofInt_natCast, BitVec.toNat_ofNat, BitVec.toNat_ofNat, Nat.mod_eq_of_lt hx, Nat.mod_eq_of_lt hy]
  exact hw
theorem wu8n {x : Nat} (h : x < 256) : IntKind.wrap .u8 (x : Int) = (x : Int) := wu8 (by omega)
theorem w64n {x : Nat} (h : x ≤ 9223372036854775807) : IntKind.wrap .i64 (x : Int) = (x : Int) := w64 (by omega)
theorem shrn {k : IntKind} {x n : Nat} (hn : n ≤ k.bits) : shrI k (x : Int) (n : Int) = ((x / 2 ^ n : Nat) : Int) := by
  unfold shrI
  rw [Int.toNat_natCast, Nat.min_eq_left hn, show (x : Int) / 2 ^ n = ((x / 2 ^ n : Nat) : Int) from by push_cast; rfl]
end Go.Proofs.YtkplpbnifinlbaaDoor.G
