/- Of this text what the row needs. -/
import Derived.Test.YtkplpbnifinlbaaDoorQMarkerCodesGM
import Derived.Test.YtkplpbnifinlbaaDoorQMarkerCodesGP
namespace Go.Proofs.YtkplpbnifinlbaaDoor.G
open Go.RowKit
set_option linter.unusedVariables false
set_option linter.unusedSimpArgs false
theorem ldI_of {k : IntKind} {H : Hp} {p : Addr} {cs : List Value} {j : Nat} {v : Int} {K : Int → Prop} (h : ldA H p cs) (hv : cs[j]? = some (.int k v)) (hK : K v) : ldI k H (p.add j) K := ⟨v, h.2 j _ hv, hK⟩
end Go.Proofs.YtkplpbnifinlbaaDoor.G
