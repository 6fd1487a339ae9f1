/-
  No cell of these rows narrows 'for every input' (looked for: loops, veiled, ifaces, maps, wideKeys, modest, calm, conditions, laid).
  DERIVED. THE GIVEN ROWS OF THIS SEAT. 3 by the template 'for every input the law returns true; each argument reads behind the call as it read before'; 0 by the template 'total and deterministic' (their statements: YtkplpbnifinlbaaTotals.lean).
  GIVEN WITH THE SEED: the statements are not yours to turn. If you find one false, say at which input.
  Laid BY PROGRAM, IN A SANDBOX (cutbox-rows.mjs): the forced cells as the released guide's own fill.sh prints them over the translation 533cfda1fe06dd0b… (all of the seat's roots in one cut). By AI agents, Wed Nov 11 2026. No macro, syntax, notation, axiom, sorry.
-/
import Derived.Test.YtkplpbnifinlbaaChecked
import GoSem.Claim
import GoSem.ClaimJoined
import GoSem.ClaimMapViews
import Derived.JoinedTies
import Derived.KernelRfl
namespace Go.Proofs.Ytkplpbnifinlbaa
/- THE CELL 'sum', in the pinned program and in every row, IS THE sha256 OF THE DUMP (.gsa) THAT YtkplpbnifinlbaaProg.lean LOADS. Nothing in Lean hashes anything: it is a label: what it is worth is what the hold of that sum in a sandbox is worth. -/
noncomputable def Try.pinned : Pinned := { name := "ytkplpbnifinlbaa", sum := "533cfda1fe06dd0b707b1713b7d3efd1634646b74dc8d0b87f8629fd213780b7", checked := Try.checked }
namespace Rows
def none {H : Type} : Left H := { results := [], args := [] }

/-- 'mosaiclaw02.MarkerNames': WHATEVER THE INPUT: true; the input reads as it did. -/
def markerNamesSpec : ChangeSpec := { name := "markerNames", fn := fun _ => fun
  | [] => { results := [.lit (.bool true)], args := [] }
  | _ => none }
def markerNamesRow : OpenClaim := { program := "ytkplpbnifinlbaa", sum := "533cfda1fe06dd0b707b1713b7d3efd1634646b74dc8d0b87f8629fd213780b7", func := "mosaic/mosaiclaw02.MarkerNames", spec := "markerNames", inPlace := ["internal/bytealg.IndexByteString"], apart := false }
def MarkerNamesSaid : Prop := markerNamesRow.holds Try.pinned (OpenSpec.ofChange markerNamesSpec)

/-- ITS FALSE NEIGHBOUR: 'it returns false'. Refute it at one input. -/
def markerNamesWrong : ChangeSpec := { name := "markerNames", fn := fun _ => fun
  | [] => { results := [.lit (.bool false)], args := [] }
  | _ => none }
def MarkerNamesWrongFalsely : Prop := markerNamesRow.holds Try.pinned (OpenSpec.ofChange markerNamesWrong)

/-- 'mosaiclaw02.MarkerNext': WHATEVER THE INPUT: true; the input reads as it did. -/
def markerNextSpec : ChangeSpec := { name := "markerNext", fn := fun _ => fun
  | [d1, d2] => { results := [.lit (.bool true)], args := [d1, d2] }
  | _ => none }
def markerNextRow : OpenClaim := { program := "ytkplpbnifinlbaa", sum := "533cfda1fe06dd0b707b1713b7d3efd1634646b74dc8d0b87f8629fd213780b7", func := "mosaic/mosaiclaw02.MarkerNext", spec := "markerNext", inPlace := ["internal/bytealg.IndexByteString"], apart := false }
def MarkerNextSaid : Prop := markerNextRow.holds Try.pinned (OpenSpec.ofChange markerNextSpec)

/-- ITS FALSE NEIGHBOUR: 'it returns false'. Refute it at one input. -/
def markerNextWrong : ChangeSpec := { name := "markerNext", fn := fun _ => fun
  | [d1, d2] => { results := [.lit (.bool false)], args := [d1, d2] }
  | _ => none }
def MarkerNextWrongFalsely : Prop := markerNextRow.holds Try.pinned (OpenSpec.ofChange markerNextWrong)

/-- 'mosaiclaw02.MarkerAll': WHATEVER THE INPUT: true; the input reads as it did. -/
def markerAllSpec : ChangeSpec := { name := "markerAll", fn := fun _ => fun
  | [d1, d2] => { results := [.lit (.bool true)], args := [d1, d2] }
  | _ => none }
def markerAllRow : OpenClaim := { program := "ytkplpbnifinlbaa", sum := "533cfda1fe06dd0b707b1713b7d3efd1634646b74dc8d0b87f8629fd213780b7", func := "mosaic/mosaiclaw02.MarkerAll", spec := "markerAll", inPlace := ["internal/bytealg.IndexByteString"], unfollowed := true, recurses := true, apart := false }
def MarkerAllSaid : Prop := markerAllRow.holds Try.pinned (OpenSpec.ofChange markerAllSpec)

/-- ITS FALSE NEIGHBOUR: 'it returns false'. Refute it at one input. -/
def markerAllWrong : ChangeSpec := { name := "markerAll", fn := fun _ => fun
  | [d1, d2] => { results := [.lit (.bool false)], args := [d1, d2] }
  | _ => none }
def MarkerAllWrongFalsely : Prop := markerAllRow.holds Try.pinned (OpenSpec.ofChange markerAllWrong)

/- THE SECOND FORM. 'bulk': how many values and letters a reading holds, each counted each time it is reached (what is shared counts as often as it is met; a slice's spare places count too). A statement '..UptoSaid' is the law's where the arguments, and the package variables that the reading takes, are together of bulk at most 1048576: NARROWER than '..Said'. Prove '..Said' where nothing that the law and all that it calls make is longer than what came in: it says more and counts as full. Else prove '..UptoSaid'. A law counts once. -/
mutual
def uptoBulk {H : Type} : DataW H → Nat
  | .lit (.string bytes) => bytes.length + 1
  | .lit _ => 1
  | .nil => 1
  | .ptr d => uptoBulk d + 1
  | .slice elems spare => uptoBulkAll elems + uptoBulkAll spare + 1
  | .agg parts => uptoBulkAll parts + 1
  | .iface _ d => uptoBulk d + 1
  | .map entries => uptoBulkEntries entries + 1
  | .held _ => 1
def uptoBulkAll {H : Type} : List (DataW H) → Nat
  | [] => 0
  | d :: r => uptoBulk d + uptoBulkAll r
def uptoBulkEntries {H : Type} : List (Lit × DataW H) → Nat
  | [] => 0
  | x :: r => uptoBulkEntry x + uptoBulkEntries r
def uptoBulkEntry {H : Type} : Lit × DataW H → Nat
  | (.string bytes, d) => bytes.length + uptoBulk d + 1
  | (_, d) => uptoBulk d + 1
 end
def uptoSmall : (H : Type) → List (DataW H) → Bool := fun _ ds => decide (uptoBulkAll ds ≤ 1048576)
def OpenSpec.upto (s : _root_.Go.ChangeSpec) : _root_.Go.OpenSpec := { _root_.Go.OpenSpec.ofChange s with cond := some uptoSmall }

/-- 'mosaiclaw02.MarkerNames', WHERE WHAT IT READS IS OF BULK AT MOST 1048576: true; the input reads as it did. -/
def markerNamesUptoRow : OpenClaim := { program := "ytkplpbnifinlbaa", sum := "533cfda1fe06dd0b707b1713b7d3efd1634646b74dc8d0b87f8629fd213780b7", func := "mosaic/mosaiclaw02.MarkerNames", spec := "markerNames", inPlace := ["internal/bytealg.IndexByteString"], apart := false, narrowed := true }
def MarkerNamesUptoSaid : Prop := markerNamesUptoRow.holds Try.pinned (OpenSpec.upto markerNamesSpec)

/-- 'mosaiclaw02.MarkerNext', WHERE WHAT IT READS IS OF BULK AT MOST 1048576: true; the input reads as it did. -/
def markerNextUptoRow : OpenClaim := { program := "ytkplpbnifinlbaa", sum := "533cfda1fe06dd0b707b1713b7d3efd1634646b74dc8d0b87f8629fd213780b7", func := "mosaic/mosaiclaw02.MarkerNext", spec := "markerNext", inPlace := ["internal/bytealg.IndexByteString"], apart := false, narrowed := true }
def MarkerNextUptoSaid : Prop := markerNextUptoRow.holds Try.pinned (OpenSpec.upto markerNextSpec)

/-- 'mosaiclaw02.MarkerAll', WHERE WHAT IT READS IS OF BULK AT MOST 1048576: true; the input reads as it did. -/
def markerAllUptoRow : OpenClaim := { program := "ytkplpbnifinlbaa", sum := "533cfda1fe06dd0b707b1713b7d3efd1634646b74dc8d0b87f8629fd213780b7", func := "mosaic/mosaiclaw02.MarkerAll", spec := "markerAll", inPlace := ["internal/bytealg.IndexByteString"], unfollowed := true, recurses := true, apart := false, narrowed := true }
def MarkerAllUptoSaid : Prop := markerAllUptoRow.holds Try.pinned (OpenSpec.upto markerAllSpec)

end Rows
end Go.Proofs.Ytkplpbnifinlbaa
