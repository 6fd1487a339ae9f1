/-
  No cell of these rows narrows 'for every input' (looked for: loops, veiled, ifaces, maps, wideKeys, modest, calm, conditions, laid).
  DERIVED. THE GIVEN ROWS OF THIS SEAT. 4 by the template 'for every input the law returns true; each argument reads behind the call as it read before'; 0 by the template 'total and deterministic' (their statements: YtdcjjoihlnjpnaaTotals.lean).
  GIVEN WITH THE SEED: the statements are not yours to turn. If you find one false, say at which input.
  Laid BY PROGRAM, IN A SANDBOX (cutbox-rows.mjs): the forced cells as the released guide's own fill.sh prints them over the translation 780d1a43b7b5d37e… (all of the seat's roots in one cut). By AI agents, Wed Nov 11 2026. No macro, syntax, notation, axiom, sorry.
-/
import Derived.Test.YtdcjjoihlnjpnaaChecked
import GoSem.Claim
import GoSem.ClaimJoined
import GoSem.ClaimMapViews
import Derived.JoinedTies
import Derived.KernelRfl
namespace Go.Proofs.Ytdcjjoihlnjpnaa
/- THE CELL 'sum', in the pinned program and in every row, IS THE sha256 OF THE DUMP (.gsa) THAT YtdcjjoihlnjpnaaProg.lean LOADS. Nothing in Lean hashes anything: it is a label: what it is worth is what the hold of that sum in a sandbox is worth. -/
noncomputable def Try.pinned : Pinned := { name := "ytdcjjoihlnjpnaa", sum := "780d1a43b7b5d37eb6094aa7035ecf6bc5af7a3ca18d83177b0e90c524cba4fe", checked := Try.checked }
namespace Rows
def none {H : Type} : Left H := { results := [], args := [] }

/-- 'mosaiclaw19.CutsEach': WHATEVER THE INPUT: true; the input reads as it did. -/
def cutsEachSpec : ChangeSpec := { name := "cutsEach", fn := fun _ => fun
  | [d1, d2, d3] => { results := [.lit (.bool true)], args := [d1, d2, d3] }
  | _ => none }
def cutsEachRow : OpenClaim := { program := "ytdcjjoihlnjpnaa", sum := "780d1a43b7b5d37eb6094aa7035ecf6bc5af7a3ca18d83177b0e90c524cba4fe", func := "mosaic/mosaiclaw19.CutsEach", spec := "cutsEach", inPlace := ["internal/bytealg.IndexByteString"], unfollowed := true, recurses := true, apart := false }
def CutsEachSaid : Prop := cutsEachRow.holds Try.pinned (OpenSpec.ofChange cutsEachSpec)

/-- ITS FALSE NEIGHBOUR: 'it returns false'. Refute it at one input. -/
def cutsEachWrong : ChangeSpec := { name := "cutsEach", fn := fun _ => fun
  | [d1, d2, d3] => { results := [.lit (.bool false)], args := [d1, d2, d3] }
  | _ => none }
def CutsEachWrongFalsely : Prop := cutsEachRow.holds Try.pinned (OpenSpec.ofChange cutsEachWrong)

/-- 'mosaiclaw19.CutsPieces': WHATEVER THE INPUT: true; the input reads as it did. -/
def cutsPiecesSpec : ChangeSpec := { name := "cutsPieces", fn := fun _ => fun
  | [d1, d2, d3, d4] => { results := [.lit (.bool true)], args := [d1, d2, d3, d4] }
  | _ => none }
def cutsPiecesRow : OpenClaim := { program := "ytdcjjoihlnjpnaa", sum := "780d1a43b7b5d37eb6094aa7035ecf6bc5af7a3ca18d83177b0e90c524cba4fe", func := "mosaic/mosaiclaw19.CutsPieces", spec := "cutsPieces", inPlace := ["internal/bytealg.IndexByteString"], unfollowed := true, recurses := true, apart := false }
def CutsPiecesSaid : Prop := cutsPiecesRow.holds Try.pinned (OpenSpec.ofChange cutsPiecesSpec)

/-- ITS FALSE NEIGHBOUR: 'it returns false'. Refute it at one input. -/
def cutsPiecesWrong : ChangeSpec := { name := "cutsPieces", fn := fun _ => fun
  | [d1, d2, d3, d4] => { results := [.lit (.bool false)], args := [d1, d2, d3, d4] }
  | _ => none }
def CutsPiecesWrongFalsely : Prop := cutsPiecesRow.holds Try.pinned (OpenSpec.ofChange cutsPiecesWrong)

/-- 'mosaiclaw19.CutsMade': WHATEVER THE INPUT: true; the input reads as it did. -/
def cutsMadeSpec : ChangeSpec := { name := "cutsMade", fn := fun _ => fun
  | [d1, d2, d3, d4, d5] => { results := [.lit (.bool true)], args := [d1, d2, d3, d4, d5] }
  | _ => none }
def cutsMadeRow : OpenClaim := { program := "ytdcjjoihlnjpnaa", sum := "780d1a43b7b5d37eb6094aa7035ecf6bc5af7a3ca18d83177b0e90c524cba4fe", func := "mosaic/mosaiclaw19.CutsMade", spec := "cutsMade", inPlace := ["internal/bytealg.IndexByteString"], unfollowed := true, recurses := true, apart := false }
def CutsMadeSaid : Prop := cutsMadeRow.holds Try.pinned (OpenSpec.ofChange cutsMadeSpec)

/-- ITS FALSE NEIGHBOUR: 'it returns false'. Refute it at one input. -/
def cutsMadeWrong : ChangeSpec := { name := "cutsMade", fn := fun _ => fun
  | [d1, d2, d3, d4, d5] => { results := [.lit (.bool false)], args := [d1, d2, d3, d4, d5] }
  | _ => none }
def CutsMadeWrongFalsely : Prop := cutsMadeRow.holds Try.pinned (OpenSpec.ofChange cutsMadeWrong)

/-- 'mosaiclaw19.CutsCover': WHATEVER THE INPUT: true; the input reads as it did. -/
def cutsCoverSpec : ChangeSpec := { name := "cutsCover", fn := fun _ => fun
  | [d1, d2] => { results := [.lit (.bool true)], args := [d1, d2] }
  | _ => none }
def cutsCoverRow : OpenClaim := { program := "ytdcjjoihlnjpnaa", sum := "780d1a43b7b5d37eb6094aa7035ecf6bc5af7a3ca18d83177b0e90c524cba4fe", func := "mosaic/mosaiclaw19.CutsCover", spec := "cutsCover", inPlace := ["internal/bytealg.IndexByteString"], unfollowed := true, recurses := true, apart := false }
def CutsCoverSaid : Prop := cutsCoverRow.holds Try.pinned (OpenSpec.ofChange cutsCoverSpec)

/-- ITS FALSE NEIGHBOUR: 'it returns false'. Refute it at one input. -/
def cutsCoverWrong : ChangeSpec := { name := "cutsCover", fn := fun _ => fun
  | [d1, d2] => { results := [.lit (.bool false)], args := [d1, d2] }
  | _ => none }
def CutsCoverWrongFalsely : Prop := cutsCoverRow.holds Try.pinned (OpenSpec.ofChange cutsCoverWrong)

/- THE SECOND FORM. 'bulk': how many values and letters a reading holds, each counted each time it is reached (what is shared counts as often as it is met; a slice's spare places count too). A statement '..UptoSaid' is the law's where the arguments, and the package variables that the reading takes, are together of bulk at most 1048576: NARROWER than '..Said'. Prove '..Said' where nothing that the law and all that it calls make is longer than what came in: it says more and counts as full. Else prove '..UptoSaid'. A law counts once. -/
mutual
def uptoBulk {H : Type} : DataW H → Nat
  | .lit (.string bytes) => bytes.length + 1
  | .lit _ => 1
  | .nil => 1
  | .ptr d => uptoBulk d + 1
  | .slice elems spare => uptoBulkAll elems + uptoBulkAll spare + 1
  | .agg parts => uptoBulkAll parts + 1
  | .iface _ d => uptoBulk d + 1
  | .map entries => uptoBulkEntries entries + 1
  | .held _ => 1
def uptoBulkAll {H : Type} : List (DataW H) → Nat
  | [] => 0
  | d :: r => uptoBulk d + uptoBulkAll r
def uptoBulkEntries {H : Type} : List (Lit × DataW H) → Nat
  | [] => 0
  | x :: r => uptoBulkEntry x + uptoBulkEntries r
def uptoBulkEntry {H : Type} : Lit × DataW H → Nat
  | (.string bytes, d) => bytes.length + uptoBulk d + 1
  | (_, d) => uptoBulk d + 1
 end
def uptoSmall : (H : Type) → List (DataW H) → Bool := fun _ ds => decide (uptoBulkAll ds ≤ 1048576)
def OpenSpec.upto (s : _root_.Go.ChangeSpec) : _root_.Go.OpenSpec := { _root_.Go.OpenSpec.ofChange s with cond := some uptoSmall }

/-- 'mosaiclaw19.CutsEach', WHERE WHAT IT READS IS OF BULK AT MOST 1048576: true; the input reads as it did. -/
def cutsEachUptoRow : OpenClaim := { program := "ytdcjjoihlnjpnaa", sum := "780d1a43b7b5d37eb6094aa7035ecf6bc5af7a3ca18d83177b0e90c524cba4fe", func := "mosaic/mosaiclaw19.CutsEach", spec := "cutsEach", inPlace := ["internal/bytealg.IndexByteString"], unfollowed := true, recurses := true, apart := false, narrowed := true }
def CutsEachUptoSaid : Prop := cutsEachUptoRow.holds Try.pinned (OpenSpec.upto cutsEachSpec)

/-- 'mosaiclaw19.CutsPieces', WHERE WHAT IT READS IS OF BULK AT MOST 1048576: true; the input reads as it did. -/
def cutsPiecesUptoRow : OpenClaim := { program := "ytdcjjoihlnjpnaa", sum := "780d1a43b7b5d37eb6094aa7035ecf6bc5af7a3ca18d83177b0e90c524cba4fe", func := "mosaic/mosaiclaw19.CutsPieces", spec := "cutsPieces", inPlace := ["internal/bytealg.IndexByteString"], unfollowed := true, recurses := true, apart := false, narrowed := true }
def CutsPiecesUptoSaid : Prop := cutsPiecesUptoRow.holds Try.pinned (OpenSpec.upto cutsPiecesSpec)

/-- 'mosaiclaw19.CutsMade', WHERE WHAT IT READS IS OF BULK AT MOST 1048576: true; the input reads as it did. -/
def cutsMadeUptoRow : OpenClaim := { program := "ytdcjjoihlnjpnaa", sum := "780d1a43b7b5d37eb6094aa7035ecf6bc5af7a3ca18d83177b0e90c524cba4fe", func := "mosaic/mosaiclaw19.CutsMade", spec := "cutsMade", inPlace := ["internal/bytealg.IndexByteString"], unfollowed := true, recurses := true, apart := false, narrowed := true }
def CutsMadeUptoSaid : Prop := cutsMadeUptoRow.holds Try.pinned (OpenSpec.upto cutsMadeSpec)

/-- 'mosaiclaw19.CutsCover', WHERE WHAT IT READS IS OF BULK AT MOST 1048576: true; the input reads as it did. -/
def cutsCoverUptoRow : OpenClaim := { program := "ytdcjjoihlnjpnaa", sum := "780d1a43b7b5d37eb6094aa7035ecf6bc5af7a3ca18d83177b0e90c524cba4fe", func := "mosaic/mosaiclaw19.CutsCover", spec := "cutsCover", inPlace := ["internal/bytealg.IndexByteString"], unfollowed := true, recurses := true, apart := false, narrowed := true }
def CutsCoverUptoSaid : Prop := cutsCoverUptoRow.holds Try.pinned (OpenSpec.upto cutsCoverSpec)

end Rows
end Go.Proofs.Ytdcjjoihlnjpnaa
