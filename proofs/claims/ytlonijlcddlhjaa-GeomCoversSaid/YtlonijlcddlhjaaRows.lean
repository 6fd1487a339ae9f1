/-
  No cell of these rows narrows 'for every input' (looked for: loops, veiled, ifaces, maps, wideKeys, modest, calm, conditions, laid).
  DERIVED. THE GIVEN ROWS OF THIS SEAT. 6 by the template 'for every input the law returns true; each argument reads behind the call as it read before'; 0 by the template 'total and deterministic' (their statements: YtlonijlcddlhjaaTotals.lean).
  GIVEN WITH THE SEED: the statements are not yours to turn. If you find one false, say at which input.
  Laid BY PROGRAM, IN A SANDBOX (cutbox-rows.mjs): the forced cells as the released guide's own fill.sh prints them over the translation da64297f7ed559c7… (all of the seat's roots in one cut). By AI agents, Wed Nov 11 2026. No macro, syntax, notation, axiom, sorry.
-/
import Derived.Test.YtlonijlcddlhjaaChecked
import GoSem.Claim
import GoSem.ClaimJoined
import GoSem.ClaimMapViews
import Derived.JoinedTies
import Derived.KernelRfl
namespace Go.Proofs.Ytlonijlcddlhjaa
/- THE CELL 'sum', in the pinned program and in every row, IS THE sha256 OF THE DUMP (.gsa) THAT YtlonijlcddlhjaaProg.lean LOADS. Nothing in Lean hashes anything: it is a label: what it is worth is what the hold of that sum in a sandbox is worth. -/
noncomputable def Try.pinned : Pinned := { name := "ytlonijlcddlhjaa", sum := "da64297f7ed559c75f4ec031067456694a3578b9cab104a132aa96a884df5346", checked := Try.checked }
namespace Rows
def none {H : Type} : Left H := { results := [], args := [] }

/-- 'mosaiclaw14.GeomNames': WHATEVER THE INPUT: true; the input reads as it did. -/
def geomNamesSpec : ChangeSpec := { name := "geomNames", fn := fun _ => fun
  | [] => { results := [.lit (.bool true)], args := [] }
  | _ => none }
def geomNamesRow : OpenClaim := { program := "ytlonijlcddlhjaa", sum := "da64297f7ed559c75f4ec031067456694a3578b9cab104a132aa96a884df5346", func := "mosaic/mosaiclaw14.GeomNames", spec := "geomNames", apart := false }
def GeomNamesSaid : Prop := geomNamesRow.holds Try.pinned (OpenSpec.ofChange geomNamesSpec)

/-- ITS FALSE NEIGHBOUR: 'it returns false'. Refute it at one input. -/
def geomNamesWrong : ChangeSpec := { name := "geomNames", fn := fun _ => fun
  | [] => { results := [.lit (.bool false)], args := [] }
  | _ => none }
def GeomNamesWrongFalsely : Prop := geomNamesRow.holds Try.pinned (OpenSpec.ofChange geomNamesWrong)

/-- 'mosaiclaw14.GeomSays': WHATEVER THE INPUT: true; the input reads as it did. -/
def geomSaysSpec : ChangeSpec := { name := "geomSays", fn := fun _ => fun
  | [d1, d2, d3, d4] => { results := [.lit (.bool true)], args := [d1, d2, d3, d4] }
  | _ => none }
def geomSaysRow : OpenClaim := { program := "ytlonijlcddlhjaa", sum := "da64297f7ed559c75f4ec031067456694a3578b9cab104a132aa96a884df5346", func := "mosaic/mosaiclaw14.GeomSays", spec := "geomSays", apart := false }
def GeomSaysSaid : Prop := geomSaysRow.holds Try.pinned (OpenSpec.ofChange geomSaysSpec)

/-- ITS FALSE NEIGHBOUR: 'it returns false'. Refute it at one input. -/
def geomSaysWrong : ChangeSpec := { name := "geomSays", fn := fun _ => fun
  | [d1, d2, d3, d4] => { results := [.lit (.bool false)], args := [d1, d2, d3, d4] }
  | _ => none }
def GeomSaysWrongFalsely : Prop := geomSaysRow.holds Try.pinned (OpenSpec.ofChange geomSaysWrong)

/-- 'mosaiclaw14.GeomWalk': WHATEVER THE INPUT: true; the input reads as it did. -/
def geomWalkSpec : ChangeSpec := { name := "geomWalk", fn := fun _ => fun
  | [d] => { results := [.lit (.bool true)], args := [d] }
  | _ => none }
def geomWalkRow : OpenClaim := { program := "ytlonijlcddlhjaa", sum := "da64297f7ed559c75f4ec031067456694a3578b9cab104a132aa96a884df5346", func := "mosaic/mosaiclaw14.GeomWalk", spec := "geomWalk", unfollowed := true, recurses := true, apart := false }
def GeomWalkSaid : Prop := geomWalkRow.holds Try.pinned (OpenSpec.ofChange geomWalkSpec)

/-- ITS FALSE NEIGHBOUR: 'it returns false'. Refute it at one input. -/
def geomWalkWrong : ChangeSpec := { name := "geomWalk", fn := fun _ => fun
  | [d] => { results := [.lit (.bool false)], args := [d] }
  | _ => none }
def GeomWalkWrongFalsely : Prop := geomWalkRow.holds Try.pinned (OpenSpec.ofChange geomWalkWrong)

/-- 'mosaiclaw14.GeomCovers': WHATEVER THE INPUT: true; the input reads as it did. -/
def geomCoversSpec : ChangeSpec := { name := "geomCovers", fn := fun _ => fun
  | [d1, d2] => { results := [.lit (.bool true)], args := [d1, d2] }
  | _ => none }
def geomCoversRow : OpenClaim := { program := "ytlonijlcddlhjaa", sum := "da64297f7ed559c75f4ec031067456694a3578b9cab104a132aa96a884df5346", func := "mosaic/mosaiclaw14.GeomCovers", spec := "geomCovers", unfollowed := true, recurses := true, apart := false }
def GeomCoversSaid : Prop := geomCoversRow.holds Try.pinned (OpenSpec.ofChange geomCoversSpec)

/-- ITS FALSE NEIGHBOUR: 'it returns false'. Refute it at one input. -/
def geomCoversWrong : ChangeSpec := { name := "geomCovers", fn := fun _ => fun
  | [d1, d2] => { results := [.lit (.bool false)], args := [d1, d2] }
  | _ => none }
def GeomCoversWrongFalsely : Prop := geomCoversRow.holds Try.pinned (OpenSpec.ofChange geomCoversWrong)

/-- 'mosaiclaw14.GeomSizes': WHATEVER THE INPUT: true; the input reads as it did. -/
def geomSizesSpec : ChangeSpec := { name := "geomSizes", fn := fun _ => fun
  | [d1, d2] => { results := [.lit (.bool true)], args := [d1, d2] }
  | _ => none }
def geomSizesRow : OpenClaim := { program := "ytlonijlcddlhjaa", sum := "da64297f7ed559c75f4ec031067456694a3578b9cab104a132aa96a884df5346", func := "mosaic/mosaiclaw14.GeomSizes", spec := "geomSizes", unfollowed := true, recurses := true, apart := false }
def GeomSizesSaid : Prop := geomSizesRow.holds Try.pinned (OpenSpec.ofChange geomSizesSpec)

/-- ITS FALSE NEIGHBOUR: 'it returns false'. Refute it at one input. -/
def geomSizesWrong : ChangeSpec := { name := "geomSizes", fn := fun _ => fun
  | [d1, d2] => { results := [.lit (.bool false)], args := [d1, d2] }
  | _ => none }
def GeomSizesWrongFalsely : Prop := geomSizesRow.holds Try.pinned (OpenSpec.ofChange geomSizesWrong)

/-- 'mosaiclaw14.GeomSplits': WHATEVER THE INPUT: true; the input reads as it did. -/
def geomSplitsSpec : ChangeSpec := { name := "geomSplits", fn := fun _ => fun
  | [d1, d2, d3] => { results := [.lit (.bool true)], args := [d1, d2, d3] }
  | _ => none }
def geomSplitsRow : OpenClaim := { program := "ytlonijlcddlhjaa", sum := "da64297f7ed559c75f4ec031067456694a3578b9cab104a132aa96a884df5346", func := "mosaic/mosaiclaw14.GeomSplits", spec := "geomSplits", unfollowed := true, recurses := true, apart := false }
def GeomSplitsSaid : Prop := geomSplitsRow.holds Try.pinned (OpenSpec.ofChange geomSplitsSpec)

/-- ITS FALSE NEIGHBOUR: 'it returns false'. Refute it at one input. -/
def geomSplitsWrong : ChangeSpec := { name := "geomSplits", fn := fun _ => fun
  | [d1, d2, d3] => { results := [.lit (.bool false)], args := [d1, d2, d3] }
  | _ => none }
def GeomSplitsWrongFalsely : Prop := geomSplitsRow.holds Try.pinned (OpenSpec.ofChange geomSplitsWrong)

/- THE SECOND FORM. 'bulk': how many values and letters a reading holds, each counted each time it is reached (what is shared counts as often as it is met; a slice's spare places count too). A statement '..UptoSaid' is the law's where the arguments, and the package variables that the reading takes, are together of bulk at most 1048576: NARROWER than '..Said'. Prove '..Said' where nothing that the law and all that it calls make is longer than what came in: it says more and counts as full. Else prove '..UptoSaid'. A law counts once. -/
mutual
def uptoBulk {H : Type} : DataW H → Nat
  | .lit (.string bytes) => bytes.length + 1
  | .lit _ => 1
  | .nil => 1
  | .ptr d => uptoBulk d + 1
  | .slice elems spare => uptoBulkAll elems + uptoBulkAll spare + 1
  | .agg parts => uptoBulkAll parts + 1
  | .iface _ d => uptoBulk d + 1
  | .map entries => uptoBulkEntries entries + 1
  | .held _ => 1
def uptoBulkAll {H : Type} : List (DataW H) → Nat
  | [] => 0
  | d :: r => uptoBulk d + uptoBulkAll r
def uptoBulkEntries {H : Type} : List (Lit × DataW H) → Nat
  | [] => 0
  | x :: r => uptoBulkEntry x + uptoBulkEntries r
def uptoBulkEntry {H : Type} : Lit × DataW H → Nat
  | (.string bytes, d) => bytes.length + uptoBulk d + 1
  | (_, d) => uptoBulk d + 1
 end
def uptoSmall : (H : Type) → List (DataW H) → Bool := fun _ ds => decide (uptoBulkAll ds ≤ 1048576)
def OpenSpec.upto (s : _root_.Go.ChangeSpec) : _root_.Go.OpenSpec := { _root_.Go.OpenSpec.ofChange s with cond := some uptoSmall }

/-- 'mosaiclaw14.GeomNames', WHERE WHAT IT READS IS OF BULK AT MOST 1048576: true; the input reads as it did. -/
def geomNamesUptoRow : OpenClaim := { program := "ytlonijlcddlhjaa", sum := "da64297f7ed559c75f4ec031067456694a3578b9cab104a132aa96a884df5346", func := "mosaic/mosaiclaw14.GeomNames", spec := "geomNames", apart := false, narrowed := true }
def GeomNamesUptoSaid : Prop := geomNamesUptoRow.holds Try.pinned (OpenSpec.upto geomNamesSpec)

/-- 'mosaiclaw14.GeomSays', WHERE WHAT IT READS IS OF BULK AT MOST 1048576: true; the input reads as it did. -/
def geomSaysUptoRow : OpenClaim := { program := "ytlonijlcddlhjaa", sum := "da64297f7ed559c75f4ec031067456694a3578b9cab104a132aa96a884df5346", func := "mosaic/mosaiclaw14.GeomSays", spec := "geomSays", apart := false, narrowed := true }
def GeomSaysUptoSaid : Prop := geomSaysUptoRow.holds Try.pinned (OpenSpec.upto geomSaysSpec)

/-- 'mosaiclaw14.GeomWalk', WHERE WHAT IT READS IS OF BULK AT MOST 1048576: true; the input reads as it did. -/
def geomWalkUptoRow : OpenClaim := { program := "ytlonijlcddlhjaa", sum := "da64297f7ed559c75f4ec031067456694a3578b9cab104a132aa96a884df5346", func := "mosaic/mosaiclaw14.GeomWalk", spec := "geomWalk", unfollowed := true, recurses := true, apart := false, narrowed := true }
def GeomWalkUptoSaid : Prop := geomWalkUptoRow.holds Try.pinned (OpenSpec.upto geomWalkSpec)

/-- 'mosaiclaw14.GeomCovers', WHERE WHAT IT READS IS OF BULK AT MOST 1048576: true; the input reads as it did. -/
def geomCoversUptoRow : OpenClaim := { program := "ytlonijlcddlhjaa", sum := "da64297f7ed559c75f4ec031067456694a3578b9cab104a132aa96a884df5346", func := "mosaic/mosaiclaw14.GeomCovers", spec := "geomCovers", unfollowed := true, recurses := true, apart := false, narrowed := true }
def GeomCoversUptoSaid : Prop := geomCoversUptoRow.holds Try.pinned (OpenSpec.upto geomCoversSpec)

/-- 'mosaiclaw14.GeomSizes', WHERE WHAT IT READS IS OF BULK AT MOST 1048576: true; the input reads as it did. -/
def geomSizesUptoRow : OpenClaim := { program := "ytlonijlcddlhjaa", sum := "da64297f7ed559c75f4ec031067456694a3578b9cab104a132aa96a884df5346", func := "mosaic/mosaiclaw14.GeomSizes", spec := "geomSizes", unfollowed := true, recurses := true, apart := false, narrowed := true }
def GeomSizesUptoSaid : Prop := geomSizesUptoRow.holds Try.pinned (OpenSpec.upto geomSizesSpec)

/-- 'mosaiclaw14.GeomSplits', WHERE WHAT IT READS IS OF BULK AT MOST 1048576: true; the input reads as it did. -/
def geomSplitsUptoRow : OpenClaim := { program := "ytlonijlcddlhjaa", sum := "da64297f7ed559c75f4ec031067456694a3578b9cab104a132aa96a884df5346", func := "mosaic/mosaiclaw14.GeomSplits", spec := "geomSplits", unfollowed := true, recurses := true, apart := false, narrowed := true }
def GeomSplitsUptoSaid : Prop := geomSplitsUptoRow.holds Try.pinned (OpenSpec.upto geomSplitsSpec)

end Rows
end Go.Proofs.Ytlonijlcddlhjaa
