/-
  No cell of these rows narrows 'for every input' (looked for: loops, veiled, ifaces, maps, wideKeys, modest, calm, conditions, laid).
  DERIVED. THE GIVEN ROWS OF THIS SEAT. 7 by the template 'for every input the law returns true; each argument reads behind the call as it read before'; 0 by the template 'total and deterministic' (their statements: YthblohaffipkhaaTotals.lean).
  GIVEN WITH THE SEED: the statements are not yours to turn. If you find one false, say at which input.
  Laid BY PROGRAM, IN A SANDBOX (cutbox-rows.mjs): the forced cells as the released guide's own fill.sh prints them over the translation 74261ef922334ec1… (all of the seat's roots in one cut). By AI agents, Wed Nov 11 2026. No macro, syntax, notation, axiom, sorry.
-/
import Derived.Test.YthblohaffipkhaaChecked
import GoSem.Claim
import GoSem.ClaimJoined
import GoSem.ClaimMapViews
import Derived.JoinedTies
import Derived.KernelRfl
namespace Go.Proofs.Ythblohaffipkhaa
/- THE CELL 'sum', in the pinned program and in every row, IS THE sha256 OF THE DUMP (.gsa) THAT YthblohaffipkhaaProg.lean LOADS. Nothing in Lean hashes anything: it is a label: what it is worth is what the hold of that sum in a sandbox is worth. -/
noncomputable def Try.pinned : Pinned := { name := "ythblohaffipkhaa", sum := "74261ef922334ec16d3fafa3daeea3df9bfa1fe7403c0461a18d9bddafd4267a", checked := Try.checked }
namespace Rows
def none {H : Type} : Left H := { results := [], args := [] }

/-- 'mosaiclaw07.RunsSymbols': WHATEVER THE INPUT: true; the input reads as it did. -/
def runsSymbolsSpec : ChangeSpec := { name := "runsSymbols", fn := fun _ => fun
  | [d1, d2, d3, d4] => { results := [.lit (.bool true)], args := [d1, d2, d3, d4] }
  | _ => none }
def runsSymbolsRow : OpenClaim := { program := "ythblohaffipkhaa", sum := "74261ef922334ec16d3fafa3daeea3df9bfa1fe7403c0461a18d9bddafd4267a", func := "mosaic/mosaiclaw07.RunsSymbols", spec := "runsSymbols", apart := false }
def RunsSymbolsSaid : Prop := runsSymbolsRow.holds Try.pinned (OpenSpec.ofChange runsSymbolsSpec)

/-- ITS FALSE NEIGHBOUR: 'it returns false'. Refute it at one input. -/
def runsSymbolsWrong : ChangeSpec := { name := "runsSymbols", fn := fun _ => fun
  | [d1, d2, d3, d4] => { results := [.lit (.bool false)], args := [d1, d2, d3, d4] }
  | _ => none }
def RunsSymbolsWrongFalsely : Prop := runsSymbolsRow.holds Try.pinned (OpenSpec.ofChange runsSymbolsWrong)

/-- 'mosaiclaw07.RunsBuilder': WHATEVER THE INPUT: true; the input reads as it did. -/
def runsBuilderSpec : ChangeSpec := { name := "runsBuilder", fn := fun _ => fun
  | [d1, d2, d3, d4] => { results := [.lit (.bool true)], args := [d1, d2, d3, d4] }
  | _ => none }
def runsBuilderRow : OpenClaim := { program := "ythblohaffipkhaa", sum := "74261ef922334ec16d3fafa3daeea3df9bfa1fe7403c0461a18d9bddafd4267a", func := "mosaic/mosaiclaw07.RunsBuilder", spec := "runsBuilder", unfollowed := true, recurses := true, apart := false }
def RunsBuilderSaid : Prop := runsBuilderRow.holds Try.pinned (OpenSpec.ofChange runsBuilderSpec)

/-- ITS FALSE NEIGHBOUR: 'it returns false'. Refute it at one input. -/
def runsBuilderWrong : ChangeSpec := { name := "runsBuilder", fn := fun _ => fun
  | [d1, d2, d3, d4] => { results := [.lit (.bool false)], args := [d1, d2, d3, d4] }
  | _ => none }
def RunsBuilderWrongFalsely : Prop := runsBuilderRow.holds Try.pinned (OpenSpec.ofChange runsBuilderWrong)

/-- 'mosaiclaw07.RunsBlock': WHATEVER THE INPUT: true; the input reads as it did. -/
def runsBlockSpec : ChangeSpec := { name := "runsBlock", fn := fun _ => fun
  | [d1, d2] => { results := [.lit (.bool true)], args := [d1, d2] }
  | _ => none }
def runsBlockRow : OpenClaim := { program := "ythblohaffipkhaa", sum := "74261ef922334ec16d3fafa3daeea3df9bfa1fe7403c0461a18d9bddafd4267a", func := "mosaic/mosaiclaw07.RunsBlock", spec := "runsBlock", unfollowed := true, recurses := true, apart := false }
def RunsBlockSaid : Prop := runsBlockRow.holds Try.pinned (OpenSpec.ofChange runsBlockSpec)

/-- ITS FALSE NEIGHBOUR: 'it returns false'. Refute it at one input. -/
def runsBlockWrong : ChangeSpec := { name := "runsBlock", fn := fun _ => fun
  | [d1, d2] => { results := [.lit (.bool false)], args := [d1, d2] }
  | _ => none }
def RunsBlockWrongFalsely : Prop := runsBlockRow.holds Try.pinned (OpenSpec.ofChange runsBlockWrong)

/-- 'mosaiclaw07.RunsNames': WHATEVER THE INPUT: true; the input reads as it did. -/
def runsNamesSpec : ChangeSpec := { name := "runsNames", fn := fun _ => fun
  | [] => { results := [.lit (.bool true)], args := [] }
  | _ => none }
def runsNamesRow : OpenClaim := { program := "ythblohaffipkhaa", sum := "74261ef922334ec16d3fafa3daeea3df9bfa1fe7403c0461a18d9bddafd4267a", func := "mosaic/mosaiclaw07.RunsNames", spec := "runsNames", unfollowed := true, recurses := true, apart := false }
def RunsNamesSaid : Prop := runsNamesRow.holds Try.pinned (OpenSpec.ofChange runsNamesSpec)

/-- ITS FALSE NEIGHBOUR: 'it returns false'. Refute it at one input. -/
def runsNamesWrong : ChangeSpec := { name := "runsNames", fn := fun _ => fun
  | [] => { results := [.lit (.bool false)], args := [] }
  | _ => none }
def RunsNamesWrongFalsely : Prop := runsNamesRow.holds Try.pinned (OpenSpec.ofChange runsNamesWrong)

/-- 'mosaiclaw07.RunsBack': WHATEVER THE INPUT: true; the input reads as it did. -/
def runsBackSpec : ChangeSpec := { name := "runsBack", fn := fun _ => fun
  | [d1, d2] => { results := [.lit (.bool true)], args := [d1, d2] }
  | _ => none }
def runsBackRow : OpenClaim := { program := "ythblohaffipkhaa", sum := "74261ef922334ec16d3fafa3daeea3df9bfa1fe7403c0461a18d9bddafd4267a", func := "mosaic/mosaiclaw07.RunsBack", spec := "runsBack", unfollowed := true, recurses := true, apart := false }
def RunsBackSaid : Prop := runsBackRow.holds Try.pinned (OpenSpec.ofChange runsBackSpec)

/-- ITS FALSE NEIGHBOUR: 'it returns false'. Refute it at one input. -/
def runsBackWrong : ChangeSpec := { name := "runsBack", fn := fun _ => fun
  | [d1, d2] => { results := [.lit (.bool false)], args := [d1, d2] }
  | _ => none }
def RunsBackWrongFalsely : Prop := runsBackRow.holds Try.pinned (OpenSpec.ofChange runsBackWrong)

/-- 'mosaiclaw07.RunsOnce': WHATEVER THE INPUT: true; the input reads as it did. -/
def runsOnceSpec : ChangeSpec := { name := "runsOnce", fn := fun _ => fun
  | [d1, d2, d3, d4] => { results := [.lit (.bool true)], args := [d1, d2, d3, d4] }
  | _ => none }
def runsOnceRow : OpenClaim := { program := "ythblohaffipkhaa", sum := "74261ef922334ec16d3fafa3daeea3df9bfa1fe7403c0461a18d9bddafd4267a", func := "mosaic/mosaiclaw07.RunsOnce", spec := "runsOnce", unfollowed := true, recurses := true, apart := false }
def RunsOnceSaid : Prop := runsOnceRow.holds Try.pinned (OpenSpec.ofChange runsOnceSpec)

/-- ITS FALSE NEIGHBOUR: 'it returns false'. Refute it at one input. -/
def runsOnceWrong : ChangeSpec := { name := "runsOnce", fn := fun _ => fun
  | [d1, d2, d3, d4] => { results := [.lit (.bool false)], args := [d1, d2, d3, d4] }
  | _ => none }
def RunsOnceWrongFalsely : Prop := runsOnceRow.holds Try.pinned (OpenSpec.ofChange runsOnceWrong)

/-- 'mosaiclaw07.RunsStep': WHATEVER THE INPUT: true; the input reads as it did. -/
def runsStepSpec : ChangeSpec := { name := "runsStep", fn := fun _ => fun
  | [d1, d2] => { results := [.lit (.bool true)], args := [d1, d2] }
  | _ => none }
def runsStepRow : OpenClaim := { program := "ythblohaffipkhaa", sum := "74261ef922334ec16d3fafa3daeea3df9bfa1fe7403c0461a18d9bddafd4267a", func := "mosaic/mosaiclaw07.RunsStep", spec := "runsStep", unfollowed := true, recurses := true, apart := false }
def RunsStepSaid : Prop := runsStepRow.holds Try.pinned (OpenSpec.ofChange runsStepSpec)

/-- ITS FALSE NEIGHBOUR: 'it returns false'. Refute it at one input. -/
def runsStepWrong : ChangeSpec := { name := "runsStep", fn := fun _ => fun
  | [d1, d2] => { results := [.lit (.bool false)], args := [d1, d2] }
  | _ => none }
def RunsStepWrongFalsely : Prop := runsStepRow.holds Try.pinned (OpenSpec.ofChange runsStepWrong)

/- THE SECOND FORM. 'bulk': how many values and letters a reading holds, each counted each time it is reached (what is shared counts as often as it is met; a slice's spare places count too). A statement '..UptoSaid' is the law's where the arguments, and the package variables that the reading takes, are together of bulk at most 1048576: NARROWER than '..Said'. Prove '..Said' where nothing that the law and all that it calls make is longer than what came in: it says more and counts as full. Else prove '..UptoSaid'. A law counts once. -/
mutual
def uptoBulk {H : Type} : DataW H → Nat
  | .lit (.string bytes) => bytes.length + 1
  | .lit _ => 1
  | .nil => 1
  | .ptr d => uptoBulk d + 1
  | .slice elems spare => uptoBulkAll elems + uptoBulkAll spare + 1
  | .agg parts => uptoBulkAll parts + 1
  | .iface _ d => uptoBulk d + 1
  | .map entries => uptoBulkEntries entries + 1
  | .held _ => 1
def uptoBulkAll {H : Type} : List (DataW H) → Nat
  | [] => 0
  | d :: r => uptoBulk d + uptoBulkAll r
def uptoBulkEntries {H : Type} : List (Lit × DataW H) → Nat
  | [] => 0
  | x :: r => uptoBulkEntry x + uptoBulkEntries r
def uptoBulkEntry {H : Type} : Lit × DataW H → Nat
  | (.string bytes, d) => bytes.length + uptoBulk d + 1
  | (_, d) => uptoBulk d + 1
 end
def uptoSmall : (H : Type) → List (DataW H) → Bool := fun _ ds => decide (uptoBulkAll ds ≤ 1048576)
def OpenSpec.upto (s : _root_.Go.ChangeSpec) : _root_.Go.OpenSpec := { _root_.Go.OpenSpec.ofChange s with cond := some uptoSmall }

/-- 'mosaiclaw07.RunsSymbols', WHERE WHAT IT READS IS OF BULK AT MOST 1048576: true; the input reads as it did. -/
def runsSymbolsUptoRow : OpenClaim := { program := "ythblohaffipkhaa", sum := "74261ef922334ec16d3fafa3daeea3df9bfa1fe7403c0461a18d9bddafd4267a", func := "mosaic/mosaiclaw07.RunsSymbols", spec := "runsSymbols", apart := false, narrowed := true }
def RunsSymbolsUptoSaid : Prop := runsSymbolsUptoRow.holds Try.pinned (OpenSpec.upto runsSymbolsSpec)

/-- 'mosaiclaw07.RunsBuilder', WHERE WHAT IT READS IS OF BULK AT MOST 1048576: true; the input reads as it did. -/
def runsBuilderUptoRow : OpenClaim := { program := "ythblohaffipkhaa", sum := "74261ef922334ec16d3fafa3daeea3df9bfa1fe7403c0461a18d9bddafd4267a", func := "mosaic/mosaiclaw07.RunsBuilder", spec := "runsBuilder", unfollowed := true, recurses := true, apart := false, narrowed := true }
def RunsBuilderUptoSaid : Prop := runsBuilderUptoRow.holds Try.pinned (OpenSpec.upto runsBuilderSpec)

/-- 'mosaiclaw07.RunsBlock', WHERE WHAT IT READS IS OF BULK AT MOST 1048576: true; the input reads as it did. -/
def runsBlockUptoRow : OpenClaim := { program := "ythblohaffipkhaa", sum := "74261ef922334ec16d3fafa3daeea3df9bfa1fe7403c0461a18d9bddafd4267a", func := "mosaic/mosaiclaw07.RunsBlock", spec := "runsBlock", unfollowed := true, recurses := true, apart := false, narrowed := true }
def RunsBlockUptoSaid : Prop := runsBlockUptoRow.holds Try.pinned (OpenSpec.upto runsBlockSpec)

/-- 'mosaiclaw07.RunsNames', WHERE WHAT IT READS IS OF BULK AT MOST 1048576: true; the input reads as it did. -/
def runsNamesUptoRow : OpenClaim := { program := "ythblohaffipkhaa", sum := "74261ef922334ec16d3fafa3daeea3df9bfa1fe7403c0461a18d9bddafd4267a", func := "mosaic/mosaiclaw07.RunsNames", spec := "runsNames", unfollowed := true, recurses := true, apart := false, narrowed := true }
def RunsNamesUptoSaid : Prop := runsNamesUptoRow.holds Try.pinned (OpenSpec.upto runsNamesSpec)

/-- 'mosaiclaw07.RunsBack', WHERE WHAT IT READS IS OF BULK AT MOST 1048576: true; the input reads as it did. -/
def runsBackUptoRow : OpenClaim := { program := "ythblohaffipkhaa", sum := "74261ef922334ec16d3fafa3daeea3df9bfa1fe7403c0461a18d9bddafd4267a", func := "mosaic/mosaiclaw07.RunsBack", spec := "runsBack", unfollowed := true, recurses := true, apart := false, narrowed := true }
def RunsBackUptoSaid : Prop := runsBackUptoRow.holds Try.pinned (OpenSpec.upto runsBackSpec)

/-- 'mosaiclaw07.RunsOnce', WHERE WHAT IT READS IS OF BULK AT MOST 1048576: true; the input reads as it did. -/
def runsOnceUptoRow : OpenClaim := { program := "ythblohaffipkhaa", sum := "74261ef922334ec16d3fafa3daeea3df9bfa1fe7403c0461a18d9bddafd4267a", func := "mosaic/mosaiclaw07.RunsOnce", spec := "runsOnce", unfollowed := true, recurses := true, apart := false, narrowed := true }
def RunsOnceUptoSaid : Prop := runsOnceUptoRow.holds Try.pinned (OpenSpec.upto runsOnceSpec)

/-- 'mosaiclaw07.RunsStep', WHERE WHAT IT READS IS OF BULK AT MOST 1048576: true; the input reads as it did. -/
def runsStepUptoRow : OpenClaim := { program := "ythblohaffipkhaa", sum := "74261ef922334ec16d3fafa3daeea3df9bfa1fe7403c0461a18d9bddafd4267a", func := "mosaic/mosaiclaw07.RunsStep", spec := "runsStep", unfollowed := true, recurses := true, apart := false, narrowed := true }
def RunsStepUptoSaid : Prop := runsStepUptoRow.holds Try.pinned (OpenSpec.upto runsStepSpec)

end Rows
end Go.Proofs.Ythblohaffipkhaa
