/-
  No cell of these rows narrows 'for every input' (looked for: loops, veiled, ifaces, maps, wideKeys, modest, calm, conditions, laid).
  DERIVED. THE GIVEN ROWS OF THIS SEAT. 8 by the template 'for every input the law returns true; each argument reads behind the call as it read before'; 0 by the template 'total and deterministic' (their statements: YtbefacccdaafeaaTotals.lean).
  GIVEN WITH THE SEED: the statements are not yours to turn. If you find one false, say at which input.
  Laid BY PROGRAM, IN A SANDBOX (cutbox-rows.mjs): the forced cells as the released guide's own fill.sh prints them over the translation 94bbb60ccfa96ce4… (all of the seat's roots in one cut). By AI agents, Wed Nov 11 2026. No macro, syntax, notation, axiom, sorry.
-/
import Derived.Test.YtbefacccdaafeaaChecked
import GoSem.Claim
import GoSem.ClaimJoined
import GoSem.ClaimMapViews
import Derived.JoinedTies
import Derived.KernelRfl
namespace Go.Proofs.Ytbefacccdaafeaa
/- THE CELL 'sum', in the pinned program and in every row, IS THE sha256 OF THE DUMP (.gsa) THAT YtbefacccdaafeaaProg.lean LOADS. Nothing in Lean hashes anything: it is a label: what it is worth is what the hold of that sum in a sandbox is worth. -/
noncomputable def Try.pinned : Pinned := { name := "ytbefacccdaafeaa", sum := "94bbb60ccfa96ce4310622c7b718e742204b05371af2aebe5baa9766abc94612", checked := Try.checked }
namespace Rows
def none {H : Type} : Left H := { results := [], args := [] }

/-- 'mosaiclaw04.HuffCheck': WHATEVER THE INPUT: true; the input reads as it did. -/
def huffCheckSpec : ChangeSpec := { name := "huffCheck", fn := fun _ => fun
  | [d] => { results := [.lit (.bool true)], args := [d] }
  | _ => none }
def huffCheckRow : OpenClaim := { program := "ytbefacccdaafeaa", sum := "94bbb60ccfa96ce4310622c7b718e742204b05371af2aebe5baa9766abc94612", func := "mosaic/mosaiclaw04.HuffCheck", spec := "huffCheck", apart := false }
def HuffCheckSaid : Prop := huffCheckRow.holds Try.pinned (OpenSpec.ofChange huffCheckSpec)

/-- ITS FALSE NEIGHBOUR: 'it returns false'. Refute it at one input. -/
def huffCheckWrong : ChangeSpec := { name := "huffCheck", fn := fun _ => fun
  | [d] => { results := [.lit (.bool false)], args := [d] }
  | _ => none }
def HuffCheckWrongFalsely : Prop := huffCheckRow.holds Try.pinned (OpenSpec.ofChange huffCheckWrong)

/-- 'mosaiclaw04.HuffCodes': WHATEVER THE INPUT: true; the input reads as it did. -/
def huffCodesSpec : ChangeSpec := { name := "huffCodes", fn := fun _ => fun
  | [d1, d2, d3] => { results := [.lit (.bool true)], args := [d1, d2, d3] }
  | _ => none }
def huffCodesRow : OpenClaim := { program := "ytbefacccdaafeaa", sum := "94bbb60ccfa96ce4310622c7b718e742204b05371af2aebe5baa9766abc94612", func := "mosaic/mosaiclaw04.HuffCodes", spec := "huffCodes", unfollowed := true, recurses := true, apart := false }
def HuffCodesSaid : Prop := huffCodesRow.holds Try.pinned (OpenSpec.ofChange huffCodesSpec)

/-- ITS FALSE NEIGHBOUR: 'it returns false'. Refute it at one input. -/
def huffCodesWrong : ChangeSpec := { name := "huffCodes", fn := fun _ => fun
  | [d1, d2, d3] => { results := [.lit (.bool false)], args := [d1, d2, d3] }
  | _ => none }
def HuffCodesWrongFalsely : Prop := huffCodesRow.holds Try.pinned (OpenSpec.ofChange huffCodesWrong)

/-- 'mosaiclaw04.HuffWrite': WHATEVER THE INPUT: true; the input reads as it did. -/
def huffWriteSpec : ChangeSpec := { name := "huffWrite", fn := fun _ => fun
  | [d1, d2] => { results := [.lit (.bool true)], args := [d1, d2] }
  | _ => none }
def huffWriteRow : OpenClaim := { program := "ytbefacccdaafeaa", sum := "94bbb60ccfa96ce4310622c7b718e742204b05371af2aebe5baa9766abc94612", func := "mosaic/mosaiclaw04.HuffWrite", spec := "huffWrite", inPlace := ["internal/abi.NoEscape"], apart := false }
def HuffWriteSaid : Prop := huffWriteRow.holds Try.pinned (OpenSpec.ofChange huffWriteSpec)

/-- ITS FALSE NEIGHBOUR: 'it returns false'. Refute it at one input. -/
def huffWriteWrong : ChangeSpec := { name := "huffWrite", fn := fun _ => fun
  | [d1, d2] => { results := [.lit (.bool false)], args := [d1, d2] }
  | _ => none }
def HuffWriteWrongFalsely : Prop := huffWriteRow.holds Try.pinned (OpenSpec.ofChange huffWriteWrong)

/-- 'mosaiclaw04.HuffRead': WHATEVER THE INPUT: true; the input reads as it did. -/
def huffReadSpec : ChangeSpec := { name := "huffRead", fn := fun _ => fun
  | [d1, d2, d3, d4, d5] => { results := [.lit (.bool true)], args := [d1, d2, d3, d4, d5] }
  | _ => none }
def huffReadRow : OpenClaim := { program := "ytbefacccdaafeaa", sum := "94bbb60ccfa96ce4310622c7b718e742204b05371af2aebe5baa9766abc94612", func := "mosaic/mosaiclaw04.HuffRead", spec := "huffRead", apart := false }
def HuffReadSaid : Prop := huffReadRow.holds Try.pinned (OpenSpec.ofChange huffReadSpec)

/-- ITS FALSE NEIGHBOUR: 'it returns false'. Refute it at one input. -/
def huffReadWrong : ChangeSpec := { name := "huffRead", fn := fun _ => fun
  | [d1, d2, d3, d4, d5] => { results := [.lit (.bool false)], args := [d1, d2, d3, d4, d5] }
  | _ => none }
def HuffReadWrongFalsely : Prop := huffReadRow.holds Try.pinned (OpenSpec.ofChange huffReadWrong)

/-- 'mosaiclaw04.HuffNames': WHATEVER THE INPUT: true; the input reads as it did. -/
def huffNamesSpec : ChangeSpec := { name := "huffNames", fn := fun _ => fun
  | [] => { results := [.lit (.bool true)], args := [] }
  | _ => none }
def huffNamesRow : OpenClaim := { program := "ytbefacccdaafeaa", sum := "94bbb60ccfa96ce4310622c7b718e742204b05371af2aebe5baa9766abc94612", func := "mosaic/mosaiclaw04.HuffNames", spec := "huffNames", apart := false }
def HuffNamesSaid : Prop := huffNamesRow.holds Try.pinned (OpenSpec.ofChange huffNamesSpec)

/-- ITS FALSE NEIGHBOUR: 'it returns false'. Refute it at one input. -/
def huffNamesWrong : ChangeSpec := { name := "huffNames", fn := fun _ => fun
  | [] => { results := [.lit (.bool false)], args := [] }
  | _ => none }
def HuffNamesWrongFalsely : Prop := huffNamesRow.holds Try.pinned (OpenSpec.ofChange huffNamesWrong)

/-- 'mosaiclaw04.HuffPrefix': WHATEVER THE INPUT: true; the input reads as it did. -/
def huffPrefixSpec : ChangeSpec := { name := "huffPrefix", fn := fun _ => fun
  | [d] => { results := [.lit (.bool true)], args := [d] }
  | _ => none }
def huffPrefixRow : OpenClaim := { program := "ytbefacccdaafeaa", sum := "94bbb60ccfa96ce4310622c7b718e742204b05371af2aebe5baa9766abc94612", func := "mosaic/mosaiclaw04.HuffPrefix", spec := "huffPrefix", unfollowed := true, recurses := true, apart := false }
def HuffPrefixSaid : Prop := huffPrefixRow.holds Try.pinned (OpenSpec.ofChange huffPrefixSpec)

/-- ITS FALSE NEIGHBOUR: 'it returns false'. Refute it at one input. -/
def huffPrefixWrong : ChangeSpec := { name := "huffPrefix", fn := fun _ => fun
  | [d] => { results := [.lit (.bool false)], args := [d] }
  | _ => none }
def HuffPrefixWrongFalsely : Prop := huffPrefixRow.holds Try.pinned (OpenSpec.ofChange huffPrefixWrong)

/-- 'mosaiclaw04.HuffWord': WHATEVER THE INPUT: true; the input reads as it did. -/
def huffWordSpec : ChangeSpec := { name := "huffWord", fn := fun _ => fun
  | [d1, d2, d3] => { results := [.lit (.bool true)], args := [d1, d2, d3] }
  | _ => none }
def huffWordRow : OpenClaim := { program := "ytbefacccdaafeaa", sum := "94bbb60ccfa96ce4310622c7b718e742204b05371af2aebe5baa9766abc94612", func := "mosaic/mosaiclaw04.HuffWord", spec := "huffWord", unfollowed := true, recurses := true, apart := false }
def HuffWordSaid : Prop := huffWordRow.holds Try.pinned (OpenSpec.ofChange huffWordSpec)

/-- ITS FALSE NEIGHBOUR: 'it returns false'. Refute it at one input. -/
def huffWordWrong : ChangeSpec := { name := "huffWord", fn := fun _ => fun
  | [d1, d2, d3] => { results := [.lit (.bool false)], args := [d1, d2, d3] }
  | _ => none }
def HuffWordWrongFalsely : Prop := huffWordRow.holds Try.pinned (OpenSpec.ofChange huffWordWrong)

/-- 'mosaiclaw04.HuffBack': WHATEVER THE INPUT: true; the input reads as it did. -/
def huffBackSpec : ChangeSpec := { name := "huffBack", fn := fun _ => fun
  | [d1, d2, d3, d4] => { results := [.lit (.bool true)], args := [d1, d2, d3, d4] }
  | _ => none }
def huffBackRow : OpenClaim := { program := "ytbefacccdaafeaa", sum := "94bbb60ccfa96ce4310622c7b718e742204b05371af2aebe5baa9766abc94612", func := "mosaic/mosaiclaw04.HuffBack", spec := "huffBack", inPlace := ["internal/abi.NoEscape"], apart := false }
def HuffBackSaid : Prop := huffBackRow.holds Try.pinned (OpenSpec.ofChange huffBackSpec)

/-- ITS FALSE NEIGHBOUR: 'it returns false'. Refute it at one input. -/
def huffBackWrong : ChangeSpec := { name := "huffBack", fn := fun _ => fun
  | [d1, d2, d3, d4] => { results := [.lit (.bool false)], args := [d1, d2, d3, d4] }
  | _ => none }
def HuffBackWrongFalsely : Prop := huffBackRow.holds Try.pinned (OpenSpec.ofChange huffBackWrong)

/- THE SECOND FORM. 'bulk': how many values and letters a reading holds, each counted each time it is reached (what is shared counts as often as it is met; a slice's spare places count too). A statement '..UptoSaid' is the law's where the arguments, and the package variables that the reading takes, are together of bulk at most 1048576: NARROWER than '..Said'. Prove '..Said' where nothing that the law and all that it calls make is longer than what came in: it says more and counts as full. Else prove '..UptoSaid'. A law counts once. -/
mutual
def uptoBulk {H : Type} : DataW H → Nat
  | .lit (.string bytes) => bytes.length + 1
  | .lit _ => 1
  | .nil => 1
  | .ptr d => uptoBulk d + 1
  | .slice elems spare => uptoBulkAll elems + uptoBulkAll spare + 1
  | .agg parts => uptoBulkAll parts + 1
  | .iface _ d => uptoBulk d + 1
  | .map entries => uptoBulkEntries entries + 1
  | .held _ => 1
def uptoBulkAll {H : Type} : List (DataW H) → Nat
  | [] => 0
  | d :: r => uptoBulk d + uptoBulkAll r
def uptoBulkEntries {H : Type} : List (Lit × DataW H) → Nat
  | [] => 0
  | x :: r => uptoBulkEntry x + uptoBulkEntries r
def uptoBulkEntry {H : Type} : Lit × DataW H → Nat
  | (.string bytes, d) => bytes.length + uptoBulk d + 1
  | (_, d) => uptoBulk d + 1
 end
def uptoSmall : (H : Type) → List (DataW H) → Bool := fun _ ds => decide (uptoBulkAll ds ≤ 1048576)
def OpenSpec.upto (s : _root_.Go.ChangeSpec) : _root_.Go.OpenSpec := { _root_.Go.OpenSpec.ofChange s with cond := some uptoSmall }

/-- 'mosaiclaw04.HuffCheck', WHERE WHAT IT READS IS OF BULK AT MOST 1048576: true; the input reads as it did. -/
def huffCheckUptoRow : OpenClaim := { program := "ytbefacccdaafeaa", sum := "94bbb60ccfa96ce4310622c7b718e742204b05371af2aebe5baa9766abc94612", func := "mosaic/mosaiclaw04.HuffCheck", spec := "huffCheck", apart := false, narrowed := true }
def HuffCheckUptoSaid : Prop := huffCheckUptoRow.holds Try.pinned (OpenSpec.upto huffCheckSpec)

/-- 'mosaiclaw04.HuffCodes', WHERE WHAT IT READS IS OF BULK AT MOST 1048576: true; the input reads as it did. -/
def huffCodesUptoRow : OpenClaim := { program := "ytbefacccdaafeaa", sum := "94bbb60ccfa96ce4310622c7b718e742204b05371af2aebe5baa9766abc94612", func := "mosaic/mosaiclaw04.HuffCodes", spec := "huffCodes", unfollowed := true, recurses := true, apart := false, narrowed := true }
def HuffCodesUptoSaid : Prop := huffCodesUptoRow.holds Try.pinned (OpenSpec.upto huffCodesSpec)

/-- 'mosaiclaw04.HuffWrite', WHERE WHAT IT READS IS OF BULK AT MOST 1048576: true; the input reads as it did. -/
def huffWriteUptoRow : OpenClaim := { program := "ytbefacccdaafeaa", sum := "94bbb60ccfa96ce4310622c7b718e742204b05371af2aebe5baa9766abc94612", func := "mosaic/mosaiclaw04.HuffWrite", spec := "huffWrite", inPlace := ["internal/abi.NoEscape"], apart := false, narrowed := true }
def HuffWriteUptoSaid : Prop := huffWriteUptoRow.holds Try.pinned (OpenSpec.upto huffWriteSpec)

/-- 'mosaiclaw04.HuffRead', WHERE WHAT IT READS IS OF BULK AT MOST 1048576: true; the input reads as it did. -/
def huffReadUptoRow : OpenClaim := { program := "ytbefacccdaafeaa", sum := "94bbb60ccfa96ce4310622c7b718e742204b05371af2aebe5baa9766abc94612", func := "mosaic/mosaiclaw04.HuffRead", spec := "huffRead", apart := false, narrowed := true }
def HuffReadUptoSaid : Prop := huffReadUptoRow.holds Try.pinned (OpenSpec.upto huffReadSpec)

/-- 'mosaiclaw04.HuffNames', WHERE WHAT IT READS IS OF BULK AT MOST 1048576: true; the input reads as it did. -/
def huffNamesUptoRow : OpenClaim := { program := "ytbefacccdaafeaa", sum := "94bbb60ccfa96ce4310622c7b718e742204b05371af2aebe5baa9766abc94612", func := "mosaic/mosaiclaw04.HuffNames", spec := "huffNames", apart := false, narrowed := true }
def HuffNamesUptoSaid : Prop := huffNamesUptoRow.holds Try.pinned (OpenSpec.upto huffNamesSpec)

/-- 'mosaiclaw04.HuffPrefix', WHERE WHAT IT READS IS OF BULK AT MOST 1048576: true; the input reads as it did. -/
def huffPrefixUptoRow : OpenClaim := { program := "ytbefacccdaafeaa", sum := "94bbb60ccfa96ce4310622c7b718e742204b05371af2aebe5baa9766abc94612", func := "mosaic/mosaiclaw04.HuffPrefix", spec := "huffPrefix", unfollowed := true, recurses := true, apart := false, narrowed := true }
def HuffPrefixUptoSaid : Prop := huffPrefixUptoRow.holds Try.pinned (OpenSpec.upto huffPrefixSpec)

/-- 'mosaiclaw04.HuffWord', WHERE WHAT IT READS IS OF BULK AT MOST 1048576: true; the input reads as it did. -/
def huffWordUptoRow : OpenClaim := { program := "ytbefacccdaafeaa", sum := "94bbb60ccfa96ce4310622c7b718e742204b05371af2aebe5baa9766abc94612", func := "mosaic/mosaiclaw04.HuffWord", spec := "huffWord", unfollowed := true, recurses := true, apart := false, narrowed := true }
def HuffWordUptoSaid : Prop := huffWordUptoRow.holds Try.pinned (OpenSpec.upto huffWordSpec)

/-- 'mosaiclaw04.HuffBack', WHERE WHAT IT READS IS OF BULK AT MOST 1048576: true; the input reads as it did. -/
def huffBackUptoRow : OpenClaim := { program := "ytbefacccdaafeaa", sum := "94bbb60ccfa96ce4310622c7b718e742204b05371af2aebe5baa9766abc94612", func := "mosaic/mosaiclaw04.HuffBack", spec := "huffBack", inPlace := ["internal/abi.NoEscape"], apart := false, narrowed := true }
def HuffBackUptoSaid : Prop := huffBackUptoRow.holds Try.pinned (OpenSpec.upto huffBackSpec)

end Rows
end Go.Proofs.Ytbefacccdaafeaa
