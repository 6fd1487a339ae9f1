/-
  No cell of these rows narrows 'for every input' (looked for: loops, veiled, ifaces, maps, wideKeys, modest, calm, conditions, laid).
  DERIVED. THE GIVEN ROWS OF THIS SEAT. 6 by the template 'for every input the law returns true; each argument reads behind the call as it read before'; 0 by the template 'total and deterministic' (their statements: YtlfdfikgbdgfdaaTotals.lean).
  GIVEN WITH THE SEED: the statements are not yours to turn. If you find one false, say at which input.
  Laid BY PROGRAM, IN A SANDBOX (cutbox-rows.mjs): the forced cells as the released guide's own fill.sh prints them over the translation a7ca4652febfe3a7… (all of the seat's roots in one cut). By AI agents, Wed Nov 11 2026. No macro, syntax, notation, axiom, sorry.
-/
import Derived.Test.YtlfdfikgbdgfdaaChecked
import GoSem.Claim
import GoSem.ClaimJoined
import GoSem.ClaimMapViews
import Derived.JoinedTies
import Derived.KernelRfl
namespace Go.Proofs.Ytlfdfikgbdgfdaa
/- THE CELL 'sum', in the pinned program and in every row, IS THE sha256 OF THE DUMP (.gsa) THAT YtlfdfikgbdgfdaaProg.lean LOADS. Nothing in Lean hashes anything: it is a label: what it is worth is what the hold of that sum in a sandbox is worth. -/
noncomputable def Try.pinned : Pinned := { name := "ytlfdfikgbdgfdaa", sum := "a7ca4652febfe3a7fe94e22ecbdb372f385f786b431802de53c72bb5f3da3b0c", checked := Try.checked }
namespace Rows
def none {H : Type} : Left H := { results := [], args := [] }

/-- 'mosaiclaw17.SpanCheck': WHATEVER THE INPUT: true; the input reads as it did. -/
def spanCheckSpec : ChangeSpec := { name := "spanCheck", fn := fun _ => fun
  | [d] => { results := [.lit (.bool true)], args := [d] }
  | _ => none }
def spanCheckRow : OpenClaim := { program := "ytlfdfikgbdgfdaa", sum := "a7ca4652febfe3a7fe94e22ecbdb372f385f786b431802de53c72bb5f3da3b0c", func := "mosaic/mosaiclaw17.SpanCheck", spec := "spanCheck", apart := false }
def SpanCheckSaid : Prop := spanCheckRow.holds Try.pinned (OpenSpec.ofChange spanCheckSpec)

/-- ITS FALSE NEIGHBOUR: 'it returns false'. Refute it at one input. -/
def spanCheckWrong : ChangeSpec := { name := "spanCheck", fn := fun _ => fun
  | [d] => { results := [.lit (.bool false)], args := [d] }
  | _ => none }
def SpanCheckWrongFalsely : Prop := spanCheckRow.holds Try.pinned (OpenSpec.ofChange spanCheckWrong)

/-- 'mosaiclaw17.SpanNames': WHATEVER THE INPUT: true; the input reads as it did. -/
def spanNamesSpec : ChangeSpec := { name := "spanNames", fn := fun _ => fun
  | [] => { results := [.lit (.bool true)], args := [] }
  | _ => none }
def spanNamesRow : OpenClaim := { program := "ytlfdfikgbdgfdaa", sum := "a7ca4652febfe3a7fe94e22ecbdb372f385f786b431802de53c72bb5f3da3b0c", func := "mosaic/mosaiclaw17.SpanNames", spec := "spanNames", unfollowed := true, recurses := true, apart := false }
def SpanNamesSaid : Prop := spanNamesRow.holds Try.pinned (OpenSpec.ofChange spanNamesSpec)

/-- ITS FALSE NEIGHBOUR: 'it returns false'. Refute it at one input. -/
def spanNamesWrong : ChangeSpec := { name := "spanNames", fn := fun _ => fun
  | [] => { results := [.lit (.bool false)], args := [] }
  | _ => none }
def SpanNamesWrongFalsely : Prop := spanNamesRow.holds Try.pinned (OpenSpec.ofChange spanNamesWrong)

/-- 'mosaiclaw17.SpanCut': WHATEVER THE INPUT: true; the input reads as it did. -/
def spanCutSpec : ChangeSpec := { name := "spanCut", fn := fun _ => fun
  | [d1, d2, d3] => { results := [.lit (.bool true)], args := [d1, d2, d3] }
  | _ => none }
def spanCutRow : OpenClaim := { program := "ytlfdfikgbdgfdaa", sum := "a7ca4652febfe3a7fe94e22ecbdb372f385f786b431802de53c72bb5f3da3b0c", func := "mosaic/mosaiclaw17.SpanCut", spec := "spanCut", unfollowed := true, recurses := true, apart := false }
def SpanCutSaid : Prop := spanCutRow.holds Try.pinned (OpenSpec.ofChange spanCutSpec)

/-- ITS FALSE NEIGHBOUR: 'it returns false'. Refute it at one input. -/
def spanCutWrong : ChangeSpec := { name := "spanCut", fn := fun _ => fun
  | [d1, d2, d3] => { results := [.lit (.bool false)], args := [d1, d2, d3] }
  | _ => none }
def SpanCutWrongFalsely : Prop := spanCutRow.holds Try.pinned (OpenSpec.ofChange spanCutWrong)

/-- 'mosaiclaw17.SpanElsewhere': WHATEVER THE INPUT: true; the input reads as it did. -/
def spanElsewhereSpec : ChangeSpec := { name := "spanElsewhere", fn := fun _ => fun
  | [d1, d2, d3, d4] => { results := [.lit (.bool true)], args := [d1, d2, d3, d4] }
  | _ => none }
def spanElsewhereRow : OpenClaim := { program := "ytlfdfikgbdgfdaa", sum := "a7ca4652febfe3a7fe94e22ecbdb372f385f786b431802de53c72bb5f3da3b0c", func := "mosaic/mosaiclaw17.SpanElsewhere", spec := "spanElsewhere", unfollowed := true, recurses := true, apart := false }
def SpanElsewhereSaid : Prop := spanElsewhereRow.holds Try.pinned (OpenSpec.ofChange spanElsewhereSpec)

/-- ITS FALSE NEIGHBOUR: 'it returns false'. Refute it at one input. -/
def spanElsewhereWrong : ChangeSpec := { name := "spanElsewhere", fn := fun _ => fun
  | [d1, d2, d3, d4] => { results := [.lit (.bool false)], args := [d1, d2, d3, d4] }
  | _ => none }
def SpanElsewhereWrongFalsely : Prop := spanElsewhereRow.holds Try.pinned (OpenSpec.ofChange spanElsewhereWrong)

/-- 'mosaiclaw17.SpanBelieved': WHATEVER THE INPUT: true; the input reads as it did. -/
def spanBelievedSpec : ChangeSpec := { name := "spanBelieved", fn := fun _ => fun
  | [d1, d2, d3, d4] => { results := [.lit (.bool true)], args := [d1, d2, d3, d4] }
  | _ => none }
def spanBelievedRow : OpenClaim := { program := "ytlfdfikgbdgfdaa", sum := "a7ca4652febfe3a7fe94e22ecbdb372f385f786b431802de53c72bb5f3da3b0c", func := "mosaic/mosaiclaw17.SpanBelieved", spec := "spanBelieved", unfollowed := true, recurses := true, apart := false }
def SpanBelievedSaid : Prop := spanBelievedRow.holds Try.pinned (OpenSpec.ofChange spanBelievedSpec)

/-- ITS FALSE NEIGHBOUR: 'it returns false'. Refute it at one input. -/
def spanBelievedWrong : ChangeSpec := { name := "spanBelieved", fn := fun _ => fun
  | [d1, d2, d3, d4] => { results := [.lit (.bool false)], args := [d1, d2, d3, d4] }
  | _ => none }
def SpanBelievedWrongFalsely : Prop := spanBelievedRow.holds Try.pinned (OpenSpec.ofChange spanBelievedWrong)

/-- 'mosaiclaw17.SpanBack': WHATEVER THE INPUT: true; the input reads as it did. -/
def spanBackSpec : ChangeSpec := { name := "spanBack", fn := fun _ => fun
  | [d1, d2, d3, d4] => { results := [.lit (.bool true)], args := [d1, d2, d3, d4] }
  | _ => none }
def spanBackRow : OpenClaim := { program := "ytlfdfikgbdgfdaa", sum := "a7ca4652febfe3a7fe94e22ecbdb372f385f786b431802de53c72bb5f3da3b0c", func := "mosaic/mosaiclaw17.SpanBack", spec := "spanBack", inPlace := ["internal/abi.NoEscape"], unfollowed := true, recurses := true, apart := false }
def SpanBackSaid : Prop := spanBackRow.holds Try.pinned (OpenSpec.ofChange spanBackSpec)

/-- ITS FALSE NEIGHBOUR: 'it returns false'. Refute it at one input. -/
def spanBackWrong : ChangeSpec := { name := "spanBack", fn := fun _ => fun
  | [d1, d2, d3, d4] => { results := [.lit (.bool false)], args := [d1, d2, d3, d4] }
  | _ => none }
def SpanBackWrongFalsely : Prop := spanBackRow.holds Try.pinned (OpenSpec.ofChange spanBackWrong)

/- THE SECOND FORM. 'bulk': how many values and letters a reading holds, each counted each time it is reached (what is shared counts as often as it is met; a slice's spare places count too). A statement '..UptoSaid' is the law's where the arguments, and the package variables that the reading takes, are together of bulk at most 1048576: NARROWER than '..Said'. Prove '..Said' where nothing that the law and all that it calls make is longer than what came in: it says more and counts as full. Else prove '..UptoSaid'. A law counts once. -/
mutual
def uptoBulk {H : Type} : DataW H → Nat
  | .lit (.string bytes) => bytes.length + 1
  | .lit _ => 1
  | .nil => 1
  | .ptr d => uptoBulk d + 1
  | .slice elems spare => uptoBulkAll elems + uptoBulkAll spare + 1
  | .agg parts => uptoBulkAll parts + 1
  | .iface _ d => uptoBulk d + 1
  | .map entries => uptoBulkEntries entries + 1
  | .held _ => 1
def uptoBulkAll {H : Type} : List (DataW H) → Nat
  | [] => 0
  | d :: r => uptoBulk d + uptoBulkAll r
def uptoBulkEntries {H : Type} : List (Lit × DataW H) → Nat
  | [] => 0
  | x :: r => uptoBulkEntry x + uptoBulkEntries r
def uptoBulkEntry {H : Type} : Lit × DataW H → Nat
  | (.string bytes, d) => bytes.length + uptoBulk d + 1
  | (_, d) => uptoBulk d + 1
 end
def uptoSmall : (H : Type) → List (DataW H) → Bool := fun _ ds => decide (uptoBulkAll ds ≤ 1048576)
def OpenSpec.upto (s : _root_.Go.ChangeSpec) : _root_.Go.OpenSpec := { _root_.Go.OpenSpec.ofChange s with cond := some uptoSmall }

/-- 'mosaiclaw17.SpanCheck', WHERE WHAT IT READS IS OF BULK AT MOST 1048576: true; the input reads as it did. -/
def spanCheckUptoRow : OpenClaim := { program := "ytlfdfikgbdgfdaa", sum := "a7ca4652febfe3a7fe94e22ecbdb372f385f786b431802de53c72bb5f3da3b0c", func := "mosaic/mosaiclaw17.SpanCheck", spec := "spanCheck", apart := false, narrowed := true }
def SpanCheckUptoSaid : Prop := spanCheckUptoRow.holds Try.pinned (OpenSpec.upto spanCheckSpec)

/-- 'mosaiclaw17.SpanNames', WHERE WHAT IT READS IS OF BULK AT MOST 1048576: true; the input reads as it did. -/
def spanNamesUptoRow : OpenClaim := { program := "ytlfdfikgbdgfdaa", sum := "a7ca4652febfe3a7fe94e22ecbdb372f385f786b431802de53c72bb5f3da3b0c", func := "mosaic/mosaiclaw17.SpanNames", spec := "spanNames", unfollowed := true, recurses := true, apart := false, narrowed := true }
def SpanNamesUptoSaid : Prop := spanNamesUptoRow.holds Try.pinned (OpenSpec.upto spanNamesSpec)

/-- 'mosaiclaw17.SpanCut', WHERE WHAT IT READS IS OF BULK AT MOST 1048576: true; the input reads as it did. -/
def spanCutUptoRow : OpenClaim := { program := "ytlfdfikgbdgfdaa", sum := "a7ca4652febfe3a7fe94e22ecbdb372f385f786b431802de53c72bb5f3da3b0c", func := "mosaic/mosaiclaw17.SpanCut", spec := "spanCut", unfollowed := true, recurses := true, apart := false, narrowed := true }
def SpanCutUptoSaid : Prop := spanCutUptoRow.holds Try.pinned (OpenSpec.upto spanCutSpec)

/-- 'mosaiclaw17.SpanElsewhere', WHERE WHAT IT READS IS OF BULK AT MOST 1048576: true; the input reads as it did. -/
def spanElsewhereUptoRow : OpenClaim := { program := "ytlfdfikgbdgfdaa", sum := "a7ca4652febfe3a7fe94e22ecbdb372f385f786b431802de53c72bb5f3da3b0c", func := "mosaic/mosaiclaw17.SpanElsewhere", spec := "spanElsewhere", unfollowed := true, recurses := true, apart := false, narrowed := true }
def SpanElsewhereUptoSaid : Prop := spanElsewhereUptoRow.holds Try.pinned (OpenSpec.upto spanElsewhereSpec)

/-- 'mosaiclaw17.SpanBelieved', WHERE WHAT IT READS IS OF BULK AT MOST 1048576: true; the input reads as it did. -/
def spanBelievedUptoRow : OpenClaim := { program := "ytlfdfikgbdgfdaa", sum := "a7ca4652febfe3a7fe94e22ecbdb372f385f786b431802de53c72bb5f3da3b0c", func := "mosaic/mosaiclaw17.SpanBelieved", spec := "spanBelieved", unfollowed := true, recurses := true, apart := false, narrowed := true }
def SpanBelievedUptoSaid : Prop := spanBelievedUptoRow.holds Try.pinned (OpenSpec.upto spanBelievedSpec)

/-- 'mosaiclaw17.SpanBack', WHERE WHAT IT READS IS OF BULK AT MOST 1048576: true; the input reads as it did. -/
def spanBackUptoRow : OpenClaim := { program := "ytlfdfikgbdgfdaa", sum := "a7ca4652febfe3a7fe94e22ecbdb372f385f786b431802de53c72bb5f3da3b0c", func := "mosaic/mosaiclaw17.SpanBack", spec := "spanBack", inPlace := ["internal/abi.NoEscape"], unfollowed := true, recurses := true, apart := false, narrowed := true }
def SpanBackUptoSaid : Prop := spanBackUptoRow.holds Try.pinned (OpenSpec.upto spanBackSpec)

end Rows
end Go.Proofs.Ytlfdfikgbdgfdaa
