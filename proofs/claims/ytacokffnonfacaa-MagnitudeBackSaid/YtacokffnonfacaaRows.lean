/-
  No cell of these rows narrows 'for every input' (looked for: loops, veiled, ifaces, maps, wideKeys, modest, calm, conditions, laid).
  DERIVED. THE GIVEN ROWS OF THIS SEAT. 6 by the template 'for every input the law returns true; each argument reads behind the call as it read before'; 0 by the template 'total and deterministic' (their statements: YtacokffnonfacaaTotals.lean).
  GIVEN WITH THE SEED: the statements are not yours to turn. If you find one false, say at which input.
  Laid BY PROGRAM, IN A SANDBOX (cutbox-rows.mjs): the forced cells as the released guide's own fill.sh prints them over the translation e37ab02821d71b97… (all of the seat's roots in one cut). By AI agents, Wed Nov 11 2026. No macro, syntax, notation, axiom, sorry.
-/
import Derived.Test.YtacokffnonfacaaChecked
import GoSem.Claim
import GoSem.ClaimJoined
import GoSem.ClaimMapViews
import Derived.JoinedTies
import Derived.KernelRfl
namespace Go.Proofs.Ytacokffnonfacaa
/- THE CELL 'sum', in the pinned program and in every row, IS THE sha256 OF THE DUMP (.gsa) THAT YtacokffnonfacaaProg.lean LOADS. Nothing in Lean hashes anything: it is a label: what it is worth is what the hold of that sum in a sandbox is worth. -/
noncomputable def Try.pinned : Pinned := { name := "ytacokffnonfacaa", sum := "e37ab02821d71b9719fb534fb2673c1aa116967ceb68408b01006490c5f70a64", checked := Try.checked }
namespace Rows
def none {H : Type} : Left H := { results := [], args := [] }

/-- 'mosaiclaw06.MagnitudeClip': WHATEVER THE INPUT: true; the input reads as it did. -/
def magnitudeClipSpec : ChangeSpec := { name := "magnitudeClip", fn := fun _ => fun
  | [d1, d2] => { results := [.lit (.bool true)], args := [d1, d2] }
  | _ => none }
def magnitudeClipRow : OpenClaim := { program := "ytacokffnonfacaa", sum := "e37ab02821d71b9719fb534fb2673c1aa116967ceb68408b01006490c5f70a64", func := "mosaic/mosaiclaw06.MagnitudeClip", spec := "magnitudeClip", apart := false }
def MagnitudeClipSaid : Prop := magnitudeClipRow.holds Try.pinned (OpenSpec.ofChange magnitudeClipSpec)

/-- ITS FALSE NEIGHBOUR: 'it returns false'. Refute it at one input. -/
def magnitudeClipWrong : ChangeSpec := { name := "magnitudeClip", fn := fun _ => fun
  | [d1, d2] => { results := [.lit (.bool false)], args := [d1, d2] }
  | _ => none }
def MagnitudeClipWrongFalsely : Prop := magnitudeClipRow.holds Try.pinned (OpenSpec.ofChange magnitudeClipWrong)

/-- 'mosaiclaw06.MagnitudeValue': WHATEVER THE INPUT: true; the input reads as it did. -/
def magnitudeValueSpec : ChangeSpec := { name := "magnitudeValue", fn := fun _ => fun
  | [d1, d2] => { results := [.lit (.bool true)], args := [d1, d2] }
  | _ => none }
def magnitudeValueRow : OpenClaim := { program := "ytacokffnonfacaa", sum := "e37ab02821d71b9719fb534fb2673c1aa116967ceb68408b01006490c5f70a64", func := "mosaic/mosaiclaw06.MagnitudeValue", spec := "magnitudeValue", apart := false }
def MagnitudeValueSaid : Prop := magnitudeValueRow.holds Try.pinned (OpenSpec.ofChange magnitudeValueSpec)

/-- ITS FALSE NEIGHBOUR: 'it returns false'. Refute it at one input. -/
def magnitudeValueWrong : ChangeSpec := { name := "magnitudeValue", fn := fun _ => fun
  | [d1, d2] => { results := [.lit (.bool false)], args := [d1, d2] }
  | _ => none }
def MagnitudeValueWrongFalsely : Prop := magnitudeValueRow.holds Try.pinned (OpenSpec.ofChange magnitudeValueWrong)

/-- 'mosaiclaw06.MagnitudeBits': WHATEVER THE INPUT: true; the input reads as it did. -/
def magnitudeBitsSpec : ChangeSpec := { name := "magnitudeBits", fn := fun _ => fun
  | [d] => { results := [.lit (.bool true)], args := [d] }
  | _ => none }
def magnitudeBitsRow : OpenClaim := { program := "ytacokffnonfacaa", sum := "e37ab02821d71b9719fb534fb2673c1aa116967ceb68408b01006490c5f70a64", func := "mosaic/mosaiclaw06.MagnitudeBits", spec := "magnitudeBits", apart := false }
def MagnitudeBitsSaid : Prop := magnitudeBitsRow.holds Try.pinned (OpenSpec.ofChange magnitudeBitsSpec)

/-- ITS FALSE NEIGHBOUR: 'it returns false'. Refute it at one input. -/
def magnitudeBitsWrong : ChangeSpec := { name := "magnitudeBits", fn := fun _ => fun
  | [d] => { results := [.lit (.bool false)], args := [d] }
  | _ => none }
def MagnitudeBitsWrongFalsely : Prop := magnitudeBitsRow.holds Try.pinned (OpenSpec.ofChange magnitudeBitsWrong)

/-- 'mosaiclaw06.MagnitudeBack': WHATEVER THE INPUT: true; the input reads as it did. -/
def magnitudeBackSpec : ChangeSpec := { name := "magnitudeBack", fn := fun _ => fun
  | [d1, d2, d3] => { results := [.lit (.bool true)], args := [d1, d2, d3] }
  | _ => none }
def magnitudeBackRow : OpenClaim := { program := "ytacokffnonfacaa", sum := "e37ab02821d71b9719fb534fb2673c1aa116967ceb68408b01006490c5f70a64", func := "mosaic/mosaiclaw06.MagnitudeBack", spec := "magnitudeBack", apart := false }
def MagnitudeBackSaid : Prop := magnitudeBackRow.holds Try.pinned (OpenSpec.ofChange magnitudeBackSpec)

/-- ITS FALSE NEIGHBOUR: 'it returns false'. Refute it at one input. -/
def magnitudeBackWrong : ChangeSpec := { name := "magnitudeBack", fn := fun _ => fun
  | [d1, d2, d3] => { results := [.lit (.bool false)], args := [d1, d2, d3] }
  | _ => none }
def MagnitudeBackWrongFalsely : Prop := magnitudeBackRow.holds Try.pinned (OpenSpec.ofChange magnitudeBackWrong)

/-- 'mosaiclaw06.MagnitudeOrder': WHATEVER THE INPUT: true; the input reads as it did. -/
def magnitudeOrderSpec : ChangeSpec := { name := "magnitudeOrder", fn := fun _ => fun
  | [d1, d2] => { results := [.lit (.bool true)], args := [d1, d2] }
  | _ => none }
def magnitudeOrderRow : OpenClaim := { program := "ytacokffnonfacaa", sum := "e37ab02821d71b9719fb534fb2673c1aa116967ceb68408b01006490c5f70a64", func := "mosaic/mosaiclaw06.MagnitudeOrder", spec := "magnitudeOrder", apart := false }
def MagnitudeOrderSaid : Prop := magnitudeOrderRow.holds Try.pinned (OpenSpec.ofChange magnitudeOrderSpec)

/-- ITS FALSE NEIGHBOUR: 'it returns false'. Refute it at one input. -/
def magnitudeOrderWrong : ChangeSpec := { name := "magnitudeOrder", fn := fun _ => fun
  | [d1, d2] => { results := [.lit (.bool false)], args := [d1, d2] }
  | _ => none }
def MagnitudeOrderWrongFalsely : Prop := magnitudeOrderRow.holds Try.pinned (OpenSpec.ofChange magnitudeOrderWrong)

/-- 'mosaiclaw06.MagnitudeNearest': WHATEVER THE INPUT: true; the input reads as it did. -/
def magnitudeNearestSpec : ChangeSpec := { name := "magnitudeNearest", fn := fun _ => fun
  | [d1, d2, d3] => { results := [.lit (.bool true)], args := [d1, d2, d3] }
  | _ => none }
def magnitudeNearestRow : OpenClaim := { program := "ytacokffnonfacaa", sum := "e37ab02821d71b9719fb534fb2673c1aa116967ceb68408b01006490c5f70a64", func := "mosaic/mosaiclaw06.MagnitudeNearest", spec := "magnitudeNearest", apart := false }
def MagnitudeNearestSaid : Prop := magnitudeNearestRow.holds Try.pinned (OpenSpec.ofChange magnitudeNearestSpec)

/-- ITS FALSE NEIGHBOUR: 'it returns false'. Refute it at one input. -/
def magnitudeNearestWrong : ChangeSpec := { name := "magnitudeNearest", fn := fun _ => fun
  | [d1, d2, d3] => { results := [.lit (.bool false)], args := [d1, d2, d3] }
  | _ => none }
def MagnitudeNearestWrongFalsely : Prop := magnitudeNearestRow.holds Try.pinned (OpenSpec.ofChange magnitudeNearestWrong)

/- THE SECOND FORM. 'bulk': how many values and letters a reading holds, each counted each time it is reached (what is shared counts as often as it is met; a slice's spare places count too). A statement '..UptoSaid' is the law's where the arguments, and the package variables that the reading takes, are together of bulk at most 1048576: NARROWER than '..Said'. Prove '..Said' where nothing that the law and all that it calls make is longer than what came in: it says more and counts as full. Else prove '..UptoSaid'. A law counts once. -/
mutual
def uptoBulk {H : Type} : DataW H → Nat
  | .lit (.string bytes) => bytes.length + 1
  | .lit _ => 1
  | .nil => 1
  | .ptr d => uptoBulk d + 1
  | .slice elems spare => uptoBulkAll elems + uptoBulkAll spare + 1
  | .agg parts => uptoBulkAll parts + 1
  | .iface _ d => uptoBulk d + 1
  | .map entries => uptoBulkEntries entries + 1
  | .held _ => 1
def uptoBulkAll {H : Type} : List (DataW H) → Nat
  | [] => 0
  | d :: r => uptoBulk d + uptoBulkAll r
def uptoBulkEntries {H : Type} : List (Lit × DataW H) → Nat
  | [] => 0
  | x :: r => uptoBulkEntry x + uptoBulkEntries r
def uptoBulkEntry {H : Type} : Lit × DataW H → Nat
  | (.string bytes, d) => bytes.length + uptoBulk d + 1
  | (_, d) => uptoBulk d + 1
 end
def uptoSmall : (H : Type) → List (DataW H) → Bool := fun _ ds => decide (uptoBulkAll ds ≤ 1048576)
def OpenSpec.upto (s : _root_.Go.ChangeSpec) : _root_.Go.OpenSpec := { _root_.Go.OpenSpec.ofChange s with cond := some uptoSmall }

/-- 'mosaiclaw06.MagnitudeClip', WHERE WHAT IT READS IS OF BULK AT MOST 1048576: true; the input reads as it did. -/
def magnitudeClipUptoRow : OpenClaim := { program := "ytacokffnonfacaa", sum := "e37ab02821d71b9719fb534fb2673c1aa116967ceb68408b01006490c5f70a64", func := "mosaic/mosaiclaw06.MagnitudeClip", spec := "magnitudeClip", apart := false, narrowed := true }
def MagnitudeClipUptoSaid : Prop := magnitudeClipUptoRow.holds Try.pinned (OpenSpec.upto magnitudeClipSpec)

/-- 'mosaiclaw06.MagnitudeValue', WHERE WHAT IT READS IS OF BULK AT MOST 1048576: true; the input reads as it did. -/
def magnitudeValueUptoRow : OpenClaim := { program := "ytacokffnonfacaa", sum := "e37ab02821d71b9719fb534fb2673c1aa116967ceb68408b01006490c5f70a64", func := "mosaic/mosaiclaw06.MagnitudeValue", spec := "magnitudeValue", apart := false, narrowed := true }
def MagnitudeValueUptoSaid : Prop := magnitudeValueUptoRow.holds Try.pinned (OpenSpec.upto magnitudeValueSpec)

/-- 'mosaiclaw06.MagnitudeBits', WHERE WHAT IT READS IS OF BULK AT MOST 1048576: true; the input reads as it did. -/
def magnitudeBitsUptoRow : OpenClaim := { program := "ytacokffnonfacaa", sum := "e37ab02821d71b9719fb534fb2673c1aa116967ceb68408b01006490c5f70a64", func := "mosaic/mosaiclaw06.MagnitudeBits", spec := "magnitudeBits", apart := false, narrowed := true }
def MagnitudeBitsUptoSaid : Prop := magnitudeBitsUptoRow.holds Try.pinned (OpenSpec.upto magnitudeBitsSpec)

/-- 'mosaiclaw06.MagnitudeBack', WHERE WHAT IT READS IS OF BULK AT MOST 1048576: true; the input reads as it did. -/
def magnitudeBackUptoRow : OpenClaim := { program := "ytacokffnonfacaa", sum := "e37ab02821d71b9719fb534fb2673c1aa116967ceb68408b01006490c5f70a64", func := "mosaic/mosaiclaw06.MagnitudeBack", spec := "magnitudeBack", apart := false, narrowed := true }
def MagnitudeBackUptoSaid : Prop := magnitudeBackUptoRow.holds Try.pinned (OpenSpec.upto magnitudeBackSpec)

/-- 'mosaiclaw06.MagnitudeOrder', WHERE WHAT IT READS IS OF BULK AT MOST 1048576: true; the input reads as it did. -/
def magnitudeOrderUptoRow : OpenClaim := { program := "ytacokffnonfacaa", sum := "e37ab02821d71b9719fb534fb2673c1aa116967ceb68408b01006490c5f70a64", func := "mosaic/mosaiclaw06.MagnitudeOrder", spec := "magnitudeOrder", apart := false, narrowed := true }
def MagnitudeOrderUptoSaid : Prop := magnitudeOrderUptoRow.holds Try.pinned (OpenSpec.upto magnitudeOrderSpec)

/-- 'mosaiclaw06.MagnitudeNearest', WHERE WHAT IT READS IS OF BULK AT MOST 1048576: true; the input reads as it did. -/
def magnitudeNearestUptoRow : OpenClaim := { program := "ytacokffnonfacaa", sum := "e37ab02821d71b9719fb534fb2673c1aa116967ceb68408b01006490c5f70a64", func := "mosaic/mosaiclaw06.MagnitudeNearest", spec := "magnitudeNearest", apart := false, narrowed := true }
def MagnitudeNearestUptoSaid : Prop := magnitudeNearestUptoRow.holds Try.pinned (OpenSpec.upto magnitudeNearestSpec)

end Rows
end Go.Proofs.Ytacokffnonfacaa
