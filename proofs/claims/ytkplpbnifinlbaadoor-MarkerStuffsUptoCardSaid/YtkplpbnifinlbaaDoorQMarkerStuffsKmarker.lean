/- Of this text what the row needs. -/
import Derived.Test.YtkplpbnifinlbaaDoorQMarkerStuffsKshelf
import Derived.Test.YtkplpbnifinlbaaDoorQMarkerStuffsKstrconv
namespace Go.Proofs.YtkplpbnifinlbaaDoor.G
open Go.RowKit
set_option linter.unusedVariables false
set_option linter.unusedSimpArgs false
def marker_numbered.enc : ByteArray → Value := fun r => .string r
def marker_Name.enc : ByteArray → Value := fun r => .string r
def marker_Code.enc : Int × Bool → Value := fun r => .tuple #[.int .u8 r.1, .bool r.2]
def marker_Kind.enc : Int → Value := fun r => .int .i8 r
def marker_Free.enc : Bool → Value := fun r => .bool r
def marker_Free.s (a0 : ByteArray) (H0 : Hp) (Q : Bool → Hp → Prop) : Prop :=
  strings_Count.s a0 (⟨#[255]⟩ : ByteArray) H0 (fun x1 H2 => strings_Count.s a0 (⟨#[255, 0]⟩ : ByteArray) H2 (fun x3 H4 => Q (x1 == x3) H4))
set_option maxRecDepth 20000 in
set_option maxHeartbeats 4000000 in
theorem marker_Free.calls (a0 : ByteArray) (w0 : World) (Q : Bool → Hp → Prop) (h : marker_Free.s a0 w0.heap Q) :
    Ca Tryd.prog 16 #[.string a0] w0 (Rt marker_Free.enc Q w0) := by
  refine ca_start (c := _) Tryd.func16 rfl Tryd.ntmps16 rfl ?_
  have so : Sm w0 w0 := Sm.refl w0
  unfold marker_Free.s at h
  refine wc_prune [(0, .string a0)] ⟨rfl, trivial⟩ (fun f1 => ?_)
  refine wc_seq ?_
  refine wc_region ?_
  refine wl_val (at_assign rfl) rfl ?_
  refine wl_nil ?_
  refine wk_prune [(0, .string a0)] ⟨rfl, trivial⟩ (fun f1 => ?_)
  refine wk_then ?_
  refine wc_seq ?_
  refine wc_region ?_
  refine wl_val (at_move rfl) rfl ?_
  refine wl_callF (strings_Count.calls _ _ _ _ h) enter29 rfl trivial so ?_; intro x1 w2 h so
  refine wl_val (at_move rfl) rfl ?_
  refine wl_callF (strings_Count.calls _ _ _ _ h) enter29 rfl trivial so ?_; intro x3 w4 h so
  refine wl_val (at_eql rfl rfl) rfl ?_
  refine wl_val (at_assign rfl) rfl ?_
  refine wl_nil ?_
  refine wk_prune [(2, .bool (x1 == x3))] ⟨rfl, trivial⟩ (fun f1 => ?_)
  refine wk_then ?_
  refine wc_ret ?_
  exact wk_ret1 (x := (x1 == x3)) rfl (by decide) rfl so h
def marker_Stuff.enc : ByteArray → Value := fun r => .string r
def marker_Stuff.s (a0 : ByteArray) (H0 : Hp) (Q : ByteArray → Hp → Prop) : Prop :=
  strings_ReplaceAll.s a0 (⟨#[255]⟩ : ByteArray) (⟨#[255, 0]⟩ : ByteArray) H0 (fun x1 H2 => Q x1 H2)
set_option maxRecDepth 20000 in
set_option maxHeartbeats 4000000 in
theorem marker_Stuff.calls (a0 : ByteArray) (w0 : World) (Q : ByteArray → Hp → Prop) (h : marker_Stuff.s a0 w0.heap Q) :
    Ca Tryd.prog 18 #[.string a0] w0 (Rt marker_Stuff.enc Q w0) := by
  refine ca_start (c := _) Tryd.func18 rfl Tryd.ntmps18 rfl ?_
  have so : Sm w0 w0 := Sm.refl w0
  unfold marker_Stuff.s at h
  refine wc_prune [(0, .string a0)] ⟨rfl, trivial⟩ (fun f1 => ?_)
  refine wc_seq ?_
  refine wc_region ?_
  refine wl_val (at_assign rfl) rfl ?_
  refine wl_nil ?_
  refine wk_prune [(0, .string a0)] ⟨rfl, trivial⟩ (fun f1 => ?_)
  refine wk_then ?_
  refine wc_seq ?_
  refine wc_region ?_
  refine wl_val (at_move rfl) rfl ?_
  refine wl_callF (strings_ReplaceAll.calls _ _ _ _ _ h) enter30 rfl trivial so ?_; intro x1 w2 h so
  refine wl_val (at_assign rfl) rfl ?_
  refine wl_nil ?_
  refine wk_prune [(2, .string x1)] ⟨rfl, trivial⟩ (fun f1 => ?_)
  refine wk_then ?_
  refine wc_ret ?_
  exact wk_ret1 (x := x1) rfl (by decide) rfl so h
def marker_Next.enc : Int × Int × Int × Bool → Value := fun r => .tuple #[.agg (c32 r.1 r.2.1 r.2.2.1).toArray, .bool r.2.2.2]
def marker_All.enc : Addr → Value := fun r => .func (.func 32) #[] #[.pointer (some r)]
def marker_All_1.enc : Unit → Value := fun _ => .tuple #[]
end Go.Proofs.YtkplpbnifinlbaaDoor.G
