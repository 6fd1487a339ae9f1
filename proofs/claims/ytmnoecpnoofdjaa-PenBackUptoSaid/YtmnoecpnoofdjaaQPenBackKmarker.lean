/- Of this text what the row needs. -/
import Derived.Test.YtmnoecpnoofdjaaQPenBackKshelf
namespace Go.Proofs.Ytmnoecpnoofdjaa.G
open Go.RowKit
set_option linter.unusedVariables false
set_option maxRecDepth 20000
set_option maxHeartbeats 4000000
set_option linter.unusedSimpArgs false
def marker_Free.enc : Bool → Value := fun r => .bool r
def marker_Free.s (a0 : ByteArray) (H0 : Hp) (Q : Bool → Hp → Prop) : Prop :=
 strings_Count.s a0 (⟨#[255]⟩ : ByteArray) H0 (fun x1 H2 => strings_Count.s a0 (⟨#[255, 0]⟩ : ByteArray) H2 (fun x3 H4 => Q (x1 == x3) H4))
theorem marker_Free.calls (a0 : ByteArray) (w0 : World) (Q : Bool → Hp → Prop) (h : marker_Free.s a0 w0.heap Q) :
  Ca Try.prog 11 #[.string a0] w0 (Rt marker_Free.enc Q w0) := by
 refine ca_start (c := _) Try.func11 rfl Try.ntmps11 rfl ?_
 have so : Sm w0 w0 := Sm.refl w0
 unfold marker_Free.s at h
 refine wc_prune [(0, .string a0)] ⟨rfl, trivial⟩ (fun f1 => ?_)
 refine wc_seq (wc_region (wl_val (at_assign rfl) rfl (wl_nil (wk_prune [(0, .string a0)] ⟨rfl, trivial⟩ fun f1 => wk_then (wc_seq (wc_region (wl_val (at_move rfl) rfl ?_)))))))
 refine wl_callF (strings_Count.calls _ _ _ _ h) enter33 rfl trivial so ?_; intro x1 w2 h so
 refine wl_val (at_move rfl) rfl ?_
 refine wl_callF (strings_Count.calls _ _ _ _ h) enter33 rfl trivial so ?_; intro x3 w4 h so
 exact wl_val (at_eql rfl rfl) rfl (wl_val (at_assign rfl) rfl (wl_nil (wk_prune [(2, .bool (x1 == x3))] ⟨rfl, trivial⟩ fun f1 => wk_then (wc_ret (wk_ret1 (x := (x1 == x3)) rfl (by decide) rfl so h)))))
end Go.Proofs.Ytmnoecpnoofdjaa.G
