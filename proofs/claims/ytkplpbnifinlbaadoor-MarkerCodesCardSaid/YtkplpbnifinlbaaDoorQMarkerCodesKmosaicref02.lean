/- Of this text what the row needs. -/
import Derived.Test.YtkplpbnifinlbaaDoorQMarkerCodesKshelf
namespace Go.Proofs.YtkplpbnifinlbaaDoor.G
open Go.RowKit
set_option linter.unusedVariables false
set_option linter.unusedSimpArgs false
def mosaicref02_Rows.enc : Sl → Value := fun r => .slice r.a r.n r.c
def mosaicref02_Rows.s (H0 : Hp) (Q : Sl → Hp → Prop) : Prop :=
  nw H0 46 ((c46 1 1 4 (⟨#[84, 69, 77]⟩ : ByteArray) 255) ++ (c46 192 195 5 (⟨#[83, 79, 70]⟩ : ByteArray) 192) ++ (c46 196 196 7 (⟨#[68, 72, 84]⟩ : ByteArray) 255) ++ (c46 197 199 5 (⟨#[83, 79, 70]⟩ : ByteArray) 192) ++ (c46 200 200 7 (⟨#[74, 80, 71]⟩ : ByteArray) 255) ++ (c46 201 203 5 (⟨#[83, 79, 70]⟩ : ByteArray) 192) ++ (c46 204 204 7 (⟨#[68, 65, 67]⟩ : ByteArray) 255) ++ (c46 205 207 5 (⟨#[83, 79, 70]⟩ : ByteArray) 192) ++ (c46 208 215 3 (⟨#[82, 83, 84]⟩ : ByteArray) 208) ++ (c46 216 216 1 (⟨#[83, 79, 73]⟩ : ByteArray) 255) ++ (c46 217 217 2 (⟨#[69, 79, 73]⟩ : ByteArray) 255) ++ (c46 218 218 6 (⟨#[83, 79, 83]⟩ : ByteArray) 255) ++ (c46 219 219 7 (⟨#[68, 81, 84]⟩ : ByteArray) 255) ++ (c46 220 220 7 (⟨#[68, 78, 76]⟩ : ByteArray) 255) ++ (c46 221 221 7 (⟨#[68, 82, 73]⟩ : ByteArray) 255) ++ (c46 222 222 7 (⟨#[68, 72, 80]⟩ : ByteArray) 255) ++ (c46 223 223 7 (⟨#[69, 88, 80]⟩ : ByteArray) 255) ++ (c46 224 239 7 (⟨#[65, 80, 80]⟩ : ByteArray) 224) ++ (c46 240 253 7 (⟨#[74, 80, 71]⟩ : ByteArray) 240) ++ (c46 254 254 7 (⟨#[67, 79, 77]⟩ : ByteArray) 255)) (fun p1 H2 => Q ⟨(some p1), 20, 20⟩ H2)
set_option maxRecDepth 20000 in
set_option maxHeartbeats 4000000 in
theorem mosaicref02_Rows.calls (w0 : World) (Q : Sl → Hp → Prop) (h : mosaicref02_Rows.s w0.heap Q) :
    Ca Tryd.prog 33 #[] w0 (Rt mosaicref02_Rows.enc Q w0) := by
  refine ca_start (c := _) Tryd.func33 rfl Tryd.ntmps33 rfl ?_
  have so : Sm w0 w0 := Sm.refl w0
  unfold mosaicref02_Rows.s at h
  refine wc_prune [] trivial (fun f1 => ?_)
  refine wc_seq ?_
  refine wc_region ?_
  refine wl_val (at_assign rfl) rfl ?_
  refine wl_nil ?_
  refine wk_prune [] trivial (fun f1 => ?_)
  refine wk_then ?_
  refine wc_seq ?_
  refine wc_region ?_
  refine wl_val (at_build (cs := (c46 1 1 4 (⟨#[84, 69, 77]⟩ : ByteArray) 255)) (ps := [(0, .int .u8 1), (1, .int .u8 1), (2, .int .i8 4), (3, .string (⟨#[84, 69, 77]⟩ : ByteArray)), (4, .int .u8 255)]) rfl (fun w => by simp [Instr.build, Instr.fill, go_sem, Tryd.underlying46, z46] <;> rfl)) rfl ?_
  refine wl_val (at_build (cs := (c46 192 195 5 (⟨#[83, 79, 70]⟩ : ByteArray) 192)) (ps := [(0, .int .u8 192), (1, .int .u8 195), (2, .int .i8 5), (3, .string (⟨#[83, 79, 70]⟩ : ByteArray)), (4, .int .u8 192)]) rfl (fun w => by simp [Instr.build, Instr.fill, go_sem, Tryd.underlying46, z46] <;> rfl)) rfl ?_
  refine wl_val (at_build (cs := (c46 196 196 7 (⟨#[68, 72, 84]⟩ : ByteArray) 255)) (ps := [(0, .int .u8 196), (1, .int .u8 196), (2, .int .i8 7), (3, .string (⟨#[68, 72, 84]⟩ : ByteArray)), (4, .int .u8 255)]) rfl (fun w => by simp [Instr.build, Instr.fill, go_sem, Tryd.underlying46, z46] <;> rfl)) rfl ?_
  refine wl_val (at_build (cs := (c46 197 199 5 (⟨#[83, 79, 70]⟩ : ByteArray) 192)) (ps := [(0, .int .u8 197), (1, .int .u8 199), (2, .int .i8 5), (3, .string (⟨#[83, 79, 70]⟩ : ByteArray)), (4, .int .u8 192)]) rfl (fun w => by simp [Instr.build, Instr.fill, go_sem, Tryd.underlying46, z46] <;> rfl)) rfl ?_
  refine wl_val (at_build (cs := (c46 200 200 7 (⟨#[74, 80, 71]⟩ : ByteArray) 255)) (ps := [(0, .int .u8 200), (1, .int .u8 200), (2, .int .i8 7), (3, .string (⟨#[74, 80, 71]⟩ : ByteArray)), (4, .int .u8 255)]) rfl (fun w => by simp [Instr.build, Instr.fill, go_sem, Tryd.underlying46, z46] <;> rfl)) rfl ?_
  refine wl_val (at_build (cs := (c46 201 203 5 (⟨#[83, 79, 70]⟩ : ByteArray) 192)) (ps := [(0, .int .u8 201), (1, .int .u8 203), (2, .int .i8 5), (3, .string (⟨#[83, 79, 70]⟩ : ByteArray)), (4, .int .u8 192)]) rfl (fun w => by simp [Instr.build, Instr.fill, go_sem, Tryd.underlying46, z46] <;> rfl)) rfl ?_
  refine wl_val (at_build (cs := (c46 204 204 7 (⟨#[68, 65, 67]⟩ : ByteArray) 255)) (ps := [(0, .int .u8 204), (1, .int .u8 204), (2, .int .i8 7), (3, .string (⟨#[68, 65, 67]⟩ : ByteArray)), (4, .int .u8 255)]) rfl (fun w => by simp [Instr.build, Instr.fill, go_sem, Tryd.underlying46, z46] <;> rfl)) rfl ?_
  refine wl_val (at_build (cs := (c46 205 207 5 (⟨#[83, 79, 70]⟩ : ByteArray) 192)) (ps := [(0, .int .u8 205), (1, .int .u8 207), (2, .int .i8 5), (3, .string (⟨#[83, 79, 70]⟩ : ByteArray)), (4, .int .u8 192)]) rfl (fun w => by simp [Instr.build, Instr.fill, go_sem, Tryd.underlying46, z46] <;> rfl)) rfl ?_
  refine wl_val (at_build (cs := (c46 208 215 3 (⟨#[82, 83, 84]⟩ : ByteArray) 208)) (ps := [(0, .int .u8 208), (1, .int .u8 215), (2, .int .i8 3), (3, .string (⟨#[82, 83, 84]⟩ : ByteArray)), (4, .int .u8 208)]) rfl (fun w => by simp [Instr.build, Instr.fill, go_sem, Tryd.underlying46, z46] <;> rfl)) rfl ?_
  refine wl_val (at_build (cs := (c46 216 216 1 (⟨#[83, 79, 73]⟩ : ByteArray) 255)) (ps := [(0, .int .u8 216), (1, .int .u8 216), (2, .int .i8 1), (3, .string (⟨#[83, 79, 73]⟩ : ByteArray)), (4, .int .u8 255)]) rfl (fun w => by simp [Instr.build, Instr.fill, go_sem, Tryd.underlying46, z46] <;> rfl)) rfl ?_
  refine wl_val (at_build (cs := (c46 217 217 2 (⟨#[69, 79, 73]⟩ : ByteArray) 255)) (ps := [(0, .int .u8 217), (1, .int .u8 217), (2, .int .i8 2), (3, .string (⟨#[69, 79, 73]⟩ : ByteArray)), (4, .int .u8 255)]) rfl (fun w => by simp [Instr.build, Instr.fill, go_sem, Tryd.underlying46, z46] <;> rfl)) rfl ?_
  refine wl_val (at_build (cs := (c46 218 218 6 (⟨#[83, 79, 83]⟩ : ByteArray) 255)) (ps := [(0, .int .u8 218), (1, .int .u8 218), (2, .int .i8 6), (3, .string (⟨#[83, 79, 83]⟩ : ByteArray)), (4, .int .u8 255)]) rfl (fun w => by simp [Instr.build, Instr.fill, go_sem, Tryd.underlying46, z46] <;> rfl)) rfl ?_
  refine wl_val (at_build (cs := (c46 219 219 7 (⟨#[68, 81, 84]⟩ : ByteArray) 255)) (ps := [(0, .int .u8 219), (1, .int .u8 219), (2, .int .i8 7), (3, .string (⟨#[68, 81, 84]⟩ : ByteArray)), (4, .int .u8 255)]) rfl (fun w => by simp [Instr.build, Instr.fill, go_sem, Tryd.underlying46, z46] <;> rfl)) rfl ?_
  refine wl_val (at_build (cs := (c46 220 220 7 (⟨#[68, 78, 76]⟩ : ByteArray) 255)) (ps := [(0, .int .u8 220), (1, .int .u8 220), (2, .int .i8 7), (3, .string (⟨#[68, 78, 76]⟩ : ByteArray)), (4, .int .u8 255)]) rfl (fun w => by simp [Instr.build, Instr.fill, go_sem, Tryd.underlying46, z46] <;> rfl)) rfl ?_
  refine wl_val (at_build (cs := (c46 221 221 7 (⟨#[68, 82, 73]⟩ : ByteArray) 255)) (ps := [(0, .int .u8 221), (1, .int .u8 221), (2, .int .i8 7), (3, .string (⟨#[68, 82, 73]⟩ : ByteArray)), (4, .int .u8 255)]) rfl (fun w => by simp [Instr.build, Instr.fill, go_sem, Tryd.underlying46, z46] <;> rfl)) rfl ?_
  refine wl_val (at_build (cs := (c46 222 222 7 (⟨#[68, 72, 80]⟩ : ByteArray) 255)) (ps := [(0, .int .u8 222), (1, .int .u8 222), (2, .int .i8 7), (3, .string (⟨#[68, 72, 80]⟩ : ByteArray)), (4, .int .u8 255)]) rfl (fun w => by simp [Instr.build, Instr.fill, go_sem, Tryd.underlying46, z46] <;> rfl)) rfl ?_
  refine wl_val (at_build (cs := (c46 223 223 7 (⟨#[69, 88, 80]⟩ : ByteArray) 255)) (ps := [(0, .int .u8 223), (1, .int .u8 223), (2, .int .i8 7), (3, .string (⟨#[69, 88, 80]⟩ : ByteArray)), (4, .int .u8 255)]) rfl (fun w => by simp [Instr.build, Instr.fill, go_sem, Tryd.underlying46, z46] <;> rfl)) rfl ?_
  refine wl_val (at_build (cs := (c46 224 239 7 (⟨#[65, 80, 80]⟩ : ByteArray) 224)) (ps := [(0, .int .u8 224), (1, .int .u8 239), (2, .int .i8 7), (3, .string (⟨#[65, 80, 80]⟩ : ByteArray)), (4, .int .u8 224)]) rfl (fun w => by simp [Instr.build, Instr.fill, go_sem, Tryd.underlying46, z46] <;> rfl)) rfl ?_
  refine wl_val (at_build (cs := (c46 240 253 7 (⟨#[74, 80, 71]⟩ : ByteArray) 240)) (ps := [(0, .int .u8 240), (1, .int .u8 253), (2, .int .i8 7), (3, .string (⟨#[74, 80, 71]⟩ : ByteArray)), (4, .int .u8 240)]) rfl (fun w => by simp [Instr.build, Instr.fill, go_sem, Tryd.underlying46, z46] <;> rfl)) rfl ?_
  refine wl_val (at_build (cs := (c46 254 254 7 (⟨#[67, 79, 77]⟩ : ByteArray) 255)) (ps := [(0, .int .u8 254), (1, .int .u8 254), (2, .int .i8 7), (3, .string (⟨#[67, 79, 77]⟩ : ByteArray)), (4, .int .u8 255)]) rfl (fun w => by simp [Instr.build, Instr.fill, go_sem, Tryd.underlying46, z46] <;> rfl)) rfl ?_
  obtain ⟨i4, i4a, i4b, i4c, i4d⟩ := info46
  refine wl_newS (ef_buildSlice (cs := ((c46 1 1 4 (⟨#[84, 69, 77]⟩ : ByteArray) 255) ++ (c46 192 195 5 (⟨#[83, 79, 70]⟩ : ByteArray) 192) ++ (c46 196 196 7 (⟨#[68, 72, 84]⟩ : ByteArray) 255) ++ (c46 197 199 5 (⟨#[83, 79, 70]⟩ : ByteArray) 192) ++ (c46 200 200 7 (⟨#[74, 80, 71]⟩ : ByteArray) 255) ++ (c46 201 203 5 (⟨#[83, 79, 70]⟩ : ByteArray) 192) ++ (c46 204 204 7 (⟨#[68, 65, 67]⟩ : ByteArray) 255) ++ (c46 205 207 5 (⟨#[83, 79, 70]⟩ : ByteArray) 192) ++ (c46 208 215 3 (⟨#[82, 83, 84]⟩ : ByteArray) 208) ++ (c46 216 216 1 (⟨#[83, 79, 73]⟩ : ByteArray) 255) ++ (c46 217 217 2 (⟨#[69, 79, 73]⟩ : ByteArray) 255) ++ (c46 218 218 6 (⟨#[83, 79, 83]⟩ : ByteArray) 255) ++ (c46 219 219 7 (⟨#[68, 81, 84]⟩ : ByteArray) 255) ++ (c46 220 220 7 (⟨#[68, 78, 76]⟩ : ByteArray) 255) ++ (c46 221 221 7 (⟨#[68, 82, 73]⟩ : ByteArray) 255) ++ (c46 222 222 7 (⟨#[68, 72, 80]⟩ : ByteArray) 255) ++ (c46 223 223 7 (⟨#[69, 88, 80]⟩ : ByteArray) 255) ++ (c46 224 239 7 (⟨#[65, 80, 80]⟩ : ByteArray) 224) ++ (c46 240 253 7 (⟨#[74, 80, 71]⟩ : ByteArray) 240) ++ (c46 254 254 7 (⟨#[67, 79, 77]⟩ : ByteArray) 255))) (ps := [(0, .agg (c46 1 1 4 (⟨#[84, 69, 77]⟩ : ByteArray) 255).toArray), (1, .agg (c46 192 195 5 (⟨#[83, 79, 70]⟩ : ByteArray) 192).toArray), (2, .agg (c46 196 196 7 (⟨#[68, 72, 84]⟩ : ByteArray) 255).toArray), (3, .agg (c46 197 199 5 (⟨#[83, 79, 70]⟩ : ByteArray) 192).toArray), (4, .agg (c46 200 200 7 (⟨#[74, 80, 71]⟩ : ByteArray) 255).toArray), (5, .agg (c46 201 203 5 (⟨#[83, 79, 70]⟩ : ByteArray) 192).toArray), (6, .agg (c46 204 204 7 (⟨#[68, 65, 67]⟩ : ByteArray) 255).toArray), (7, .agg (c46 205 207 5 (⟨#[83, 79, 70]⟩ : ByteArray) 192).toArray), (8, .agg (c46 208 215 3 (⟨#[82, 83, 84]⟩ : ByteArray) 208).toArray), (9, .agg (c46 216 216 1 (⟨#[83, 79, 73]⟩ : ByteArray) 255).toArray), (10, .agg (c46 217 217 2 (⟨#[69, 79, 73]⟩ : ByteArray) 255).toArray), (11, .agg (c46 218 218 6 (⟨#[83, 79, 83]⟩ : ByteArray) 255).toArray), (12, .agg (c46 219 219 7 (⟨#[68, 81, 84]⟩ : ByteArray) 255).toArray), (13, .agg (c46 220 220 7 (⟨#[68, 78, 76]⟩ : ByteArray) 255).toArray), (14, .agg (c46 221 221 7 (⟨#[68, 82, 73]⟩ : ByteArray) 255).toArray), (15, .agg (c46 222 222 7 (⟨#[68, 72, 80]⟩ : ByteArray) 255).toArray), (16, .agg (c46 223 223 7 (⟨#[69, 88, 80]⟩ : ByteArray) 255).toArray), (17, .agg (c46 224 239 7 (⟨#[65, 80, 80]⟩ : ByteArray) 224).toArray), (18, .agg (c46 240 253 7 (⟨#[74, 80, 71]⟩ : ByteArray) 240).toArray), (19, .agg (c46 254 254 7 (⟨#[67, 79, 77]⟩ : ByteArray) 255).toArray)]) Tryd.underlying57 i4a i4b rfl (by rw [i4c]; decide) (by rw [i4c]; exact fill_full (vs := [.agg (c46 1 1 4 (⟨#[84, 69, 77]⟩ : ByteArray) 255).toArray, .agg (c46 192 195 5 (⟨#[83, 79, 70]⟩ : ByteArray) 192).toArray, .agg (c46 196 196 7 (⟨#[68, 72, 84]⟩ : ByteArray) 255).toArray, .agg (c46 197 199 5 (⟨#[83, 79, 70]⟩ : ByteArray) 192).toArray, .agg (c46 200 200 7 (⟨#[74, 80, 71]⟩ : ByteArray) 255).toArray, .agg (c46 201 203 5 (⟨#[83, 79, 70]⟩ : ByteArray) 192).toArray, .agg (c46 204 204 7 (⟨#[68, 65, 67]⟩ : ByteArray) 255).toArray, .agg (c46 205 207 5 (⟨#[83, 79, 70]⟩ : ByteArray) 192).toArray, .agg (c46 208 215 3 (⟨#[82, 83, 84]⟩ : ByteArray) 208).toArray, .agg (c46 216 216 1 (⟨#[83, 79, 73]⟩ : ByteArray) 255).toArray, .agg (c46 217 217 2 (⟨#[69, 79, 73]⟩ : ByteArray) 255).toArray, .agg (c46 218 218 6 (⟨#[83, 79, 83]⟩ : ByteArray) 255).toArray, .agg (c46 219 219 7 (⟨#[68, 81, 84]⟩ : ByteArray) 255).toArray, .agg (c46 220 220 7 (⟨#[68, 78, 76]⟩ : ByteArray) 255).toArray, .agg (c46 221 221 7 (⟨#[68, 82, 73]⟩ : ByteArray) 255).toArray, .agg (c46 222 222 7 (⟨#[68, 72, 80]⟩ : ByteArray) 255).toArray, .agg (c46 223 223 7 (⟨#[69, 88, 80]⟩ : ByteArray) 255).toArray, .agg (c46 224 239 7 (⟨#[65, 80, 80]⟩ : ByteArray) 224).toArray, .agg (c46 240 253 7 (⟨#[74, 80, 71]⟩ : ByteArray) 240).toArray, .agg (c46 254 254 7 (⟨#[67, 79, 77]⟩ : ByteArray) 255).toArray]) rfl (by simp [Value.cells]) (by simp [Value.cells, len46]) rfl (by simp))) rfl so (ones_app (ones_app (ones_app (ones_app (ones_app (ones_app (ones_app (ones_app (ones_app (ones_app (ones_app (ones_app (ones_app (ones_app (ones_app (ones_app (ones_app (ones_app (ones_app (one46 _ _ _ _ _) (one46 _ _ _ _ _)) (one46 _ _ _ _ _)) (one46 _ _ _ _ _)) (one46 _ _ _ _ _)) (one46 _ _ _ _ _)) (one46 _ _ _ _ _)) (one46 _ _ _ _ _)) (one46 _ _ _ _ _)) (one46 _ _ _ _ _)) (one46 _ _ _ _ _)) (one46 _ _ _ _ _)) (one46 _ _ _ _ _)) (one46 _ _ _ _ _)) (one46 _ _ _ _ _)) (one46 _ _ _ _ _)) (one46 _ _ _ _ _)) (one46 _ _ _ _ _)) (one46 _ _ _ _ _)) (one46 _ _ _ _ _)) h ?_; intro p1 w2 h r3 so
  refine wl_val (at_assign rfl) rfl ?_
  refine wl_nil ?_
  refine wk_prune [(0, .slice (some p1) 20 20)] ⟨rfl, trivial⟩ (fun f1 => ?_)
  refine wk_then ?_
  refine wc_ret ?_
  exact wk_ret1 (x := ⟨(some p1), 20, 20⟩) rfl (by decide) rfl so h
def mosaicref02_row.enc : Int × Int × Int × ByteArray × Int × Bool → Value := fun r => .tuple #[.agg (c46 r.1 r.2.1 r.2.2.1 r.2.2.2.1 r.2.2.2.2.1).toArray, .bool r.2.2.2.2.2]
def mosaicref02_row.s (a0 : Int) (H0 : Hp) (Q : (Int × Int × Int × ByteArray × Int × Bool) → Hp → Prop) : Prop :=
  Gn [] H0 (fun (b1 : Nat) (H2 : Hp) => mosaicref02_Rows.s H2 (fun x3 H4 => Pv [b1] H2 H4 ∧ (Bk H4 b1 46 (c46 0 0 0 ByteArray.empty 0) → (∃ k6, Fix (fun (rec11 : Int → Hp → Prop) (s8 : Int) (H9 : Hp) => if decide (s8 < (x3.n : Int)) = true then (Join (fun (s13 : Bool) (H14 : Hp) => if s13 = true then (0 ≤ s8 ∧ s8 < (x3.n : Int) ∧ someA x3.a (fun p17 => ∃ x19 : Int, ∃ x20 : Int, ∃ x21 : Int, ∃ x22 : ByteArray, ∃ x23 : Int, ldA H14 (p17.add (Int.toNat s8 * 5)) (c46 x19 x20 x21 x22 x23) ∧ (stA H14 (⟨b1, 0, none⟩ : Addr) (c46 x19 x20 x21 x22 x23) (fun H25 => ∃ x27 : Int, ∃ x28 : Int, ∃ x29 : Int, ∃ x30 : ByteArray, ∃ x31 : Int, ldA H25 (⟨b1, 0, none⟩ : Addr) (c46 x27 x28 x29 x30 x31) ∧ (Q (x27, x28, x29, x30, x31, true) H25))))) else (rec11 ((IntKind.wrap .i64 (s8 + 1))) H14)) (fun (J12 : Bool → Hp → Prop) => 0 ≤ s8 ∧ s8 < (x3.n : Int) ∧ someA x3.a (fun p34 => ldI .u8 H9 ((p34.add (Int.toNat s8 * 5)).add 0) (fun x36 => if decide (x36 ≤ a0) = true then (0 ≤ s8 ∧ s8 < (x3.n : Int) ∧ (ldI .u8 H9 ((p34.add (Int.toNat s8 * 5)).add 1) (fun x40 => J12 ((decide (a0 ≤ x40))) H9))) else (J12 (false) H9))))) else (stA H9 (⟨b1, 0, none⟩ : Addr) (c46 0 0 0 ByteArray.empty 0) (fun H42 => ∃ x44 : Int, ∃ x45 : Int, ∃ x46 : Int, ∃ x47 : ByteArray, ∃ x48 : Int, ldA H42 (⟨b1, 0, none⟩ : Addr) (c46 x44 x45 x46 x47 x48) ∧ (Q (x44, x45, x46, x47, x48, false) H42)))) k6 (0) H4))))
set_option maxRecDepth 20000 in
set_option maxHeartbeats 4000000 in
theorem mosaicref02_row.calls (a0 : Int) (w0 : World) (Q : (Int × Int × Int × ByteArray × Int × Bool) → Hp → Prop) (h : mosaicref02_row.s a0 w0.heap Q) :
    Ca Tryd.prog 26 #[.int .u8 a0] w0 (Rt mosaicref02_row.enc Q w0) := by
  refine ca_start (c := _) Tryd.func26 rfl Tryd.ntmps26 rfl ?_
  have so : Sm w0 w0 := Sm.refl w0
  unfold mosaicref02_row.s at h
  refine wc_prune [(0, .int .u8 a0)] ⟨rfl, trivial⟩ (fun f1 => ?_)
  refine wc_seq ?_
  refine wc_region ?_
  refine wl_newT (T := 46) (cs := (c46 0 0 0 ByteArray.empty 0)) (ef_alloc zero46 rfl) rfl so ?_; intro b1 w2 hb_b1 t_b1 k_b1 so
  have g_b1 := Nat.le_of_eq hb_b1.symm
  have hc := k_b1.ch (F := [])
  refine wl_val (at_assign rfl) rfl ?_
  refine wl_nil ?_
  refine wk_prune [(0, .int .u8 a0), (2, .pointer (some (⟨b1, 0, none⟩ : Addr)))] ⟨rfl, rfl, trivial⟩ (fun f1 => ?_)
  refine wk_then ?_
  refine wc_seq ?_
  refine wc_region ?_
  replace h := h b1 _ hc g_b1 t_b1.lt; clear hc
  refine wl_callF (mosaicref02_Rows.calls _ _ h) enter33 rfl trivial so ?_; intro x3 w4 h so
  obtain ⟨q5, h⟩ := h
  replace t_b1 := pv_bk q5 t_b1 (by simp)
  refine wl_val (at_assign rfl) rfl ?_
  refine wl_nil ?_
  refine wk_prune [(0, .int .u8 a0), (2, .pointer (some (⟨b1, 0, none⟩ : Addr))), (4, .slice x3.a x3.n x3.c)] ⟨rfl, rfl, rfl, trivial⟩ (fun f1 => ?_)
  refine wk_then ?_
  refine wc_seq ?_
  refine wc_seq ?_
  refine wc_region ?_
  refine wl_val (at_assign rfl) rfl ?_
  refine wl_nil ?_
  refine wk_prune [(0, .int .u8 a0), (2, .pointer (some (⟨b1, 0, none⟩ : Addr))), (4, .slice x3.a x3.n x3.c), (5, .int .i64 0)] ⟨rfl, rfl, rfl, rfl, trivial⟩ (fun f1 => ?_)
  refine wk_then ?_
  refine wc_block ?_
  replace h := h t_b1
  obtain ⟨k6, h⟩ := h
  refine wc_loop (fun k a w => ∃ (s8 : Int) (f1 : Nat → Value), a = ac 34 (en f1 [(0, .int .u8 a0), (2, .pointer (some (⟨b1, 0, none⟩ : Addr))), (4, .slice x3.a x3.n x3.c), (5, .int .i64 s8)]) [] ∧ Sm w0 w ∧ Fix _ k s8 w.heap) k6 ⟨(0), _, ac_again ⟨rfl, rfl, rfl, rfl, trivial⟩, so, h⟩ ?_
  rintro k7 a10 w9 ⟨s8, f1, rfl, so, h⟩
  rcases k7 with _ | k7
  · exact h.elim
  replace h := Fix.un h; refine wc_in ?_
  refine wc_seq ?_
  refine wc_seq ?_
  refine wc_region ?_
  refine wl_val (at_move rfl) rfl ?_
  refine wl_val (at_move rfl) rfl ?_
  refine wl_val (at_lenL Tryd.underlying57 rfl) rfl ?_
  refine wl_val (at_lss rfl rfl) rfl ?_
  refine wl_nil ?_
  refine wk_prune [(0, .int .u8 a0), (2, .pointer (some (⟨b1, 0, none⟩ : Addr))), (4, .slice x3.a x3.n x3.c), (5, .int .i64 s8), (10, .bool (decide (s8 < (x3.n : Int))))] ⟨rfl, rfl, rfl, rfl, rfl, trivial⟩ (fun f1 => ?_)
  refine wk_then ?_
  refine wc_cond rfl h (fun h => ?_) (fun h => ?_)
  · refine wc_skip ?_
    refine wk_prune [(0, .int .u8 a0), (2, .pointer (some (⟨b1, 0, none⟩ : Addr))), (4, .slice x3.a x3.n x3.c), (5, .int .i64 s8)] ⟨rfl, rfl, rfl, rfl, trivial⟩ (fun f1 => ?_)
    refine wk_then ?_
    refine wc_seq ?_
    refine wc_block ?_
    refine wc_seq ?_
    refine wc_join (w0 := w0) (fun (s13 : Bool) => [(0, .int .u8 a0), (2, .pointer (some (⟨b1, 0, none⟩ : Addr))), (4, .slice x3.a x3.n x3.c), (5, .int .i64 s8), (28, .bool s13)]) h ?_ ?_
    · rintro s13 w14 f1 h so; refine wk_then ?_
      refine wc_cond rfl h (fun h => ?_) (fun h => ?_)
      · refine wc_seq ?_
        refine wc_region ?_
        refine wl_val (at_move rfl) rfl ?_
        refine wl_val (at_move rfl) rfl ?_
        obtain ⟨q15, q16, p17, q18, h⟩ := h
        refine wl_val (at_ixAddrL Tryd.underlying57 sz46 (sl_some q18) rfl q15 q16) rfl ?_
        obtain ⟨x19, x20, x21, x22, x23, q24, h⟩ := h
        refine wl_val (at_loadA (cs := (c46 x19 x20 x21 x22 x23)) Tryd.underlying46 rfl (by rw [len46]; exact sz46) rfl q24) rfl ?_
        refine wl_stA h rfl so (fun q => ef_storeA (by rw [len46]; exact sz46) rfl rfl (one46 _ _ _ _ _) q) ?_; intro w25 h so
        refine wl_val (at_assign rfl) rfl ?_
        refine wl_nil ?_
        refine wk_prune [(2, .pointer (some (⟨b1, 0, none⟩ : Addr))), (3, .bool true)] ⟨rfl, rfl, trivial⟩ (fun f1 => ?_)
        refine wk_then ?_
        refine wc_ret ?_
        refine wk_blkR ?_
        refine wk_thenR ?_
        refine wk_thenR ?_
        refine wk_blkR ?_
        refine wk_thenR ?_
        obtain ⟨x27, x28, x29, x30, x31, q26, h⟩ := h
        exact wk_retR2 (x := (x27, x28, x29, x30, x31, true)) rfl ⟨by decide, _, rfl, loadVar_agg (cs := (c46 x27 x28 x29 x30 x31)) Tryd.underlying46 rfl (by rw [len46]; exact sz46) q26⟩ ⟨by decide, rfl⟩ rfl so h
      · refine wc_skip ?_
        refine wk_blkN ?_
        refine wk_prune [(0, .int .u8 a0), (2, .pointer (some (⟨b1, 0, none⟩ : Addr))), (4, .slice x3.a x3.n x3.c), (5, .int .i64 s8)] ⟨rfl, rfl, rfl, rfl, trivial⟩ (fun f1 => ?_)
        refine wk_then ?_
        refine wc_region ?_
        refine wl_val (at_move rfl) rfl ?_
        refine wl_val (at_add rfl rfl) rfl ?_
        refine wl_val (at_assign rfl) rfl ?_
        refine wl_nil ?_
        exact wk_again ⟨((IntKind.wrap .i64 (s8 + 1))), _, ac_again ⟨rfl, rfl, rfl, rfl, trivial⟩, so, h⟩
    · intro J12 h hJ12
      refine wc_region ?_
      refine wl_val (at_move rfl) rfl ?_
      refine wl_val (at_move rfl) rfl ?_
      refine wl_val (at_move rfl) rfl ?_
      obtain ⟨q32, q33, p34, q35, h⟩ := h
      refine wl_val (at_ixAddrL Tryd.underlying57 sz46 (sl_some q35) rfl q32 q33) rfl ?_
      refine wl_val (at_fieldAddr Tryd.underlying46 rfl rfl sz5 (by decide) rfl) rfl ?_
      obtain ⟨x36, q37, h⟩ := h
      refine wl_val (at_load Tryd.underlying5 rfl rfl q37) rfl ?_
      refine wl_val (at_geq rfl rfl) rfl ?_
      refine wl_val (at_move rfl) rfl ?_
      refine bif_ h (fun hb h => ?_) (fun hb h => ?_)
      · refine wl_set (t := 20) (v := .bool true) (congrArg Value.bool hb) ?_; clear hb
        refine wl_on (t := 20) rfl (by decide) rfl ?_
        refine wl_val (at_move rfl) rfl ?_
        refine wl_on (t := 20) rfl (by decide) rfl ?_
        refine wl_val (at_move rfl) rfl ?_
        refine wl_on (t := 20) rfl (by decide) rfl ?_
        refine wl_val (at_move rfl) rfl ?_
        refine wl_on (t := 20) rfl (by decide) rfl ?_
        obtain ⟨q38, q39, h⟩ := h
        refine wl_val (at_ixAddrL Tryd.underlying57 sz46 (sl_some q35) rfl q38 q39) rfl ?_
        refine wl_on (t := 20) rfl (by decide) rfl ?_
        refine wl_val (at_fieldAddr Tryd.underlying46 rfl rfl sz5 (by decide) rfl) rfl ?_
        refine wl_on (t := 20) rfl (by decide) rfl ?_
        obtain ⟨x40, q41, h⟩ := h
        refine wl_val (at_load Tryd.underlying5 rfl rfl q41) rfl ?_
        refine wl_on (t := 20) rfl (by decide) rfl ?_
        refine wl_val (at_leq rfl rfl) rfl ?_
        refine wl_val (at_pick_t rfl rfl) rfl ?_
        refine wl_nil ?_
        exact wk_prune [(0, .int .u8 a0), (2, .pointer (some (⟨b1, 0, none⟩ : Addr))), (4, .slice x3.a x3.n x3.c), (5, .int .i64 s8), (28, .bool (decide (a0 ≤ x40)))] ⟨rfl, rfl, rfl, rfl, rfl, trivial⟩ (fun f1 => hJ12 ((decide (a0 ≤ x40))) _ f1 h so)
      · refine wl_set (t := 20) (v := .bool false) (congrArg Value.bool hb) ?_; clear hb
        refine wl_off (t := 20) rfl (by decide) rfl ?_
        refine wl_off (t := 20) rfl (by decide) rfl ?_
        refine wl_off (t := 20) rfl (by decide) rfl ?_
        refine wl_off (t := 20) rfl (by decide) rfl ?_
        refine wl_off (t := 20) rfl (by decide) rfl ?_
        refine wl_off (t := 20) rfl (by decide) rfl ?_
        refine wl_off (t := 20) rfl (by decide) rfl ?_
        refine wl_val (at_pick_f rfl rfl) rfl ?_
        refine wl_nil ?_
        exact wk_prune [(0, .int .u8 a0), (2, .pointer (some (⟨b1, 0, none⟩ : Addr))), (4, .slice x3.a x3.n x3.c), (5, .int .i64 s8), (28, .bool false)] ⟨rfl, rfl, rfl, rfl, rfl, trivial⟩ (fun f1 => hJ12 (false) _ f1 h so)
  · refine wc_exit ?_
    refine wk_thenE ?_
    refine wk_thenE ?_
    refine wk_blkE ?_
    refine wk_prune [(2, .pointer (some (⟨b1, 0, none⟩ : Addr)))] ⟨rfl, trivial⟩ (fun f1 => ?_)
    refine wk_then ?_
    refine wc_seq ?_
    refine wc_region ?_
    refine wl_val (at_build (cs := (c46 0 0 0 ByteArray.empty 0)) (ps := []) rfl (fun w => by simp [Instr.build, Instr.fill, go_sem, Tryd.underlying46, z46] <;> rfl)) rfl ?_
    refine wl_stA h rfl so (fun q => ef_storeA (by rw [len46]; exact sz46) rfl rfl (one46 _ _ _ _ _) q) ?_; intro w42 h so
    refine wl_val (at_assign rfl) rfl ?_
    refine wl_nil ?_
    refine wk_prune [(2, .pointer (some (⟨b1, 0, none⟩ : Addr))), (3, .bool false)] ⟨rfl, rfl, trivial⟩ (fun f1 => ?_)
    refine wk_then ?_
    refine wc_ret ?_
    obtain ⟨x44, x45, x46, x47, x48, q43, h⟩ := h
    exact wk_retR2 (x := (x44, x45, x46, x47, x48, false)) rfl ⟨by decide, _, rfl, loadVar_agg (cs := (c46 x44 x45 x46 x47 x48)) Tryd.underlying46 rfl (by rw [len46]; exact sz46) q43⟩ ⟨by decide, rfl⟩ rfl so h
def mosaicref02_digit.enc : ByteArray → Value := fun r => .string r
def mosaicref02_digit.s (a0 : Int) (H0 : Hp) (Q : ByteArray → Hp → Prop) : Prop :=
  0 ≤ a0 ∧ a0 ≤ (IntKind.wrap .i64 (a0 + 1)) ∧ (IntKind.wrap .i64 (a0 + 1)) ≤ (str7943071a.size : Int) ∧ (Lt ((str7943071a.extract (Int.toNat a0) (Int.toNat (IntKind.wrap .i64 (a0 + 1)))) : ByteArray) (fun x4 => Q x4 H0))
set_option maxRecDepth 20000 in
set_option maxHeartbeats 4000000 in
theorem mosaicref02_digit.calls (a0 : Int) (w0 : World) (Q : ByteArray → Hp → Prop) (h : mosaicref02_digit.s a0 w0.heap Q) :
    Ca Tryd.prog 28 #[.int .i64 a0] w0 (Rt mosaicref02_digit.enc Q w0) := by
  refine ca_start (c := _) Tryd.func28 rfl Tryd.ntmps28 rfl ?_
  have so : Sm w0 w0 := Sm.refl w0
  unfold mosaicref02_digit.s at h
  refine wc_prune [(0, .int .i64 a0)] ⟨rfl, trivial⟩ (fun f1 => ?_)
  refine wc_seq ?_
  refine wc_region ?_
  refine wl_val (at_assign rfl) rfl ?_
  refine wl_nil ?_
  refine wk_prune [(0, .int .i64 a0)] ⟨rfl, trivial⟩ (fun f1 => ?_)
  refine wk_then ?_
  refine wc_seq ?_
  refine wc_region ?_
  refine wl_val (at_move rfl) rfl ?_
  refine wl_val (at_move rfl) rfl ?_
  refine wl_val (at_add rfl rfl) rfl ?_
  obtain ⟨q1, q2, q3, h⟩ := h
  refine wl_val (at_subS Tryd.underlying9 rfl rfl rfl q1 q2 q3) rfl ?_
  refine wl_val (at_assign rfl) rfl ?_
  obtain ⟨x4, e5⟩ : ∃ x : ByteArray, x = (str7943071a.extract (Int.toNat a0) (Int.toNat (IntKind.wrap .i64 (a0 + 1)))) := ⟨_, rfl⟩; replace h := h x4 e5
  refine wl_set (t := 2) (v := .string x4) (congrArg Value.string e5.symm) ?_
  refine wl_nil ?_
  refine wk_prune [(2, .string x4)] ⟨rfl, trivial⟩ (fun f1 => ?_)
  refine wk_then ?_
  refine wc_ret ?_
  exact wk_ret1 (x := x4) rfl (by decide) rfl so h
def mosaicref02_Name.enc : ByteArray → Value := fun r => .string r
def mosaicref02_Name.s (a0 : Int) (H0 : Hp) (Q : ByteArray → Hp → Prop) : Prop :=
  Join (fun (s2 : Bool) (H3 : Hp) => if s2 = true then (Q (⟨#[]⟩ : ByteArray) H3) else (mosaicref02_row.s a0 H3 (fun x4 H5 => Gn [] H5 (fun (b6 : Nat) (H8 : Hp) => if (!x4.2.2.2.2.2) = true then (mosaicref02_digit.s (IntKind.wrap .i64 (Int.tdiv (IntKind.wrap .i64 a0) 16)) H8 (fun x9 H10 => (⟨#[82, 69, 83]⟩ : ByteArray).size + x9.size ≤ 9223372036854775807 ∧ (mosaicref02_digit.s (Int.tmod (IntKind.wrap .i64 a0) 16) H10 (fun x12 H13 => ((⟨#[82, 69, 83]⟩ : ByteArray) ++ x9).size + x12.size ≤ 9223372036854775807 ∧ (Lt ((((⟨#[82, 69, 83]⟩ : ByteArray) ++ x9) ++ x12) : ByteArray) (fun x15 => Q x15 H13)))))) else (if (x4.2.2.2.2.1 == 255) = true then (Q x4.2.2.2.1 H8) else (Lt ((IntKind.wrap .i64 (IntKind.wrap .u8 (a0 - x4.2.2.2.2.1))) : Int) (fun x17 => if decide ((9 : Int) < x17) = true then (x4.2.2.2.1.size + (⟨#[49]⟩ : ByteArray).size ≤ 9223372036854775807 ∧ (mosaicref02_digit.s (IntKind.wrap .i64 (x17 - 10)) H8 (fun x22 H23 => Pv [b6] H8 H23 ∧ ((x4.2.2.2.1 ++ (⟨#[49]⟩ : ByteArray)).size + x22.size ≤ 9223372036854775807 ∧ (Q ((x4.2.2.2.1 ++ (⟨#[49]⟩ : ByteArray)) ++ x22) H23))))) else (mosaicref02_digit.s x17 H8 (fun x28 H29 => Pv [b6] H8 H29 ∧ (x4.2.2.2.1.size + x28.size ≤ 9223372036854775807 ∧ (Q (x4.2.2.2.1 ++ x28) H29))))))))))) (fun (J1 : Bool → Hp → Prop) => if (a0 == 0) = true then (J1 (true) H0) else (J1 ((a0 == 255)) H0))
set_option maxRecDepth 20000 in
set_option maxHeartbeats 4000000 in
theorem mosaicref02_Name.calls (a0 : Int) (w0 : World) (Q : ByteArray → Hp → Prop) (h : mosaicref02_Name.s a0 w0.heap Q) :
    Ca Tryd.prog 15 #[.int .u8 a0] w0 (Rt mosaicref02_Name.enc Q w0) := by
  refine ca_start (c := _) Tryd.func15 rfl Tryd.ntmps15 rfl ?_
  have so : Sm w0 w0 := Sm.refl w0
  unfold mosaicref02_Name.s at h
  refine wc_prune [(0, .int .u8 a0)] ⟨rfl, trivial⟩ (fun f1 => ?_)
  refine wc_seq ?_
  refine wc_region ?_
  refine wl_val (at_assign rfl) rfl ?_
  refine wl_nil ?_
  refine wk_prune [(0, .int .u8 a0)] ⟨rfl, trivial⟩ (fun f1 => ?_)
  refine wk_then ?_
  refine wc_seq ?_
  refine wc_seq ?_
  refine wc_join (w0 := w0) (fun (s2 : Bool) => [(0, .int .u8 a0), (11, .bool s2)]) h ?_ ?_
  · rintro s2 w3 f1 h so; refine wk_then ?_
    refine wc_cond rfl h (fun h => ?_) (fun h => ?_)
    · refine wc_seq ?_
      refine wc_region ?_
      refine wl_val (at_assign rfl) rfl ?_
      refine wl_nil ?_
      refine wk_prune [(2, .string (⟨#[]⟩ : ByteArray))] ⟨rfl, trivial⟩ (fun f1 => ?_)
      refine wk_then ?_
      refine wc_ret ?_
      refine wk_thenR ?_
      exact wk_ret1 (x := (⟨#[]⟩ : ByteArray)) rfl (by decide) rfl so h
    · refine wc_skip ?_
      refine wk_prune [(0, .int .u8 a0)] ⟨rfl, trivial⟩ (fun f1 => ?_)
      refine wk_then ?_
      refine wc_seq ?_
      refine wc_region ?_
      refine wl_val (at_move rfl) rfl ?_
      refine wl_callF (mosaicref02_row.calls _ _ _ h) enter26 rfl trivial so ?_; intro x4 w5 h so
      refine wl_val (at_move rfl) rfl ?_
      refine wl_val (at_extract rfl rfl) rfl ?_
      refine wl_val (at_extract rfl rfl) rfl ?_
      refine wl_newT (T := 46) (cs := (c46 0 0 0 ByteArray.empty 0)) (ef_alloc zero46 rfl) rfl so ?_; intro b6 w7 hb_b6 t_b6 k_b6 so
      have g_b6 := Nat.le_of_eq hb_b6.symm
      have hc := k_b6.ch (F := [])
      refine wl_stWT (vs := (c46 x4.1 x4.2.1 x4.2.2.1 x4.2.2.2.1 x4.2.2.2.2.1)) t_b6 (by first | (rw [len46, len46]) | (rw [len46]) | rfl) rfl so (fun q => ef_storeA (p := (⟨b6, 0, none⟩ : Addr)) (cs := (c46 x4.1 x4.2.1 x4.2.2.1 x4.2.2.2.1 x4.2.2.2.2.1)) (by rw [len46]; exact sz46) rfl rfl (one46 _ _ _ _ _) q) ?_; intro w8 t_b6 s_w8 so
      replace hc := ch_same hc s_w8 (.inr g_b6)
      refine wl_val (at_assign rfl) rfl ?_
      refine wl_nil ?_
      refine wk_prune [(0, .int .u8 a0), (3, .pointer (some (⟨b6, 0, none⟩ : Addr))), (4, .bool x4.2.2.2.2.2)] ⟨rfl, rfl, rfl, trivial⟩ (fun f1 => ?_)
      refine wk_then ?_
      refine wc_seq ?_
      refine wc_seq ?_
      refine wc_region ?_
      refine wl_val (at_move rfl) rfl ?_
      refine wl_val (at_not rfl) rfl ?_
      refine wl_nil ?_
      refine wk_prune [(0, .int .u8 a0), (3, .pointer (some (⟨b6, 0, none⟩ : Addr))), (18, .bool (!x4.2.2.2.2.2))] ⟨rfl, rfl, rfl, trivial⟩ (fun f1 => ?_)
      refine wk_then ?_
      replace h := h b6 _ hc g_b6 t_b6.lt; clear hc
      refine wc_cond rfl h (fun h => ?_) (fun h => ?_)
      · refine wc_seq ?_
        refine wc_region ?_
        refine wl_val (at_move rfl) rfl ?_
        refine wl_val (at_conv Tryd.underlying5 Tryd.underlying3 rfl) rfl ?_
        refine wl_val (at_quo rfl rfl (by decide)) rfl ?_
        refine wl_callF (mosaicref02_digit.calls _ _ _ h) enter28 rfl trivial so ?_; intro x9 w10 h so
        obtain ⟨q11, h⟩ := h
        refine wl_val (at_cat rfl rfl q11) rfl ?_
        refine wl_val (at_move rfl) rfl ?_
        refine wl_val (at_conv Tryd.underlying5 Tryd.underlying3 rfl) rfl ?_
        refine wl_val (at_rem rfl rfl (by decide)) rfl ?_
        refine wl_callF (mosaicref02_digit.calls _ _ _ h) enter28 rfl trivial so ?_; intro x12 w13 h so
        obtain ⟨q14, h⟩ := h
        refine wl_val (at_cat rfl rfl q14) rfl ?_
        refine wl_val (at_assign rfl) rfl ?_
        obtain ⟨x15, e16⟩ : ∃ x : ByteArray, x = (((⟨#[82, 69, 83]⟩ : ByteArray) ++ x9) ++ x12) := ⟨_, rfl⟩; replace h := h x15 e16
        refine wl_set (t := 2) (v := .string x15) (congrArg Value.string e16.symm) ?_
        refine wl_nil ?_
        refine wk_prune [(2, .string x15)] ⟨rfl, trivial⟩ (fun f1 => ?_)
        refine wk_then ?_
        refine wc_ret ?_
        refine wk_thenR ?_
        exact wk_ret1 (x := x15) rfl (by decide) rfl so h
      · refine wc_skip ?_
        refine wk_prune [(0, .int .u8 a0), (3, .pointer (some (⟨b6, 0, none⟩ : Addr)))] ⟨rfl, rfl, trivial⟩ (fun f1 => ?_)
        refine wk_then ?_
        refine wc_seq ?_
        refine wc_seq ?_
        refine wc_region ?_
        refine wl_val (at_fieldAddr Tryd.underlying46 rfl rfl sz5 (by decide) rfl) rfl ?_
        refine wl_val (at_load (v := .int .u8 x4.2.2.2.2.1) Tryd.underlying5 rfl rfl ((t_b6.cell 4).trans (by first | rfl | simp [List.getElem?_append, ints_len, bools_len]))) rfl ?_
        refine wl_val (at_eql rfl rfl) rfl ?_
        refine wl_nil ?_
        refine wk_prune [(0, .int .u8 a0), (3, .pointer (some (⟨b6, 0, none⟩ : Addr))), (31, .bool (x4.2.2.2.2.1 == 255))] ⟨rfl, rfl, rfl, trivial⟩ (fun f1 => ?_)
        refine wk_then ?_
        refine wc_cond rfl h (fun h => ?_) (fun h => ?_)
        · refine wc_seq ?_
          refine wc_region ?_
          refine wl_val (at_fieldAddr Tryd.underlying46 rfl rfl sz9 (by decide) rfl) rfl ?_
          refine wl_val (at_load (v := .string x4.2.2.2.1) Tryd.underlying9 rfl rfl ((t_b6.cell 3).trans (by first | rfl | simp [List.getElem?_append, ints_len, bools_len]))) rfl ?_
          refine wl_val (at_assign rfl) rfl ?_
          refine wl_nil ?_
          refine wk_prune [(2, .string x4.2.2.2.1)] ⟨rfl, trivial⟩ (fun f1 => ?_)
          refine wk_then ?_
          refine wc_ret ?_
          refine wk_thenR ?_
          exact wk_ret1 (x := x4.2.2.2.1) rfl (by decide) rfl so h
        · refine wc_skip ?_
          refine wk_prune [(0, .int .u8 a0), (3, .pointer (some (⟨b6, 0, none⟩ : Addr)))] ⟨rfl, rfl, trivial⟩ (fun f1 => ?_)
          refine wk_then ?_
          refine wc_seq ?_
          refine wc_region ?_
          refine wl_val (at_move rfl) rfl ?_
          refine wl_val (at_fieldAddr Tryd.underlying46 rfl rfl sz5 (by decide) rfl) rfl ?_
          refine wl_val (at_load (v := .int .u8 x4.2.2.2.2.1) Tryd.underlying5 rfl rfl ((t_b6.cell 4).trans (by first | rfl | simp [List.getElem?_append, ints_len, bools_len]))) rfl ?_
          refine wl_val (at_sub rfl rfl) rfl ?_
          refine wl_val (at_conv Tryd.underlying5 Tryd.underlying3 rfl) rfl ?_
          refine wl_val (at_assign rfl) rfl ?_
          obtain ⟨x17, e18⟩ : ∃ x : Int, x = (IntKind.wrap .i64 (IntKind.wrap .u8 (a0 - x4.2.2.2.2.1))) := ⟨_, rfl⟩; replace h := h x17 e18
          refine wl_set (t := 5) (v := .int .i64 x17) (congrArg (Value.int .i64) e18.symm) ?_
          refine wl_nil ?_
          refine wk_prune [(3, .pointer (some (⟨b6, 0, none⟩ : Addr))), (5, .int .i64 x17)] ⟨rfl, rfl, trivial⟩ (fun f1 => ?_)
          refine wk_then ?_
          refine wc_seq ?_
          refine wc_seq ?_
          refine wc_region ?_
          refine wl_val (at_move rfl) rfl ?_
          refine wl_val (at_gtr rfl rfl) rfl ?_
          refine wl_nil ?_
          refine wk_prune [(3, .pointer (some (⟨b6, 0, none⟩ : Addr))), (5, .int .i64 x17), (40, .bool (decide ((9 : Int) < x17)))] ⟨rfl, rfl, rfl, trivial⟩ (fun f1 => ?_)
          refine wk_then ?_
          refine wc_cond rfl h (fun h => ?_) (fun h => ?_)
          · refine wc_seq ?_
            refine wc_wo [0, 1, 3, 0, 8, 24, 63, 127] mixed (by kernel_rfl) so ?_; intro w19 hw so; rw [← hw] at h t_b6; clear hw
            refine wo_pure (m' := 1) 0 rfl (by kernel_rfl) rfl rfl (fun H => at_fieldAddr Tryd.underlying46 rfl rfl sz9 (by decide) rfl) ?_
            refine wo_pure (m' := 9) 3 rfl (by kernel_rfl) rfl rfl (fun H => at_move rfl) ?_
            refine wo_pure (m' := 25) 4 rfl (by kernel_rfl) rfl rfl (fun H => at_sub rfl rfl) ?_
            have q20 : cellAt w19.heap (⟨b6, 3, none⟩ : Addr) = some (.string x4.2.2.2.1) := (t_b6.cell 3).trans (by first | rfl | simp [List.getElem?_append, ints_len, bools_len])
            refine wo_load (m' := 27) 1 (fun H => cellAt H (⟨b6, 3, none⟩ : Addr) = some (.string x4.2.2.2.1)) rfl (by kernel_rfl) rfl rfl (fun H q20 => at_load (v := .string x4.2.2.2.1) Tryd.underlying9 rfl rfl (q20)) q20 ?_
            obtain ⟨q21, h⟩ := h
            refine wo_pure (m' := 31) 2 rfl (by kernel_rfl) rfl rfl (fun H => at_cat rfl rfl q21) ?_
            refine wo_take (m' := 63) 5 [false] rfl (by kernel_rfl) rfl (by kernel_rfl) ?_
            refine wl_callF (mosaicref02_digit.calls _ _ _ h) enter28 rfl trivial so ?_; intro x22 w23 h so
            obtain ⟨q24, h⟩ := h
            replace t_b6 := pv_bk q24 t_b6 (by simp)
            refine wl_nil ?_
            refine wk_tq ⟨((t_b6.cell 3).trans (by first | rfl | simp [List.getElem?_append, ints_len, bools_len])), trivial⟩ ?_
            obtain ⟨q25, h⟩ := h
            refine wo_pure (m' := 127) 6 rfl (by kernel_rfl) rfl rfl (fun H => at_cat rfl rfl q25) ?_
            refine wo_pure (m' := 255) 7 rfl (by kernel_rfl) rfl rfl (fun H => at_assign rfl) ?_
            refine wo_done (by kernel_rfl) ?_
            refine wk_prune [(2, .string ((x4.2.2.2.1 ++ (⟨#[49]⟩ : ByteArray)) ++ x22))] ⟨rfl, trivial⟩ (fun f1 => ?_)
            refine wk_then ?_
            refine wc_ret ?_
            refine wk_thenR ?_
            exact wk_ret1 (x := ((x4.2.2.2.1 ++ (⟨#[49]⟩ : ByteArray)) ++ x22)) rfl (by decide) rfl so h
          · refine wc_skip ?_
            refine wk_prune [(3, .pointer (some (⟨b6, 0, none⟩ : Addr))), (5, .int .i64 x17)] ⟨rfl, rfl, trivial⟩ (fun f1 => ?_)
            refine wk_then ?_
            refine wc_seq ?_
            refine wc_wo [0, 1, 0, 4, 15, 31] mixed (by kernel_rfl) so ?_; intro w26 hw so; rw [← hw] at h t_b6; clear hw
            refine wo_pure (m' := 1) 0 rfl (by kernel_rfl) rfl rfl (fun H => at_fieldAddr Tryd.underlying46 rfl rfl sz9 (by decide) rfl) ?_
            refine wo_pure (m' := 5) 2 rfl (by kernel_rfl) rfl rfl (fun H => at_move rfl) ?_
            have q27 : cellAt w26.heap (⟨b6, 3, none⟩ : Addr) = some (.string x4.2.2.2.1) := (t_b6.cell 3).trans (by first | rfl | simp [List.getElem?_append, ints_len, bools_len])
            refine wo_load (m' := 7) 1 (fun H => cellAt H (⟨b6, 3, none⟩ : Addr) = some (.string x4.2.2.2.1)) rfl (by kernel_rfl) rfl rfl (fun H q27 => at_load (v := .string x4.2.2.2.1) Tryd.underlying9 rfl rfl (q27)) q27 ?_
            refine wo_take (m' := 15) 3 [false] rfl (by kernel_rfl) rfl (by kernel_rfl) ?_
            refine wl_callF (mosaicref02_digit.calls _ _ _ h) enter28 rfl trivial so ?_; intro x28 w29 h so
            obtain ⟨q30, h⟩ := h
            replace t_b6 := pv_bk q30 t_b6 (by simp)
            refine wl_nil ?_
            refine wk_tq ⟨((t_b6.cell 3).trans (by first | rfl | simp [List.getElem?_append, ints_len, bools_len])), trivial⟩ ?_
            obtain ⟨q31, h⟩ := h
            refine wo_pure (m' := 31) 4 rfl (by kernel_rfl) rfl rfl (fun H => at_cat rfl rfl q31) ?_
            refine wo_pure (m' := 63) 5 rfl (by kernel_rfl) rfl rfl (fun H => at_assign rfl) ?_
            refine wo_done (by kernel_rfl) ?_
            refine wk_prune [(2, .string (x4.2.2.2.1 ++ x28))] ⟨rfl, trivial⟩ (fun f1 => ?_)
            refine wk_then ?_
            refine wc_ret ?_
            exact wk_ret1 (x := (x4.2.2.2.1 ++ x28)) rfl (by decide) rfl so h
  · intro J1 h hJ1
    refine wc_region ?_
    refine wl_val (at_move rfl) rfl ?_
    refine wl_val (at_eql rfl rfl) rfl ?_
    refine wl_val (at_move rfl) rfl ?_
    refine bif_ h (fun hb h => ?_) (fun hb h => ?_)
    · refine wl_set (t := 8) (v := .bool true) (congrArg Value.bool hb) ?_; clear hb
      refine wl_off (t := 8) rfl (by decide) rfl ?_
      refine wl_off (t := 8) rfl (by decide) rfl ?_
      refine wl_val (at_pick_t rfl rfl) rfl ?_
      refine wl_nil ?_
      exact wk_prune [(0, .int .u8 a0), (11, .bool true)] ⟨rfl, rfl, trivial⟩ (fun f1 => hJ1 (true) _ f1 h so)
    · refine wl_set (t := 8) (v := .bool false) (congrArg Value.bool hb) ?_; clear hb
      refine wl_on (t := 8) rfl (by decide) rfl ?_
      refine wl_val (at_move rfl) rfl ?_
      refine wl_on (t := 8) rfl (by decide) rfl ?_
      refine wl_val (at_eql rfl rfl) rfl ?_
      refine wl_val (at_pick_f rfl rfl) rfl ?_
      refine wl_nil ?_
      exact wk_prune [(0, .int .u8 a0), (11, .bool (a0 == 255))] ⟨rfl, rfl, trivial⟩ (fun f1 => hJ1 ((a0 == 255)) _ f1 h so)
def mosaicref02_Code.enc : Int × Bool → Value := fun r => .tuple #[.int .u8 r.1, .bool r.2]
def mosaicref02_Code.s (a0 : ByteArray) (H0 : Hp) (Q : (Int × Bool) → Hp → Prop) : Prop :=
  ∃ k1, Fix (fun (rec6 : Int → Hp → Prop) (s3 : Int) (H4 : Hp) => if decide (s3 < 255) = true then (mosaicref02_Name.s (IntKind.wrap .u8 s3) H4 (fun x7 H8 => if (x7.toList == a0.toList) = true then (Q ((IntKind.wrap .u8 s3), true) H8) else (rec6 ((IntKind.wrap .i64 (s3 + 1))) H8))) else (Q (0, false) H4)) k1 (1) H0
set_option maxRecDepth 20000 in
set_option maxHeartbeats 4000000 in
theorem mosaicref02_Code.calls (a0 : ByteArray) (w0 : World) (Q : (Int × Bool) → Hp → Prop) (h : mosaicref02_Code.s a0 w0.heap Q) :
    Ca Tryd.prog 11 #[.string a0] w0 (Rt mosaicref02_Code.enc Q w0) := by
  refine ca_start (c := _) Tryd.func11 rfl Tryd.ntmps11 rfl ?_
  have so : Sm w0 w0 := Sm.refl w0
  unfold mosaicref02_Code.s at h
  refine wc_prune [(0, .string a0)] ⟨rfl, trivial⟩ (fun f1 => ?_)
  refine wc_seq ?_
  refine wc_region ?_
  refine wl_val (at_assign rfl) rfl ?_
  refine wl_val (at_assign rfl) rfl ?_
  refine wl_nil ?_
  refine wk_prune [(0, .string a0)] ⟨rfl, trivial⟩ (fun f1 => ?_)
  refine wk_then ?_
  refine wc_seq ?_
  refine wc_seq ?_
  refine wc_region ?_
  refine wl_val (at_assign rfl) rfl ?_
  refine wl_nil ?_
  refine wk_prune [(0, .string a0), (4, .int .i64 1)] ⟨rfl, rfl, trivial⟩ (fun f1 => ?_)
  refine wk_then ?_
  refine wc_block ?_
  obtain ⟨k1, h⟩ := h
  refine wc_loop (fun k a w => ∃ (s3 : Int) (f1 : Nat → Value), a = ac 16 (en f1 [(0, .string a0), (4, .int .i64 s3)]) [] ∧ Sm w0 w ∧ Fix _ k s3 w.heap) k1 ⟨(1), _, ac_again ⟨rfl, rfl, trivial⟩, so, h⟩ ?_
  rintro k2 a5 w4 ⟨s3, f1, rfl, so, h⟩
  rcases k2 with _ | k2
  · exact h.elim
  replace h := Fix.un h; refine wc_in ?_
  refine wc_seq ?_
  refine wc_seq ?_
  refine wc_region ?_
  refine wl_val (at_move rfl) rfl ?_
  refine wl_val (at_lss rfl rfl) rfl ?_
  refine wl_nil ?_
  refine wk_prune [(0, .string a0), (4, .int .i64 s3), (6, .bool (decide (s3 < 255)))] ⟨rfl, rfl, rfl, trivial⟩ (fun f1 => ?_)
  refine wk_then ?_
  refine wc_cond rfl h (fun h => ?_) (fun h => ?_)
  · refine wc_skip ?_
    refine wk_prune [(0, .string a0), (4, .int .i64 s3)] ⟨rfl, rfl, trivial⟩ (fun f1 => ?_)
    refine wk_then ?_
    refine wc_seq ?_
    refine wc_block ?_
    refine wc_seq ?_
    refine wc_region ?_
    refine wl_val (at_move rfl) rfl ?_
    refine wl_val (at_conv Tryd.underlying3 Tryd.underlying5 rfl) rfl ?_
    refine wl_callF (mosaicref02_Name.calls _ _ _ h) enter15 rfl trivial so ?_; intro x7 w8 h so
    refine wl_val (at_move rfl) rfl ?_
    refine wl_val (at_eqlS rfl rfl) rfl ?_
    refine wl_nil ?_
    refine wk_prune [(0, .string a0), (4, .int .i64 s3), (13, .bool (x7.toList == a0.toList))] ⟨rfl, rfl, rfl, trivial⟩ (fun f1 => ?_)
    refine wk_then ?_
    refine wc_cond rfl h (fun h => ?_) (fun h => ?_)
    · refine wc_seq ?_
      refine wc_region ?_
      refine wl_val (at_move rfl) rfl ?_
      refine wl_val (at_conv Tryd.underlying3 Tryd.underlying5 rfl) rfl ?_
      refine wl_val (at_assign rfl) rfl ?_
      refine wl_val (at_assign rfl) rfl ?_
      refine wl_nil ?_
      refine wk_prune [(2, .int .u8 (IntKind.wrap .u8 s3)), (3, .bool true)] ⟨rfl, rfl, trivial⟩ (fun f1 => ?_)
      refine wk_then ?_
      refine wc_ret ?_
      refine wk_blkR ?_
      refine wk_thenR ?_
      refine wk_thenR ?_
      refine wk_blkR ?_
      refine wk_thenR ?_
      exact wk_ret2 (x := ((IntKind.wrap .u8 s3), true)) rfl (by decide) (by decide) rfl so h
    · refine wc_skip ?_
      refine wk_blkN ?_
      refine wk_prune [(0, .string a0), (4, .int .i64 s3)] ⟨rfl, rfl, trivial⟩ (fun f1 => ?_)
      refine wk_then ?_
      refine wc_region ?_
      refine wl_val (at_move rfl) rfl ?_
      refine wl_val (at_add rfl rfl) rfl ?_
      refine wl_val (at_assign rfl) rfl ?_
      refine wl_nil ?_
      exact wk_again ⟨((IntKind.wrap .i64 (s3 + 1))), _, ac_again ⟨rfl, rfl, trivial⟩, so, h⟩
  · refine wc_exit ?_
    refine wk_thenE ?_
    refine wk_thenE ?_
    refine wk_blkE ?_
    refine wk_prune [] trivial (fun f1 => ?_)
    refine wk_then ?_
    refine wc_seq ?_
    refine wc_region ?_
    refine wl_val (at_assign rfl) rfl ?_
    refine wl_val (at_assign rfl) rfl ?_
    refine wl_nil ?_
    refine wk_prune [(2, .int .u8 0), (3, .bool false)] ⟨rfl, rfl, trivial⟩ (fun f1 => ?_)
    refine wk_then ?_
    refine wc_ret ?_
    exact wk_ret2 (x := (0, false)) rfl (by decide) (by decide) rfl so h
def mosaicref02_Kind.enc : Int → Value := fun r => .int .i8 r
def mosaicref02_Free.enc : Bool → Value := fun r => .bool r
def mosaicref02_Stuff.enc : ByteArray → Value := fun r => .string r
end Go.Proofs.YtkplpbnifinlbaaDoor.G
