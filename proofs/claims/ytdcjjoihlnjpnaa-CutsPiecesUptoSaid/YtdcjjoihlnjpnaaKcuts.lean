import Derived.Test.YtdcjjoihlnjpnaaKshelf
import Derived.Test.YtdcjjoihlnjpnaaKmarker
namespace Go.Proofs.Ytdcjjoihlnjpnaa.G
open Go.RowKit
set_option linter.unusedVariables false
set_option linter.unusedSimpArgs false
/-- mosaic/cuts.Each -/
def cuts_Each.enc : Addr × Addr → Value := fun r => .func (.func 16) #[] #[.pointer (some r.1), .pointer (some r.2)]
def cuts_Each.s (a0 : ByteArray) (a1 : Int) (H0 : Hp) (Q : (Addr × Addr) → Hp → Prop) : Prop :=
  Gn [] H0 (fun (b1 : Nat) (H2 : Hp) => Gn [] H2 (fun (b3 : Nat) (H5 : Hp) => Bk H5 b3 3 [.int .i64 (if (a0.size : Int) < (if a1 < 0 then 0 else a1) then (a0.size : Int) else (if a1 < 0 then 0 else a1))] → (Bk H5 b1 9 [.string a0] → (Q ((⟨b3, 0, none⟩ : Addr), (⟨b1, 0, none⟩ : Addr)) H5))))
set_option maxRecDepth 20000 in
set_option maxHeartbeats 4000000 in
theorem cuts_Each.calls (a0 : ByteArray) (a1 : Int) (w0 : World) (Q : (Addr × Addr) → Hp → Prop) (h : cuts_Each.s a0 a1 w0.heap Q) :
    Ca Try.prog 8 #[.string a0, .int .i64 a1] w0 (Rt cuts_Each.enc Q w0) := by
  refine ca_start (c := _) Try.func8 rfl Try.ntmps8 rfl ?_
  have so : Sm w0 w0 := Sm.refl w0
  unfold cuts_Each.s at h
  refine wc_prune [(0, .string a0), (1, .int .i64 a1)] ⟨rfl, rfl, trivial⟩ (fun f1 => ?_)
  refine wc_seq ?_
  refine wc_region ?_
  refine wl_newT (T := 9) (cs := [.string a0]) (ef_box rfl rfl) rfl so ?_; intro b1 w2 hb_b1 t_b1 k_b1 so
  have g_b1 := Nat.le_of_eq hb_b1.symm
  have hc := k_b1.ch (F := [])
  replace h := h b1 _ hc g_b1 t_b1.lt; clear hc
  refine wl_newT (T := 3) (cs := [.int .i64 a1]) (ef_box rfl rfl) rfl so ?_; intro b3 w4 hb_b3 t_b3 k_b3 so
  have g_b3 := Nat.le_of_eq hb_b3.symm
  have hc := k_b3.ch (F := [])
  have n_b1_b3 : b1 ≠ b3 := fun e => by have := t_b1.lt; omega
  replace t_b1 := t_b1.keep k_b3
  refine wl_val (at_assign rfl) rfl ?_
  refine wl_nil ?_
  refine wk_prune [(2, .pointer (some (⟨b1, 0, none⟩ : Addr))), (3, .pointer (some (⟨b3, 0, none⟩ : Addr)))] ⟨rfl, rfl, trivial⟩ (fun f1 => ?_)
  refine wk_then ?_
  refine wc_seq ?_
  refine wc_region ?_
  refine wl_val (at_load (v := .int .i64 a1) Try.underlying3 rfl rfl ((t_b3.cell 0).trans (by first | rfl | simp [List.getElem?_append, ints_len, bools_len]))) rfl ?_
  refine wl_val (at_max rfl rfl) rfl ?_
  refine wl_val (at_load (v := .string a0) Try.underlying9 rfl rfl ((t_b1.cell 0).trans (by first | rfl | simp [List.getElem?_append, ints_len, bools_len]))) rfl ?_
  refine wl_val (at_lenS Try.underlying9 rfl) rfl ?_
  refine wl_val (at_min rfl rfl) rfl ?_
  refine wl_stT (v := .int .i64 (if (a0.size : Int) < (if a1 < 0 then 0 else a1) then (a0.size : Int) else (if a1 < 0 then 0 else a1))) (cs' := [.int .i64 (if (a0.size : Int) < (if a1 < 0 then 0 else a1) then (a0.size : Int) else (if a1 < 0 then 0 else a1))]) t_b3 (by first | decide | simp [ints_len, bools_len]) (by first | rfl | simp [List.set_append, ints_len, bools_len]) rfl so (fun q1 q2 => ef_store (sz := sz3) rfl rfl rfl q1 q2) ?_; intro w5 t_b3 s_w5 so
  replace t_b1 := t_b1.same s_w5 (n_b1_b3)
  replace hc := ch_same hc s_w5 (.inr g_b3)
  refine wl_nil ?_
  refine wk_prune [(2, .pointer (some (⟨b1, 0, none⟩ : Addr))), (3, .pointer (some (⟨b3, 0, none⟩ : Addr)))] ⟨rfl, rfl, trivial⟩ (fun f1 => ?_)
  refine wk_then ?_
  refine wc_seq ?_
  refine wc_region ?_
  replace h := h b3 _ hc g_b3 t_b3.lt; clear hc
  replace h := h t_b3
  replace h := h t_b1
  refine wl_val (at_makeFunc (v1 := []) (v2 := [.pointer (some (⟨b3, 0, none⟩ : Addr)), .pointer (some (⟨b1, 0, none⟩ : Addr))]) rfl rfl) rfl ?_
  refine wl_val (at_assign rfl) rfl ?_
  refine wl_nil ?_
  refine wk_prune [(4, .func (.func 16) #[] #[.pointer (some (⟨b3, 0, none⟩ : Addr)), .pointer (some (⟨b1, 0, none⟩ : Addr))])] ⟨rfl, trivial⟩ (fun f1 => ?_)
  refine wk_then ?_
  refine wc_ret ?_
  exact wk_ret1 (x := ((⟨b3, 0, none⟩ : Addr), (⟨b1, 0, none⟩ : Addr))) rfl (by decide) rfl so h

/-- mosaic/cuts.back -/
def cuts_back.enc : Int → Value := fun r => .int .i64 r
def cuts_back.s (a0 : ByteArray) (a1 : Int) (a2 : Int) (H0 : Hp) (Q : Int → Hp → Prop) : Prop :=
  ∃ k1, Fix (fun (rec6 : Int → Hp → Prop) (s3 : Int) (H4 : Hp) => Join (fun (s8 : Bool) (H9 : Hp) => if s8 = true then (rec6 ((IntKind.wrap .i64 (s3 - 1))) H9) else (Q s3 H9)) (fun (J7 : Bool → Hp → Prop) => if decide (a1 < s3) = true then (0 ≤ (IntKind.wrap .i64 (s3 - 1)) ∧ (IntKind.wrap .i64 (s3 - 1)) < (a0.size : Int) ∧ (J7 (((bt a0 (IntKind.wrap .i64 (s3 - 1))) == 255)) H4)) else (J7 (false) H4))) k1 (a2) H0
set_option maxRecDepth 20000 in
set_option maxHeartbeats 4000000 in
theorem cuts_back.calls (a0 : ByteArray) (a1 : Int) (a2 : Int) (w0 : World) (Q : Int → Hp → Prop) (h : cuts_back.s a0 a1 a2 w0.heap Q) :
    Ca Try.prog 17 #[.string a0, .int .i64 a1, .int .i64 a2] w0 (Rt cuts_back.enc Q w0) := by
  refine ca_start (c := _) Try.func17 rfl Try.ntmps17 rfl ?_
  have so : Sm w0 w0 := Sm.refl w0
  unfold cuts_back.s at h
  refine wc_prune [(0, .string a0), (1, .int .i64 a1), (2, .int .i64 a2)] ⟨rfl, rfl, rfl, trivial⟩ (fun f1 => ?_)
  refine wc_seq ?_
  refine wc_region ?_
  refine wl_val (at_assign rfl) rfl ?_
  refine wl_nil ?_
  refine wk_prune [(0, .string a0), (1, .int .i64 a1), (2, .int .i64 a2)] ⟨rfl, rfl, rfl, trivial⟩ (fun f1 => ?_)
  refine wk_then ?_
  refine wc_seq ?_
  refine wc_block ?_
  obtain ⟨k1, h⟩ := h
  refine wc_loop (fun k a w => ∃ (s3 : Int) (f1 : Nat → Value), a = ac 20 (en f1 [(0, .string a0), (1, .int .i64 a1), (2, .int .i64 s3)]) [] ∧ Sm w0 w ∧ Fix _ k s3 w.heap) k1 ⟨(a2), _, ac_again ⟨rfl, rfl, rfl, trivial⟩, so, h⟩ ?_
  rintro k2 a5 w4 ⟨s3, f1, rfl, so, h⟩
  rcases k2 with _ | k2
  · exact h.elim
  replace h := Fix.un h; refine wc_in ?_
  refine wc_seq ?_
  refine wc_seq ?_
  refine wc_join (w0 := w0) (fun (s8 : Bool) => [(0, .string a0), (1, .int .i64 a1), (2, .int .i64 s3), (16, .bool s8)]) h ?_ ?_
  · rintro s8 w9 f1 h so; refine wk_then ?_
    refine wc_cond rfl h (fun h => ?_) (fun h => ?_)
    · refine wc_skip ?_
      refine wk_prune [(0, .string a0), (1, .int .i64 a1), (2, .int .i64 s3)] ⟨rfl, rfl, rfl, trivial⟩ (fun f1 => ?_)
      refine wk_then ?_
      refine wc_block ?_
      refine wc_region ?_
      refine wl_val (at_move rfl) rfl ?_
      refine wl_val (at_sub rfl rfl) rfl ?_
      refine wl_val (at_assign rfl) rfl ?_
      refine wl_nil ?_
      refine wk_blkN ?_
      exact wk_again ⟨((IntKind.wrap .i64 (s3 - 1))), _, ac_again ⟨rfl, rfl, rfl, trivial⟩, so, h⟩
    · refine wc_exit ?_
      refine wk_thenE ?_
      refine wk_thenE ?_
      refine wk_blkE ?_
      refine wk_prune [(2, .int .i64 s3)] ⟨rfl, trivial⟩ (fun f1 => ?_)
      refine wk_then ?_
      refine wc_seq ?_
      refine wc_region ?_
      refine wl_val (at_move rfl) rfl ?_
      refine wl_val (at_assign rfl) rfl ?_
      refine wl_nil ?_
      refine wk_prune [(6, .int .i64 s3)] ⟨rfl, trivial⟩ (fun f1 => ?_)
      refine wk_then ?_
      refine wc_ret ?_
      exact wk_ret1 (x := s3) rfl (by decide) rfl so h
  · intro J7 h hJ7
    refine wc_region ?_
    refine wl_val (at_move rfl) rfl ?_
    refine wl_val (at_move rfl) rfl ?_
    refine wl_val (at_gtr rfl rfl) rfl ?_
    refine wl_val (at_move rfl) rfl ?_
    refine bif_ h (fun hb h => ?_) (fun hb h => ?_)
    · refine wl_set (t := 10) (v := .bool true) (congrArg Value.bool hb) ?_; clear hb
      refine wl_on (t := 10) rfl (by decide) rfl ?_
      refine wl_val (at_move rfl) rfl ?_
      refine wl_on (t := 10) rfl (by decide) rfl ?_
      refine wl_val (at_move rfl) rfl ?_
      refine wl_on (t := 10) rfl (by decide) rfl ?_
      refine wl_val (at_sub rfl rfl) rfl ?_
      refine wl_on (t := 10) rfl (by decide) rfl ?_
      obtain ⟨q10, q11, h⟩ := h
      refine wl_val (at_ixS Try.underlying9 rfl rfl q10 q11) rfl ?_
      refine wl_on (t := 10) rfl (by decide) rfl ?_
      refine wl_val (at_eql rfl rfl) rfl ?_
      refine wl_val (at_pick_t rfl rfl) rfl ?_
      refine wl_nil ?_
      exact wk_prune [(0, .string a0), (1, .int .i64 a1), (2, .int .i64 s3), (16, .bool ((bt a0 (IntKind.wrap .i64 (s3 - 1))) == 255))] ⟨rfl, rfl, rfl, rfl, trivial⟩ (fun f1 => hJ7 (((bt a0 (IntKind.wrap .i64 (s3 - 1))) == 255)) _ f1 h so)
    · refine wl_set (t := 10) (v := .bool false) (congrArg Value.bool hb) ?_; clear hb
      refine wl_off (t := 10) rfl (by decide) rfl ?_
      refine wl_off (t := 10) rfl (by decide) rfl ?_
      refine wl_off (t := 10) rfl (by decide) rfl ?_
      refine wl_off (t := 10) rfl (by decide) rfl ?_
      refine wl_off (t := 10) rfl (by decide) rfl ?_
      refine wl_val (at_pick_f rfl rfl) rfl ?_
      refine wl_nil ?_
      exact wk_prune [(0, .string a0), (1, .int .i64 a1), (2, .int .i64 s3), (16, .bool false)] ⟨rfl, rfl, rfl, rfl, trivial⟩ (fun f1 => hJ7 (false) _ f1 h so)

def cuts_Each_1.yenc : Int × Int × Int × Int → Array Value := fun x => #[.agg (c29 x.1 x.2.1 x.2.2.1 x.2.2.2).toArray]
/-- mosaic/cuts.Each$1 -/
def cuts_Each_1.enc : Unit → Value := fun _ => .tuple #[]
def cuts_Each_1.s (Y0 : (Int × Int × Int × Int) → Hp → (Bool → Hp → Prop) → Prop) (a1 : Addr) (a2 : Addr) (H0 : Hp) (Q : Unit → Hp → Prop) : Prop :=
  ldI .i64 H0 a1 (fun x1 => ∃ k3, Fix (fun (rec8 : Int → Hp → Prop) (s5 : Int) (H6 : Hp) => Join (fun (s10 : Addr) (H11 : Hp) => ldS H11 a2 (fun x12 => marker_Next.s x12 s5 H11 (fun x14 H15 => Gn [] H15 (fun (b16 : Nat) (H18 : Hp) => Join (fun (s20 : Bool) (H21 : Hp) => Join (fun (s23 : Unit) (H24 : Hp) => Join (fun (s26 : Unit) (H27 : Hp) => Join (fun (s29 : Bool) (H30 : Hp) => if s29 = true then (Q () H30) else (ldI .i64 H30 (s10.add 3) (fun x31 => rec8 (x31) H30))) (fun (J28 : Bool → Hp → Prop) => ∃ x33 : Int, ∃ x34 : Int, ∃ x35 : Int, ∃ x36 : Int, ldA H27 s10 (c29 x33 x34 x35 x36) ∧ (Y0 (x33, x34, x35, x36) H27 (fun b38 H39 => if (!b38) = true then (J28 (true) H39) else (J28 ((!s20)) H39))))) (fun (J25 : Unit → Hp → Prop) => if s20 = true then (st H24 (s10.add 2) (.int .i8 (IntKind.wrap .i8 (Go.bits .and .u8 x14.2.2.1 7))) (fun H43 => Pv [b16] H24 H43 ∧ (st H43 (s10.add 3) (.int .i64 x14.2.1) (fun H45 => Pv [b16] H43 H45 ∧ (J25 () H45))))) else (J25 () H24))) (fun (J22 : Unit → Hp → Prop) => if x14.2.2.2 = true then (ldS H21 a2 (fun x48 => cuts_back.s x48 s5 x14.1 H21 (fun x52 H53 => Pv [b16] H21 H53 ∧ (st H53 (s10.add 1) (.int .i64 x52) (fun H55 => Pv [b16] H53 H55 ∧ (st H55 (s10.add 2) (.int .i8 (-1)) (fun H57 => Pv [b16] H55 H57 ∧ (st H57 (s10.add 3) (.int .i64 x14.1) (fun H59 => Pv [b16] H57 H59 ∧ (J22 () H59)))))))))) else (J22 () H21))) (fun (J19 : Bool → Hp → Prop) => if x14.2.2.2 = true then (marker_Kind.s x14.2.2.1 H18 (fun x61 H62 => Pv [b16] H18 H62 ∧ (J19 ((x61 == 3)) H62))) else (J19 (false) H18)))))) (fun (J9 : Addr → Hp → Prop) => ldS H6 a2 (fun x65 => ldS H6 a2 (fun x67 => ldS H6 a2 (fun x69 => (cuts_back.s x65 s5 (x67.size : Int) H6 (fun x71 H72 => cellAt H72 a2 = some (.string x69) ∧ (Gn [] H72 (fun (b74 : Nat) (H75 : Hp) => cellAt H75 a2 = some (.string x69) ∧ (Gr [b74] H75 (fun (H77 : Hp) => Bk H77 b74 29 (c29 s5 x71 (-2) (x69.size : Int)) → (J9 ((⟨b74, 0, none⟩ : Addr)) H77))))))) ∧ (Gn [] H6 (fun (b78 : Nat) (H79 : Hp) => cellAt H79 a2 = some (.string x69) ∧ cellAt H79 a2 = some (.string x67) ∧ cellAt H79 a2 = some (.string x65) ∧ (cuts_back.s x65 s5 (x67.size : Int) H79 (fun x83 H84 => Pv [b78] H79 H84 ∧ (cellAt H84 a2 = some (.string x69) ∧ (Gr [b78] H84 (fun (H87 : Hp) => Bk H87 b78 29 (c29 s5 x83 (-2) (x69.size : Int)) → (J9 ((⟨b78, 0, none⟩ : Addr)) H87))))))))))))) k3 (x1) H0)
set_option maxRecDepth 20000 in
set_option maxHeartbeats 4000000 in
theorem cuts_Each_1.calls (yv0 : Value) (Y0 : (Int × Int × Int × Int) → Hp → (Bool → Hp → Prop) → Prop) (hY0 : YOk Try.prog cuts_Each_1.yenc yv0 Y0) (a1 : Addr) (a2 : Addr) (w0 : World) (Q : Unit → Hp → Prop) (h : cuts_Each_1.s Y0 a1 a2 w0.heap Q) :
    Ca Try.prog 16 #[yv0, .pointer (some a1), .pointer (some a2)] w0 (Rt cuts_Each_1.enc Q w0) := by
  refine ca_start (c := _) Try.func16 rfl Try.ntmps16 rfl ?_
  have so : Sm w0 w0 := Sm.refl w0
  unfold cuts_Each_1.s at h
  refine wc_prune [(0, yv0), (1, .pointer (some a1)), (2, .pointer (some a2))] ⟨rfl, rfl, rfl, trivial⟩ (fun f1 => ?_)
  refine wc_seq ?_
  refine wc_region ?_
  obtain ⟨x1, q2, h⟩ := h
  refine wl_val (at_load Try.underlying3 rfl rfl q2) rfl ?_
  refine wl_val (at_assign rfl) rfl ?_
  refine wl_nil ?_
  refine wk_prune [(0, yv0), (2, .pointer (some a2)), (4, .int .i64 x1)] ⟨rfl, rfl, rfl, trivial⟩ (fun f1 => ?_)
  refine wk_then ?_
  refine wc_block ?_
  obtain ⟨k3, h⟩ := h
  refine wc_loop (fun k a w => ∃ (s5 : Int) (f1 : Nat → Value), a = ac 62 (en f1 [(0, yv0), (2, .pointer (some a2)), (4, .int .i64 s5)]) [] ∧ Sm w0 w ∧ Fix _ k s5 w.heap) k3 ⟨(x1), _, ac_again ⟨rfl, rfl, rfl, trivial⟩, so, h⟩ ?_
  rintro k4 a7 w6 ⟨s5, f1, rfl, so, h⟩
  rcases k4 with _ | k4
  · exact h.elim
  replace h := Fix.un h; refine wc_in ?_
  refine wc_block ?_
  refine wc_seq ?_
  refine wc_join (w0 := w0) (fun (s10 : Addr) => [(0, yv0), (2, .pointer (some a2)), (4, .int .i64 s5), (5, .pointer (some s10))]) h ?_ ?_
  · rintro s10 w11 f1 h so; refine wk_then ?_
    refine wc_seq ?_
    refine wc_region ?_
    obtain ⟨x12, q13, h⟩ := h
    refine wl_val (at_load Try.underlying9 rfl rfl q13) rfl ?_
    refine wl_val (at_move rfl) rfl ?_
    refine wl_callF (marker_Next.calls _ _ _ _ h) enter18 rfl trivial so ?_; intro x14 w15 h so
    refine wl_val (at_move rfl) rfl ?_
    refine wl_val (at_extract rfl rfl) rfl ?_
    refine wl_val (at_extract rfl rfl) rfl ?_
    refine wl_newT (T := 50) (cs := (c50 0 0 0)) (ef_alloc zero50 rfl) rfl so ?_; intro b16 w17 hb_b16 t_b16 k_b16 so
    have g_b16 := Nat.le_of_eq hb_b16.symm
    have hc := k_b16.ch (F := [])
    refine wl_stWT (vs := (c50 x14.1 x14.2.1 x14.2.2.1)) t_b16 (by first | (rw [len50, len50]) | (rw [len50]) | rfl) rfl so (fun q => ef_storeA (p := (⟨b16, 0, none⟩ : Addr)) (cs := (c50 x14.1 x14.2.1 x14.2.2.1)) (by rw [len50]; exact sz50) rfl rfl (one50 _ _ _) q) ?_; intro w18 t_b16 s_w18 so
    replace hc := ch_same hc s_w18 (.inr g_b16)
    refine wl_val (at_assign rfl) rfl ?_
    refine wl_nil ?_
    refine wk_prune [(0, yv0), (2, .pointer (some a2)), (4, .int .i64 s5), (5, .pointer (some s10)), (6, .pointer (some (⟨b16, 0, none⟩ : Addr))), (7, .bool x14.2.2.2)] ⟨rfl, rfl, rfl, rfl, rfl, rfl, trivial⟩ (fun f1 => ?_)
    refine wk_then ?_
    replace h := h b16 _ hc g_b16 t_b16.lt; clear hc
    refine wc_seq ?_
    refine wc_joinG (w0 := w0) (fun (H : Hp) => Bk H b16 50 (c50 x14.1 x14.2.1 x14.2.2.1) ∧ True) (fun (s20 : Bool) => [(0, yv0), (2, .pointer (some a2)), (4, .int .i64 s5), (5, .pointer (some s10)), (6, .pointer (some (⟨b16, 0, none⟩ : Addr))), (7, .bool x14.2.2.2), (8, .bool s20)]) (fun (s20 : Bool) => []) h ?_ ?_
    · rintro s20 w21 f1 h ⟨t_b16, _⟩ so; refine wk_then ?_
      refine wc_seq ?_
      refine wc_joinG (w0 := w0) (fun (H : Hp) => Bk H b16 50 (c50 x14.1 x14.2.1 x14.2.2.1) ∧ True) (fun (s23 : Unit) => [(0, yv0), (2, .pointer (some a2)), (5, .pointer (some s10)), (6, .pointer (some (⟨b16, 0, none⟩ : Addr))), (8, .bool s20)]) (fun (s23 : Unit) => []) h ?_ ?_
      · rintro s23 w24 f1 h ⟨t_b16, _⟩ so; refine wk_then ?_
        refine wc_seq ?_
        refine wc_join (w0 := w0) (fun (s26 : Unit) => [(0, yv0), (2, .pointer (some a2)), (5, .pointer (some s10)), (8, .bool s20)]) h ?_ ?_
        · rintro s26 w27 f1 h so; refine wk_then ?_
          refine wc_seq ?_
          refine wc_seq ?_
          refine wc_join (w0 := w0) (fun (s29 : Bool) => [(0, yv0), (2, .pointer (some a2)), (5, .pointer (some s10)), (59, .bool s29)]) h ?_ ?_
          · rintro s29 w30 f1 h so; refine wk_then ?_
            refine wc_cond rfl h (fun h => ?_) (fun h => ?_)
            · refine wc_ret ?_
              refine wk_thenR ?_
              refine wk_blkR ?_
              refine wk_thenR ?_
              refine wk_blkR ?_
              exact wk_ret0 (x := ()) rfl rfl so h
            · refine wc_skip ?_
              refine wk_prune [(0, yv0), (2, .pointer (some a2)), (5, .pointer (some s10))] ⟨rfl, rfl, rfl, trivial⟩ (fun f1 => ?_)
              refine wk_then ?_
              refine wc_region ?_
              refine wl_val (at_fieldAddr Try.underlying29 rfl rfl sz3 (by decide) rfl) rfl ?_
              obtain ⟨x31, q32, h⟩ := h
              refine wl_val (at_load Try.underlying3 rfl rfl q32) rfl ?_
              refine wl_val (at_assign rfl) rfl ?_
              refine wl_nil ?_
              refine wk_blkN ?_
              exact wk_again ⟨(x31), _, ac_again ⟨rfl, rfl, rfl, trivial⟩, so, h⟩
          · intro J28 h hJ28
            refine wc_region ?_
            refine wl_val (at_move rfl) rfl ?_
            obtain ⟨x33, x34, x35, x36, q37, h⟩ := h
            refine wl_val (at_loadA (cs := (c29 x33 x34 x35 x36)) Try.underlying29 rfl (by rw [len29]; exact sz29) rfl q37) rfl ?_
            refine wl_yield (a := (x33, x34, x35, x36)) hY0 rfl rfl rfl h so ?_; intro b38 w39 h so
            refine wl_val (at_not rfl) rfl ?_
            refine wl_val (at_move rfl) rfl ?_
            refine bif_ h (fun hb h => ?_) (fun hb h => ?_)
            · refine wl_set (t := 56) (v := .bool true) (congrArg Value.bool hb) ?_; clear hb
              refine wl_off (t := 56) rfl (by decide) rfl ?_
              refine wl_off (t := 56) rfl (by decide) rfl ?_
              refine wl_val (at_pick_t rfl rfl) rfl ?_
              refine wl_nil ?_
              exact wk_prune [(0, yv0), (2, .pointer (some a2)), (5, .pointer (some s10)), (59, .bool true)] ⟨rfl, rfl, rfl, rfl, trivial⟩ (fun f1 => hJ28 (true) _ f1 h so)
            · refine wl_set (t := 56) (v := .bool false) (congrArg Value.bool hb) ?_; clear hb
              refine wl_on (t := 56) rfl (by decide) rfl ?_
              refine wl_val (at_move rfl) rfl ?_
              refine wl_on (t := 56) rfl (by decide) rfl ?_
              refine wl_val (at_not rfl) rfl ?_
              refine wl_val (at_pick_f rfl rfl) rfl ?_
              refine wl_nil ?_
              exact wk_prune [(0, yv0), (2, .pointer (some a2)), (5, .pointer (some s10)), (59, .bool (!s20))] ⟨rfl, rfl, rfl, rfl, trivial⟩ (fun f1 => hJ28 ((!s20)) _ f1 h so)
        · intro J25 h hJ25
          refine wc_seq ?_
          refine wc_region ?_
          refine wl_val (at_move rfl) rfl ?_
          refine wl_nil ?_
          refine wk_prune [(0, yv0), (2, .pointer (some a2)), (5, .pointer (some s10)), (6, .pointer (some (⟨b16, 0, none⟩ : Addr))), (8, .bool s20), (43, .bool s20)] ⟨rfl, rfl, rfl, rfl, rfl, rfl, trivial⟩ (fun f1 => ?_)
          refine wk_then ?_
          refine wc_cond rfl h (fun h => ?_) (fun h => ?_)
          · refine wc_wo [0, 1, 3, 7, 0, 16, 15, 79, 255, 511] mixed (by kernel_rfl) so ?_; intro w40 hw so; rw [← hw] at h t_b16; clear hw
            refine wo_pure (m' := 1) 0 rfl (by kernel_rfl) rfl rfl (fun H => at_fieldAddr Try.underlying50 rfl rfl sz5 (by decide) rfl) ?_
            refine wo_pure (m' := 17) 4 rfl (by kernel_rfl) rfl rfl (fun H => at_fieldAddr Try.underlying50 rfl rfl sz3 (by decide) rfl) ?_
            have q41 : cellAt w40.heap (⟨b16, 2, none⟩ : Addr) = some (.int .u8 x14.2.2.1) := (t_b16.cell 2).trans (by first | rfl | simp [List.getElem?_append, ints_len, bools_len])
            refine wo_load (m' := 19) 1 (fun H => cellAt H (⟨b16, 2, none⟩ : Addr) = some (.int .u8 x14.2.2.1)) rfl (by kernel_rfl) rfl rfl (fun H q41 => at_load (v := .int .u8 x14.2.2.1) Try.underlying5 rfl rfl (q41)) q41 ?_
            refine wo_pure (m' := 23) 2 rfl (by kernel_rfl) rfl rfl (fun H => at_and rfl rfl) ?_
            refine wo_pure (m' := 31) 3 rfl (by kernel_rfl) rfl rfl (fun H => at_conv Try.underlying5 Try.underlying27 rfl) ?_
            refine wo_pure (m' := 95) 6 rfl (by kernel_rfl) rfl rfl (fun H => at_fieldAddr Try.underlying29 rfl rfl sz27 (by decide) rfl) ?_
            have q42 : cellAt w40.heap (⟨b16, 1, none⟩ : Addr) = some (.int .i64 x14.2.1) := (t_b16.cell 1).trans (by first | rfl | simp [List.getElem?_append, ints_len, bools_len])
            refine wo_load (m' := 127) 5 (fun H => cellAt H (⟨b16, 1, none⟩ : Addr) = some (.int .i64 x14.2.1)) rfl (by kernel_rfl) rfl rfl (fun H q42 => at_load (v := .int .i64 x14.2.1) Try.underlying3 rfl rfl (q42)) q42 ?_
            refine wo_take (m' := 255) 7 [false, true] rfl (by kernel_rfl) rfl (by kernel_rfl) ?_
            refine wl_st (v := .int .i8 (IntKind.wrap .i8 (Go.bits .and .u8 x14.2.2.1 7))) h rfl so (fun q1 q2 => ef_store (sz := sz27) rfl rfl rfl q1 q2) ?_; intro w43 h so
            obtain ⟨q44, h⟩ := h
            replace t_b16 := pv_bk q44 t_b16 (by simp)
            refine wl_nil ?_
            refine wk_tq ⟨((t_b16.cell 1).trans (by first | rfl | simp [List.getElem?_append, ints_len, bools_len])), trivial⟩ ?_
            refine wo_pure (m' := 511) 8 rfl (by kernel_rfl) rfl rfl (fun H => at_fieldAddr Try.underlying29 rfl rfl sz3 (by decide) rfl) ?_
            refine wo_take (m' := 1023) 9 [true] rfl (by kernel_rfl) rfl (by kernel_rfl) ?_
            refine wl_st (v := .int .i64 x14.2.1) h rfl so (fun q1 q2 => ef_store (sz := sz3) rfl rfl rfl q1 q2) ?_; intro w45 h so
            obtain ⟨q46, h⟩ := h
            replace t_b16 := pv_bk q46 t_b16 (by simp)
            refine wl_nil ?_
            refine wk_tq trivial ?_
            refine wo_done (by kernel_rfl) ?_
            exact wk_prune [(0, yv0), (2, .pointer (some a2)), (5, .pointer (some s10)), (8, .bool s20)] ⟨rfl, rfl, rfl, rfl, trivial⟩ (fun f1 => hJ25 () _ f1 h so)
          · refine wc_skip ?_
            exact wk_prune [(0, yv0), (2, .pointer (some a2)), (5, .pointer (some s10)), (8, .bool s20)] ⟨rfl, rfl, rfl, rfl, trivial⟩ (fun f1 => hJ25 () _ f1 h so)
      · intro J22 h hJ22
        refine wc_seq ?_
        refine wc_region ?_
        refine wl_val (at_move rfl) rfl ?_
        refine wl_nil ?_
        refine wk_prune [(0, yv0), (2, .pointer (some a2)), (4, .int .i64 s5), (5, .pointer (some s10)), (6, .pointer (some (⟨b16, 0, none⟩ : Addr))), (8, .bool s20), (32, .bool x14.2.2.2)] ⟨rfl, rfl, rfl, rfl, rfl, rfl, rfl, trivial⟩ (fun f1 => ?_)
        refine wk_then ?_
        refine wc_cond rfl h (fun h => ?_) (fun h => ?_)
        · refine wc_wo [0, 0, 0, 4, 15, 0, 32, 31, 159, 415, 927, 2047, 4095] mixed (by kernel_rfl) so ?_; intro w47 hw so; rw [← hw] at h t_b16; clear hw
          refine wo_pure (m' := 2) 1 rfl (by kernel_rfl) rfl rfl (fun H => at_move rfl) ?_
          refine wo_pure (m' := 6) 2 rfl (by kernel_rfl) rfl rfl (fun H => at_fieldAddr Try.underlying50 rfl rfl sz3 (by decide) rfl) ?_
          refine wo_pure (m' := 38) 5 rfl (by kernel_rfl) rfl rfl (fun H => at_fieldAddr Try.underlying50 rfl rfl sz3 (by decide) rfl) ?_
          obtain ⟨x48, q49, h⟩ := h
          refine wo_load (m' := 39) 0 (fun H => cellAt H a2 = some (.string x48)) rfl (by kernel_rfl) rfl rfl (fun H q49 => at_load Try.underlying9 rfl rfl q49) q49 ?_
          have q50 : cellAt w47.heap (⟨b16, 0, none⟩ : Addr) = some (.int .i64 x14.1) := (t_b16.cell 0).trans (by first | rfl | simp [List.getElem?_append, ints_len, bools_len])
          refine wo_load (m' := 47) 3 (fun H => cellAt H (⟨b16, 0, none⟩ : Addr) = some (.int .i64 x14.1)) rfl (by kernel_rfl) rfl rfl (fun H q50 => at_load (v := .int .i64 x14.1) Try.underlying3 rfl rfl (q50)) q50 ?_
          have q51 : cellAt w47.heap (⟨b16, 0, none⟩ : Addr) = some (.int .i64 x14.1) := (t_b16.cell 0).trans (by first | rfl | simp [List.getElem?_append, ints_len, bools_len])
          refine wo_load (m' := 111) 6 (fun H => cellAt H (⟨b16, 0, none⟩ : Addr) = some (.int .i64 x14.1)) rfl (by kernel_rfl) rfl rfl (fun H q51 => at_load (v := .int .i64 x14.1) Try.underlying3 rfl rfl (q51)) q51 ?_
          refine wo_take (m' := 127) 4 [false, true, true] rfl (by kernel_rfl) rfl (by kernel_rfl) ?_
          refine wl_callF (cuts_back.calls _ _ _ _ _ h) enter17 rfl trivial so ?_; intro x52 w53 h so
          obtain ⟨q54, h⟩ := h
          replace t_b16 := pv_bk q54 t_b16 (by simp)
          refine wl_nil ?_
          refine wk_tq ⟨((t_b16.cell 0).trans (by first | rfl | simp [List.getElem?_append, ints_len, bools_len])), trivial⟩ ?_
          refine wo_pure (m' := 255) 7 rfl (by kernel_rfl) rfl rfl (fun H => at_fieldAddr Try.underlying29 rfl rfl sz3 (by decide) rfl) ?_
          refine wo_take (m' := 511) 8 [false] rfl (by kernel_rfl) rfl (by kernel_rfl) ?_
          refine wl_st (v := .int .i64 x52) h rfl so (fun q1 q2 => ef_store (sz := sz3) rfl rfl rfl q1 q2) ?_; intro w55 h so
          obtain ⟨q56, h⟩ := h
          replace t_b16 := pv_bk q56 t_b16 (by simp)
          refine wl_nil ?_
          refine wk_tq ⟨((t_b16.cell 0).trans (by first | rfl | simp [List.getElem?_append, ints_len, bools_len])), trivial⟩ ?_
          refine wo_pure (m' := 1023) 9 rfl (by kernel_rfl) rfl rfl (fun H => at_fieldAddr Try.underlying29 rfl rfl sz27 (by decide) rfl) ?_
          refine wo_take (m' := 2047) 10 [false] rfl (by kernel_rfl) rfl (by kernel_rfl) ?_
          refine wl_st (v := .int .i8 (-1)) h rfl so (fun q1 q2 => ef_store (sz := sz27) rfl rfl rfl q1 q2) ?_; intro w57 h so
          obtain ⟨q58, h⟩ := h
          replace t_b16 := pv_bk q58 t_b16 (by simp)
          refine wl_nil ?_
          refine wk_tq ⟨((t_b16.cell 0).trans (by first | rfl | simp [List.getElem?_append, ints_len, bools_len])), trivial⟩ ?_
          refine wo_pure (m' := 4095) 11 rfl (by kernel_rfl) rfl rfl (fun H => at_fieldAddr Try.underlying29 rfl rfl sz3 (by decide) rfl) ?_
          refine wo_take (m' := 8191) 12 [true] rfl (by kernel_rfl) rfl (by kernel_rfl) ?_
          refine wl_st (v := .int .i64 x14.1) h rfl so (fun q1 q2 => ef_store (sz := sz3) rfl rfl rfl q1 q2) ?_; intro w59 h so
          obtain ⟨q60, h⟩ := h
          replace t_b16 := pv_bk q60 t_b16 (by simp)
          refine wl_nil ?_
          refine wk_tq trivial ?_
          refine wo_done (by kernel_rfl) ?_
          exact wk_prune [(0, yv0), (2, .pointer (some a2)), (5, .pointer (some s10)), (6, .pointer (some (⟨b16, 0, none⟩ : Addr))), (8, .bool s20)] ⟨rfl, rfl, rfl, rfl, rfl, trivial⟩ (fun f1 => hJ22 () _ f1 h ⟨t_b16, trivial⟩ so)
        · refine wc_skip ?_
          exact wk_prune [(0, yv0), (2, .pointer (some a2)), (5, .pointer (some s10)), (6, .pointer (some (⟨b16, 0, none⟩ : Addr))), (8, .bool s20)] ⟨rfl, rfl, rfl, rfl, rfl, trivial⟩ (fun f1 => hJ22 () _ f1 h ⟨t_b16, trivial⟩ so)
    · intro J19 h hJ19
      refine wc_region ?_
      refine wl_val (at_move rfl) rfl ?_
      refine wl_val (at_move rfl) rfl ?_
      refine bif_ h (fun hb h => ?_) (fun hb h => ?_)
      · refine wl_set (t := 26) (v := .bool true) (congrArg Value.bool hb) ?_; clear hb
        refine wl_on (t := 26) rfl (by decide) rfl ?_
        refine wl_val (at_fieldAddr Try.underlying50 rfl rfl sz5 (by decide) rfl) rfl ?_
        refine wl_on (t := 26) rfl (by decide) rfl ?_
        refine wl_val (at_load (v := .int .u8 x14.2.2.1) Try.underlying5 rfl rfl ((t_b16.cell 2).trans (by first | rfl | simp [List.getElem?_append, ints_len, bools_len]))) rfl ?_
        refine wl_on (t := 26) rfl (by decide) rfl ?_
        refine wl_callF (marker_Kind.calls _ _ _ h) enter19 rfl trivial so ?_; intro x61 w62 h so
        obtain ⟨q63, h⟩ := h
        replace t_b16 := pv_bk q63 t_b16 (by simp)
        refine wl_on (t := 26) rfl (by decide) rfl ?_
        refine wl_val (at_eql rfl rfl) rfl ?_
        refine wl_val (at_pick_t rfl rfl) rfl ?_
        refine wl_val (at_assign rfl) rfl ?_
        refine wl_nil ?_
        exact wk_prune [(0, yv0), (2, .pointer (some a2)), (4, .int .i64 s5), (5, .pointer (some s10)), (6, .pointer (some (⟨b16, 0, none⟩ : Addr))), (7, .bool x14.2.2.2), (8, .bool (x61 == 3))] ⟨rfl, rfl, rfl, rfl, rfl, rfl, rfl, trivial⟩ (fun f1 => hJ19 ((x61 == 3)) _ f1 h ⟨t_b16, trivial⟩ so)
      · refine wl_set (t := 26) (v := .bool false) (congrArg Value.bool hb) ?_; clear hb
        refine wl_off (t := 26) rfl (by decide) rfl ?_
        refine wl_off (t := 26) rfl (by decide) rfl ?_
        refine wl_off (t := 26) rfl (by decide) rfl ?_
        refine wl_off (t := 26) rfl (by decide) rfl ?_
        refine wl_val (at_pick_f rfl rfl) rfl ?_
        refine wl_val (at_assign rfl) rfl ?_
        refine wl_nil ?_
        exact wk_prune [(0, yv0), (2, .pointer (some a2)), (4, .int .i64 s5), (5, .pointer (some s10)), (6, .pointer (some (⟨b16, 0, none⟩ : Addr))), (7, .bool x14.2.2.2), (8, .bool false)] ⟨rfl, rfl, rfl, rfl, rfl, rfl, rfl, trivial⟩ (fun f1 => hJ19 (false) _ f1 h ⟨t_b16, trivial⟩ so)
  · intro J9 h hJ9
    refine wc_wo [0, 0, 0, 0, 8, 30, 0, 64, 255, 0, 1023] mixed (by kernel_rfl) so ?_; intro w64 hw so; rw [← hw] at h; clear hw
    refine wo_pure (m' := 1) 0 rfl (by kernel_rfl) rfl rfl (fun H => at_move rfl) ?_
    refine wo_pure (m' := 5) 2 rfl (by kernel_rfl) rfl rfl (fun H => at_move rfl) ?_
    obtain ⟨x65, q66, h⟩ := h
    refine wo_load (m' := 7) 1 (fun H => cellAt H a2 = some (.string x65)) rfl (by kernel_rfl) rfl rfl (fun H q66 => at_load Try.underlying9 rfl rfl q66) q66 ?_
    obtain ⟨x67, q68, h⟩ := h
    refine wo_load (m' := 15) 3 (fun H => cellAt H a2 = some (.string x67)) rfl (by kernel_rfl) rfl rfl (fun H q68 => at_load Try.underlying9 rfl rfl q68) q68 ?_
    refine wo_pure (m' := 31) 4 rfl (by kernel_rfl) rfl rfl (fun H => at_lenS Try.underlying9 rfl) ?_
    obtain ⟨x69, q70, h⟩ := h
    refine wo_load (m' := 95) 6 (fun H => cellAt H a2 = some (.string x69)) rfl (by kernel_rfl) rfl rfl (fun H q70 => at_load Try.underlying9 rfl rfl q70) q70 ?_
    refine wo_pure (m' := 223) 7 rfl (by kernel_rfl) rfl rfl (fun H => at_lenS Try.underlying9 rfl) ?_
    refine wo_two (m1 := 255) (m2 := 735) 5 9 [false, true, true] [false, false, false] rfl rfl (by kernel_rfl) rfl rfl (by kernel_rfl) (by kernel_rfl) ?_ ?_
    · replace h := h.1; refine wl_callF (cuts_back.calls _ _ _ _ _ h) enter17 rfl trivial so ?_; intro x71 w72 h so
      refine wl_nil ?_
      obtain ⟨q73, h⟩ := h
      refine wk_tq ⟨q73, trivial⟩ ?_
      refine wo_pure (m' := 511) 8 rfl (by kernel_rfl) rfl rfl (fun H => at_build (cs := (c29 s5 x71 (-2) (x69.size : Int))) (ps := [(0, .int .i64 s5), (2, .int .i8 (-2)), (1, .int .i64 x71), (3, .int .i64 (x69.size : Int))]) rfl (fun w => by simp [Instr.build, Instr.fill, go_sem, Try.underlying29, z29])) ?_
      refine wo_take (m' := 1023) 9 [false] rfl (by kernel_rfl) rfl (by kernel_rfl) ?_
      refine wl_newT (T := 29) (cs := (c29 0 0 0 0)) (ef_alloc zero29 rfl) rfl so ?_; intro b74 w75 hb_b74 t_b74 k_b74 so
      have g_b74 := Nat.le_of_eq hb_b74.symm
      have hc := k_b74.ch (F := [])
      refine wl_nil ?_
      replace h := h b74 _ hc g_b74 t_b74.lt; clear hc
      obtain ⟨q76, h⟩ := h
      refine wk_tq ⟨q76, trivial⟩ ?_
      refine wo_take (m' := 2047) 10 [true] rfl (by kernel_rfl) rfl (by kernel_rfl) ?_
      refine wl_stWT (vs := (c29 s5 x71 (-2) (x69.size : Int))) t_b74 (by first | (rw [len29, len29]) | (rw [len29]) | rfl) rfl so (fun q => ef_storeA (p := (⟨b74, 0, none⟩ : Addr)) (cs := (c29 s5 x71 (-2) (x69.size : Int))) (by rw [len29]; exact sz29) rfl rfl (one29 _ _ _ _) q) ?_; intro w77 t_b74 s_w77 so
      have hc := s_w77.ch
      refine wl_nil ?_
      refine wk_tq trivial ?_
      refine wo_done (by kernel_rfl) ?_
      replace h := h _ hc; clear hc
      replace h := h t_b74
      exact wk_prune [(0, yv0), (2, .pointer (some a2)), (4, .int .i64 s5), (5, .pointer (some (⟨b74, 0, none⟩ : Addr)))] ⟨rfl, rfl, rfl, rfl, trivial⟩ (fun f1 => hJ9 ((⟨b74, 0, none⟩ : Addr)) _ f1 h so)
    · replace h := h.2; refine wl_newT (T := 29) (cs := (c29 0 0 0 0)) (ef_alloc zero29 rfl) rfl so ?_; intro b78 w79 hb_b78 t_b78 k_b78 so
      have g_b78 := Nat.le_of_eq hb_b78.symm
      have hc := k_b78.ch (F := [])
      refine wl_nil ?_
      replace h := h b78 _ hc g_b78 t_b78.lt; clear hc
      obtain ⟨q80, q81, q82, h⟩ := h
      refine wk_tq ⟨q80, q81, q82, trivial⟩ ?_
      refine wo_take (m' := 767) 5 [false, true, true] rfl (by kernel_rfl) rfl (by kernel_rfl) ?_
      refine wl_callF (cuts_back.calls _ _ _ _ _ h) enter17 rfl trivial so ?_; intro x83 w84 h so
      obtain ⟨q85, h⟩ := h
      replace t_b78 := pv_bk q85 t_b78 (by simp)
      refine wl_nil ?_
      obtain ⟨q86, h⟩ := h
      refine wk_tq ⟨q86, trivial⟩ ?_
      refine wo_pure (m' := 1023) 8 rfl (by kernel_rfl) rfl rfl (fun H => at_build (cs := (c29 s5 x83 (-2) (x69.size : Int))) (ps := [(0, .int .i64 s5), (2, .int .i8 (-2)), (1, .int .i64 x83), (3, .int .i64 (x69.size : Int))]) rfl (fun w => by simp [Instr.build, Instr.fill, go_sem, Try.underlying29, z29])) ?_
      refine wo_take (m' := 2047) 10 [true] rfl (by kernel_rfl) rfl (by kernel_rfl) ?_
      refine wl_stWT (vs := (c29 s5 x83 (-2) (x69.size : Int))) t_b78 (by first | (rw [len29, len29]) | (rw [len29]) | rfl) rfl so (fun q => ef_storeA (p := (⟨b78, 0, none⟩ : Addr)) (cs := (c29 s5 x83 (-2) (x69.size : Int))) (by rw [len29]; exact sz29) rfl rfl (one29 _ _ _ _) q) ?_; intro w87 t_b78 s_w87 so
      have hc := s_w87.ch
      refine wl_nil ?_
      refine wk_tq trivial ?_
      refine wo_done (by kernel_rfl) ?_
      replace h := h _ hc; clear hc
      replace h := h t_b78
      exact wk_prune [(0, yv0), (2, .pointer (some a2)), (4, .int .i64 s5), (5, .pointer (some (⟨b78, 0, none⟩ : Addr)))] ⟨rfl, rfl, rfl, rfl, trivial⟩ (fun f1 => hJ9 ((⟨b78, 0, none⟩ : Addr)) _ f1 h so)

/-- mosaic/cuts.Pieces -/
def cuts_Pieces.enc : Sl × Int × Int → Value := fun r => .tuple #[.slice r.1.a r.1.n r.1.c, .int .i64 r.2.1, .int .i64 r.2.2]
def cuts_Pieces.s (a0 : ByteArray) (a1 : Int) (a2 : Int) (H0 : Hp) (Q : (Sl × Int × Int) → Hp → Prop) : Prop :=
  Gn [] H0 (fun (b1 : Nat) (H2 : Hp) => Gn [] H2 (fun (b3 : Nat) (H4 : Hp) => Gn [] H4 (fun (b5 : Nat) (H6 : Hp) => Gn [] H6 (fun (b7 : Nat) (H8 : Hp) => Gn [] H8 (fun (b9 : Nat) (H10 : Hp) => Gn [] H10 (fun (b11 : Nat) (H13 : Hp) => cuts_Each.s a0 a1 H13 (fun x14 H15 => Pv [b1, b3, b5, b7, b9, b11] H13 H15 ∧ (Bk H15 b1 3 [.int .i64 a2] → (Bk H15 b3 22 [.slice none 0 0] → (Bk H15 b5 3 [.int .i64 0] → (Bk H15 b7 32 [.int .i64 0] → (Bk H15 b9 22 [.slice none 0 0] → (Bk H15 b11 3 [.int .i64 0] → (Rg H15 (fun r17 D25 H20 => cuts_Each_1.s (fun (x21 : Int × Int × Int × Int) (H23 : Hp) (K22 : Bool → Hp → Prop) => Lp H23 (D25 + 1) r17 ∧ (Gn [] H23 (fun (b26 : Nat) (H28 : Hp) => Lp H28 (D25 + 1) r17 ∧ Up (putL H28 (D25 + 1) (bsy r17)) (fun H29 => Pv [b26] H28 H29 ∧ (ldL H29 (⟨b9, 0, none⟩ : Addr) (fun x31 => ldI .i64 H29 (⟨b1, 0, none⟩ : Addr) (fun x33 => if decide (x33 ≤ (x31.n : Int)) = true then (st H29 (⟨b3, 0, none⟩ : Addr) (.slice none 0 0) (fun H35 => st H35 (⟨b5, 0, none⟩ : Addr) (.int .i64 0) (fun H36 => st H36 (⟨b7, 0, none⟩ : Addr) (.int .i64 5) (fun H37 => Lp H37 (D25 + 1) (bsy r17) ∧ K22 false (putL H37 (D25 + 1) (dn r17 .ret)))))) else (ldL H29 (⟨b9, 0, none⟩ : Addr) (fun x38 => nw H29 29 (c29 x21.1 x21.2.1 x21.2.2.1 x21.2.2.2) (fun p40 H41 => Pv [b26] H29 H41 ∧ (apS H41 x38 29 4 32 z29.cells 1 (c29 x21.1 x21.2.1 x21.2.2.1 x21.2.2.2) (fun l46 H47 => Pv [b26] H41 H47 ∧ (st H47 (⟨b9, 0, none⟩ : Addr) (.slice l46.a l46.n l46.c) (fun H49 => Pv [b26] H47 H49 ∧ (st H49 (⟨b11, 0, none⟩ : Addr) (.int .i64 x21.2.2.2) (fun H51 => Lp H51 (D25 + 1) (bsy r17) ∧ K22 true (putL H51 (D25 + 1) r17))))))))))))))))) x14.1 x14.2 H20 (fun _ H24 => (Lp H24 (D25 + 1) r17 ∧ Up (putL H24 (D25 + 1) (exh r17)) (fun H53 => ldL H53 (⟨b9, 0, none⟩ : Addr) (fun x55 => ldI .i64 H53 (⟨b11, 0, none⟩ : Addr) (fun x57 => st H53 (⟨b3, 0, none⟩ : Addr) (.slice x55.a x55.n x55.c) (fun H59 => cellAt H59 (⟨b11, 0, none⟩ : Addr) = some (.int .i64 x57) ∧ (st H59 (⟨b5, 0, none⟩ : Addr) (.int .i64 x57) (fun H61 => st H61 (⟨b7, 0, none⟩ : Addr) (.int .i64 0) (fun H62 => tkD (D25 :: []) H62 (fun H63 => ldL H63 (⟨b3, 0, none⟩ : Addr) (fun x65 => ldI .i64 H63 (⟨b5, 0, none⟩ : Addr) (fun x67 => ldI .i64 H63 (⟨b7, 0, none⟩ : Addr) (fun x69 => Q (x65, x67, x69) H63)))))))))))) ∨ (Lp H24 (D25 + 1) (dn r17 .ret) ∧ Up (putL H24 (D25 + 1) (exh (dn r17 .ret))) (fun H70 => tkD (D25 :: []) H70 (fun H71 => ldL H71 (⟨b3, 0, none⟩ : Addr) (fun x73 => ldI .i64 H71 (⟨b5, 0, none⟩ : Addr) (fun x75 => ldI .i64 H71 (⟨b7, 0, none⟩ : Addr) (fun x77 => Q (x73, x75, x77) H71))))))))))))))))))))))
set_option maxRecDepth 20000 in
set_option maxHeartbeats 4000000 in
theorem cuts_Pieces.calls (a0 : ByteArray) (a1 : Int) (a2 : Int) (w0 : World) (Q : (Sl × Int × Int) → Hp → Prop) (h : cuts_Pieces.s a0 a1 a2 w0.heap Q) :
    Ca Try.prog 11 #[.string a0, .int .i64 a1, .int .i64 a2] w0 (Rt cuts_Pieces.enc Q w0) := by
  refine ca_startM (c := _) Try.func11 rfl Try.ntmps11 rfl ?_
  have so : Sm w0 w0 := Sm.refl w0
  unfold cuts_Pieces.s at h
  refine wc_prune [(0, .string a0), (1, .int .i64 a1), (2, .int .i64 a2)] ⟨rfl, rfl, rfl, trivial⟩ (fun f1 => ?_)
  refine wc_seq ?_
  refine wc_region ?_
  refine wl_newT (T := 3) (cs := [.int .i64 a2]) (ef_box rfl rfl) rfl so ?_; intro b1 w2 hb_b1 t_b1 k_b1 so
  have g_b1 := Nat.le_of_eq hb_b1.symm
  have hc := k_b1.ch (F := [])
  replace h := h b1 _ hc g_b1 t_b1.lt; clear hc
  refine wl_newT (T := 22) (cs := [.slice none 0 0]) (ef_alloc zero22 rfl) rfl so ?_; intro b3 w4 hb_b3 t_b3 k_b3 so
  have g_b3 := Nat.le_of_eq hb_b3.symm
  have hc := k_b3.ch (F := [])
  have n_b1_b3 : b1 ≠ b3 := fun e => by have := t_b1.lt; omega
  replace t_b1 := t_b1.keep k_b3
  replace h := h b3 _ hc g_b3 t_b3.lt; clear hc
  refine wl_newT (T := 3) (cs := [.int .i64 0]) (ef_alloc zero3 rfl) rfl so ?_; intro b5 w6 hb_b5 t_b5 k_b5 so
  have g_b5 := Nat.le_of_eq hb_b5.symm
  have hc := k_b5.ch (F := [])
  have n_b1_b5 : b1 ≠ b5 := fun e => by have := t_b1.lt; omega
  replace t_b1 := t_b1.keep k_b5
  have n_b3_b5 : b3 ≠ b5 := fun e => by have := t_b3.lt; omega
  replace t_b3 := t_b3.keep k_b5
  replace h := h b5 _ hc g_b5 t_b5.lt; clear hc
  refine wl_newT (T := 32) (cs := [.int .i64 0]) (ef_alloc zero32 rfl) rfl so ?_; intro b7 w8 hb_b7 t_b7 k_b7 so
  have g_b7 := Nat.le_of_eq hb_b7.symm
  have hc := k_b7.ch (F := [])
  have n_b1_b7 : b1 ≠ b7 := fun e => by have := t_b1.lt; omega
  replace t_b1 := t_b1.keep k_b7
  have n_b3_b7 : b3 ≠ b7 := fun e => by have := t_b3.lt; omega
  replace t_b3 := t_b3.keep k_b7
  have n_b5_b7 : b5 ≠ b7 := fun e => by have := t_b5.lt; omega
  replace t_b5 := t_b5.keep k_b7
  refine wl_nil ?_
  refine wk_prune [(0, .string a0), (1, .int .i64 a1), (5, .pointer (some (⟨b1, 0, none⟩ : Addr))), (6, .pointer (some (⟨b3, 0, none⟩ : Addr))), (7, .pointer (some (⟨b5, 0, none⟩ : Addr))), (8, .pointer (some (⟨b7, 0, none⟩ : Addr)))] ⟨rfl, rfl, rfl, rfl, rfl, rfl, trivial⟩ (fun f1 => ?_)
  refine wk_then ?_
  refine wc_seq ?_
  refine wc_region ?_
  replace h := h b7 _ hc g_b7 t_b7.lt; clear hc
  refine wl_newT (T := 22) (cs := [.slice none 0 0]) (ef_alloc zero22 rfl) rfl so ?_; intro b9 w10 hb_b9 t_b9 k_b9 so
  have g_b9 := Nat.le_of_eq hb_b9.symm
  have hc := k_b9.ch (F := [])
  have n_b1_b9 : b1 ≠ b9 := fun e => by have := t_b1.lt; omega
  replace t_b1 := t_b1.keep k_b9
  have n_b3_b9 : b3 ≠ b9 := fun e => by have := t_b3.lt; omega
  replace t_b3 := t_b3.keep k_b9
  have n_b5_b9 : b5 ≠ b9 := fun e => by have := t_b5.lt; omega
  replace t_b5 := t_b5.keep k_b9
  have n_b7_b9 : b7 ≠ b9 := fun e => by have := t_b7.lt; omega
  replace t_b7 := t_b7.keep k_b9
  refine wl_nil ?_
  refine wk_prune [(0, .string a0), (1, .int .i64 a1), (5, .pointer (some (⟨b1, 0, none⟩ : Addr))), (6, .pointer (some (⟨b3, 0, none⟩ : Addr))), (7, .pointer (some (⟨b5, 0, none⟩ : Addr))), (8, .pointer (some (⟨b7, 0, none⟩ : Addr))), (9, .pointer (some (⟨b9, 0, none⟩ : Addr)))] ⟨rfl, rfl, rfl, rfl, rfl, rfl, rfl, trivial⟩ (fun f1 => ?_)
  refine wk_then ?_
  refine wc_seq ?_
  refine wc_region ?_
  replace h := h b9 _ hc g_b9 t_b9.lt; clear hc
  refine wl_newT (T := 3) (cs := [.int .i64 0]) (ef_alloc zero3 rfl) rfl so ?_; intro b11 w12 hb_b11 t_b11 k_b11 so
  have g_b11 := Nat.le_of_eq hb_b11.symm
  have hc := k_b11.ch (F := [])
  have n_b1_b11 : b1 ≠ b11 := fun e => by have := t_b1.lt; omega
  replace t_b1 := t_b1.keep k_b11
  have n_b3_b11 : b3 ≠ b11 := fun e => by have := t_b3.lt; omega
  replace t_b3 := t_b3.keep k_b11
  have n_b5_b11 : b5 ≠ b11 := fun e => by have := t_b5.lt; omega
  replace t_b5 := t_b5.keep k_b11
  have n_b7_b11 : b7 ≠ b11 := fun e => by have := t_b7.lt; omega
  replace t_b7 := t_b7.keep k_b11
  have n_b9_b11 : b9 ≠ b11 := fun e => by have := t_b9.lt; omega
  replace t_b9 := t_b9.keep k_b11
  refine wl_stT (v := .int .i64 0) (cs' := [.int .i64 0]) t_b11 (by first | decide | simp [ints_len, bools_len]) (by first | rfl | simp [List.set_append, ints_len, bools_len]) rfl so (fun q1 q2 => ef_store (sz := sz3) rfl rfl rfl q1 q2) ?_; intro w13 t_b11 s_w13 so
  replace t_b1 := t_b1.same s_w13 (n_b1_b11)
  replace t_b3 := t_b3.same s_w13 (n_b3_b11)
  replace t_b5 := t_b5.same s_w13 (n_b5_b11)
  replace t_b7 := t_b7.same s_w13 (n_b7_b11)
  replace t_b9 := t_b9.same s_w13 (n_b9_b11)
  replace hc := ch_same hc s_w13 (.inr g_b11)
  refine wl_nil ?_
  refine wk_prune [(0, .string a0), (1, .int .i64 a1), (5, .pointer (some (⟨b1, 0, none⟩ : Addr))), (6, .pointer (some (⟨b3, 0, none⟩ : Addr))), (7, .pointer (some (⟨b5, 0, none⟩ : Addr))), (8, .pointer (some (⟨b7, 0, none⟩ : Addr))), (9, .pointer (some (⟨b9, 0, none⟩ : Addr))), (10, .pointer (some (⟨b11, 0, none⟩ : Addr)))] ⟨rfl, rfl, rfl, rfl, rfl, rfl, rfl, rfl, trivial⟩ (fun f1 => ?_)
  refine wk_then ?_
  refine wc_seq ?_
  refine wc_seq ?_
  refine wc_region ?_
  refine wl_val (at_move rfl) rfl ?_
  refine wl_val (at_move rfl) rfl ?_
  replace h := h b11 _ hc g_b11 t_b11.lt; clear hc
  refine wl_callF (cuts_Each.calls _ _ _ _ h) enter8 rfl trivial so ?_; intro x14 w15 h so
  obtain ⟨q16, h⟩ := h
  replace t_b1 := pv_bk q16 t_b1 (by simp)
  replace t_b3 := pv_bk q16 t_b3 (by simp)
  replace t_b5 := pv_bk q16 t_b5 (by simp)
  replace t_b7 := pv_bk q16 t_b7 (by simp)
  replace t_b9 := pv_bk q16 t_b9 (by simp)
  replace t_b11 := pv_bk q16 t_b11 (by simp)
  refine wl_nil ?_
  refine wk_prune [(5, .pointer (some (⟨b1, 0, none⟩ : Addr))), (6, .pointer (some (⟨b3, 0, none⟩ : Addr))), (7, .pointer (some (⟨b5, 0, none⟩ : Addr))), (8, .pointer (some (⟨b7, 0, none⟩ : Addr))), (9, .pointer (some (⟨b9, 0, none⟩ : Addr))), (10, .pointer (some (⟨b11, 0, none⟩ : Addr))), (14, .func (.func 16) #[] #[.pointer (some x14.1), .pointer (some x14.2)])] ⟨rfl, rfl, rfl, rfl, rfl, rfl, rfl, trivial⟩ (fun f1 => ?_)
  refine wk_then ?_
  refine wc_block ?_
  replace h := h t_b1
  replace h := h t_b3
  replace h := h t_b5
  replace h := h t_b7
  replace h := h t_b9
  replace h := h t_b11
  refine wc_prune [(5, .pointer (some (⟨b1, 0, none⟩ : Addr))), (6, .pointer (some (⟨b3, 0, none⟩ : Addr))), (7, .pointer (some (⟨b5, 0, none⟩ : Addr))), (8, .pointer (some (⟨b7, 0, none⟩ : Addr))), (9, .pointer (some (⟨b9, 0, none⟩ : Addr))), (10, .pointer (some (⟨b11, 0, none⟩ : Addr))), (14, .func (.func 16) #[] #[.pointer (some x14.1), .pointer (some x14.2)])] ⟨rfl, rfl, rfl, rfl, rfl, rfl, rfl, trivial⟩ (fun f1 => ?_)
  refine wc_rng (caps := [.pointer (some x14.1), .pointer (some x14.2)]) rfl enter16 so h ?_; intro r17 D25 w20 q18 q19 h so
  refine Ca.mono (cuts_Each_1.calls _ _ (yok (ps := [15]) q19 (fun _ => rfl) fun x21 w23 K22 h => ?_) _ _ w20 _ h) ?_
  · refine ⟨h.1, ?_⟩; replace h := h.2; have so := Sm.refl w23; refine wc_prune [(5, .pointer (some (⟨b1, 0, none⟩ : Addr))), (6, .pointer (some (⟨b3, 0, none⟩ : Addr))), (7, .pointer (some (⟨b5, 0, none⟩ : Addr))), (8, .pointer (some (⟨b7, 0, none⟩ : Addr))), (9, .pointer (some (⟨b9, 0, none⟩ : Addr))), (10, .pointer (some (⟨b11, 0, none⟩ : Addr))), (15, .agg (c29 x21.1 x21.2.1 x21.2.2.1 x21.2.2.2).toArray)] ⟨rfl, rfl, rfl, rfl, rfl, rfl, rfl, trivial⟩ (fun f1 => ?_)
    refine wc_region ?_
    refine wl_newT (T := 29) (cs := (c29 0 0 0 0)) (ef_alloc zero29 rfl) rfl so ?_; intro b26 w27 hb_b26 t_b26 k_b26 so
    have g_b26 := Nat.le_of_eq hb_b26.symm
    have hc := k_b26.ch (F := [])
    refine wl_stWT (vs := (c29 x21.1 x21.2.1 x21.2.2.1 x21.2.2.2)) t_b26 (by first | (rw [len29, len29]) | (rw [len29]) | rfl) rfl so (fun q => ef_storeA (p := (⟨b26, 0, none⟩ : Addr)) (cs := (c29 x21.1 x21.2.1 x21.2.2.1 x21.2.2.2)) (by rw [len29]; exact sz29) rfl rfl (one29 _ _ _ _) q) ?_; intro w28 t_b26 s_w28 so
    replace hc := ch_same hc s_w28 (.inr g_b26)
    refine wl_nil ?_
    replace h := h b26 _ hc g_b26 t_b26.lt; clear hc
    refine wk_prune [(5, .pointer (some (⟨b1, 0, none⟩ : Addr))), (6, .pointer (some (⟨b3, 0, none⟩ : Addr))), (7, .pointer (some (⟨b5, 0, none⟩ : Addr))), (8, .pointer (some (⟨b7, 0, none⟩ : Addr))), (9, .pointer (some (⟨b9, 0, none⟩ : Addr))), (10, .pointer (some (⟨b11, 0, none⟩ : Addr))), (11, .pointer (some (⟨b26, 0, none⟩ : Addr)))] ⟨rfl, rfl, rfl, rfl, rfl, rfl, rfl, trivial⟩ (fun f1 => ?_)
    refine wk_asg q18 h so ?_; intro w29 h so
    obtain ⟨q30, h⟩ := h
    replace t_b26 := pv_bk q30 t_b26 (by simp)
    refine wc_block ?_
    refine wc_seq ?_
    refine wc_seq ?_
    refine wc_region ?_
    obtain ⟨x31, q32, h⟩ := h
    refine wl_val (at_load Try.underlying22 rfl rfl q32) rfl ?_
    refine wl_val (at_lenL Try.underlying22 rfl) rfl ?_
    obtain ⟨x33, q34, h⟩ := h
    refine wl_val (at_load Try.underlying3 rfl rfl q34) rfl ?_
    refine wl_val (at_geq rfl rfl) rfl ?_
    refine wl_nil ?_
    refine wk_prune [(6, .pointer (some (⟨b3, 0, none⟩ : Addr))), (7, .pointer (some (⟨b5, 0, none⟩ : Addr))), (8, .pointer (some (⟨b7, 0, none⟩ : Addr))), (9, .pointer (some (⟨b9, 0, none⟩ : Addr))), (10, .pointer (some (⟨b11, 0, none⟩ : Addr))), (11, .pointer (some (⟨b26, 0, none⟩ : Addr))), (19, .bool (decide (x33 ≤ (x31.n : Int))))] ⟨rfl, rfl, rfl, rfl, rfl, rfl, rfl, trivial⟩ (fun f1 => ?_)
    refine wk_then ?_
    refine wc_cond rfl h (fun h => ?_) (fun h => ?_)
    · refine wc_seq ?_
      refine wc_region ?_
      refine wl_st (v := .slice none 0 0) h rfl so (fun q1 q2 => ef_store (sz := sz22) rfl rfl rfl q1 q2) ?_; intro w35 h so
      refine wl_st (v := .int .i64 0) h rfl so (fun q1 q2 => ef_store (sz := sz3) rfl rfl rfl q1 q2) ?_; intro w36 h so
      refine wl_st (v := .int .i64 5) h rfl so (fun q1 q2 => ef_store (sz := sz32) rfl rfl rfl q1 q2) ?_; intro w37 h so
      refine wl_nil ?_
      refine wk_prune [(6, .pointer (some (⟨b3, 0, none⟩ : Addr))), (7, .pointer (some (⟨b5, 0, none⟩ : Addr))), (8, .pointer (some (⟨b7, 0, none⟩ : Addr)))] ⟨rfl, rfl, rfl, trivial⟩ (fun f1 => ?_)
      refine wk_then ?_
      refine wc_ret ?_
      refine wk_thenR ?_
      refine wk_blkR ?_
      exact wk_rdR h so
    · refine wc_skip ?_
      refine wk_prune [(9, .pointer (some (⟨b9, 0, none⟩ : Addr))), (10, .pointer (some (⟨b11, 0, none⟩ : Addr))), (11, .pointer (some (⟨b26, 0, none⟩ : Addr)))] ⟨rfl, rfl, rfl, trivial⟩ (fun f1 => ?_)
      refine wk_then ?_
      refine wc_seq ?_
      refine wc_region ?_
      obtain ⟨x38, q39, h⟩ := h
      refine wl_val (at_load Try.underlying22 rfl rfl q39) rfl ?_
      refine wl_val (at_loadA (cs := (c29 x21.1 x21.2.1 x21.2.2.1 x21.2.2.2)) Try.underlying29 rfl (by rw [len29]; exact sz29) rfl (ldA_full t_b26)) rfl ?_
      obtain ⟨i43, i43a, i43b, i43c, i43d⟩ := info29
      refine wl_newS (ef_buildSlice (cs := (c29 x21.1 x21.2.1 x21.2.2.1 x21.2.2.2)) (ps := [(0, .agg (c29 x21.1 x21.2.1 x21.2.2.1 x21.2.2.2).toArray)]) Try.underlying22 i43a i43b rfl (by rw [i43c]; decide) (by rw [i43c]; exact fill_full (vs := [.agg (c29 x21.1 x21.2.1 x21.2.2.1 x21.2.2.2).toArray]) rfl (by simp [Value.cells]) (by simp [Value.cells, len29]) rfl (by simp))) rfl so (one29 _ _ _ _) h ?_; intro p40 w41 h r42 so
      obtain ⟨q44, h⟩ := h
      replace t_b26 := pv_bk q44 t_b26 (by simp)
      obtain ⟨i45, i45a, i45b, i45c, i45d⟩ := info29
      refine wl_ap (fx_append (s := x38) (t := ⟨(some p40), 1, 1⟩) (m := 1) (xs := (c29 x21.1 x21.2.1 x21.2.2.1 x21.2.2.2)) Try.underlying22 Try.underlying22 i45a i45b i45c i45d rfl rfl rfl (by first | rfl | simp [len29]) r42 h) rfl so ?_; intro l46 w47 h so
      obtain ⟨q48, h⟩ := h
      replace t_b26 := pv_bk q48 t_b26 (by simp)
      refine wl_st (v := .slice l46.a l46.n l46.c) h rfl so (fun q1 q2 => ef_store (sz := sz22) rfl rfl rfl q1 q2) ?_; intro w49 h so
      obtain ⟨q50, h⟩ := h
      replace t_b26 := pv_bk q50 t_b26 (by simp)
      refine wl_nil ?_
      refine wk_prune [(10, .pointer (some (⟨b11, 0, none⟩ : Addr))), (11, .pointer (some (⟨b26, 0, none⟩ : Addr)))] ⟨rfl, rfl, trivial⟩ (fun f1 => ?_)
      refine wk_then ?_
      refine wc_region ?_
      refine wl_val (at_fieldAddr Try.underlying29 rfl rfl sz3 (by decide) rfl) rfl ?_
      refine wl_val (at_load (v := .int .i64 x21.2.2.2) Try.underlying3 rfl rfl ((t_b26.cell 3).trans (by first | rfl | simp [List.getElem?_append, ints_len, bools_len]))) rfl ?_
      refine wl_st (v := .int .i64 x21.2.2.2) h rfl so (fun q1 q2 => ef_store (sz := sz3) rfl rfl rfl q1 q2) ?_; intro w51 h so
      refine wl_nil ?_
      refine wk_blkN ?_
      exact wk_rdN q18 h so
  · rintro _ w24 ⟨_, rfl, h, q52⟩; replace so := so.trans q52
    rcases h with h | h
    · refine rp_none q18 h so ?_; intro w53 h so
      refine wk_blkN ?_
      refine wk_prune [(6, .pointer (some (⟨b3, 0, none⟩ : Addr))), (7, .pointer (some (⟨b5, 0, none⟩ : Addr))), (8, .pointer (some (⟨b7, 0, none⟩ : Addr))), (9, .pointer (some (⟨b9, 0, none⟩ : Addr))), (10, .pointer (some (⟨b11, 0, none⟩ : Addr)))] ⟨rfl, rfl, rfl, rfl, rfl, trivial⟩ (fun f1 => ?_)
      refine wk_then ?_
      refine wc_seq ?_
      refine wc_wo [0, 0, 1, 7, 15] mixed (by kernel_rfl) so ?_; intro w54 hw so; rw [← hw] at h; clear hw
      obtain ⟨x55, q56, h⟩ := h
      refine wo_load (m' := 1) 0 (fun H => cellAt H (⟨b9, 0, none⟩ : Addr) = some (.slice x55.a x55.n x55.c)) rfl (by kernel_rfl) rfl rfl (fun H q56 => at_load Try.underlying22 rfl rfl q56) q56 ?_
      obtain ⟨x57, q58, h⟩ := h
      refine wo_load (m' := 3) 1 (fun H => cellAt H (⟨b11, 0, none⟩ : Addr) = some (.int .i64 x57)) rfl (by kernel_rfl) rfl rfl (fun H q58 => at_load Try.underlying3 rfl rfl q58) q58 ?_
      refine wo_take (m' := 7) 2 [false, true] rfl (by kernel_rfl) rfl (by kernel_rfl) ?_
      refine wl_st (v := .slice x55.a x55.n x55.c) h rfl so (fun q1 q2 => ef_store (sz := sz22) rfl rfl rfl q1 q2) ?_; intro w59 h so
      refine wl_nil ?_
      obtain ⟨q60, h⟩ := h
      refine wk_tq ⟨q60, trivial⟩ ?_
      refine wo_take (m' := 15) 3 [true] rfl (by kernel_rfl) rfl (by kernel_rfl) ?_
      refine wl_st (v := .int .i64 x57) h rfl so (fun q1 q2 => ef_store (sz := sz3) rfl rfl rfl q1 q2) ?_; intro w61 h so
      refine wl_nil ?_
      refine wk_tq trivial ?_
      refine wo_take (m' := 31) 4 [] rfl (by kernel_rfl) rfl (by kernel_rfl) ?_
      refine wl_st (v := .int .i64 0) h rfl so (fun q1 q2 => ef_store (sz := sz32) rfl rfl rfl q1 q2) ?_; intro w62 h so
      refine wl_nil ?_
      refine wk_tq trivial ?_
      refine wo_done (by kernel_rfl) ?_
      refine wk_prune [(6, .pointer (some (⟨b3, 0, none⟩ : Addr))), (7, .pointer (some (⟨b5, 0, none⟩ : Addr))), (8, .pointer (some (⟨b7, 0, none⟩ : Addr)))] ⟨rfl, rfl, rfl, trivial⟩ (fun f1 => ?_)
      refine wk_then ?_
      refine wc_ret ?_
      refine wk_tk h so ?_; intro w63 h so
      obtain ⟨x65, q64, h⟩ := h
      obtain ⟨x67, q66, h⟩ := h
      obtain ⟨x69, q68, h⟩ := h
      exact wk_retR3 (x := (x65, x67, x69)) rfl ⟨by decide, _, rfl, loadVar_one Try.underlying22 rfl q64⟩ ⟨by decide, _, rfl, loadVar_one Try.underlying3 rfl q66⟩ ⟨by decide, _, rfl, loadVar_one Try.underlying32 rfl q68⟩ rfl so h
    · refine rp_jump h so ?_; intro w70 h so; refine wc_ret ?_
      refine wk_blkR ?_
      refine wk_thenR ?_
      refine wk_tk h so ?_; intro w71 h so
      obtain ⟨x73, q72, h⟩ := h
      obtain ⟨x75, q74, h⟩ := h
      obtain ⟨x77, q76, h⟩ := h
      exact wk_retR3 (x := (x73, x75, x77)) rfl ⟨by decide, _, rfl, loadVar_one Try.underlying22 rfl q72⟩ ⟨by decide, _, rfl, loadVar_one Try.underlying3 rfl q74⟩ ⟨by decide, _, rfl, loadVar_one Try.underlying32 rfl q76⟩ rfl so h
end Go.Proofs.Ytdcjjoihlnjpnaa.G
