/- Of this text what the row needs. -/
import Derived.Test.YtkplpbnifinlbaaDoorQMarkerBetweenKshelf
import Derived.Test.YtkplpbnifinlbaaDoorQMarkerBetweenKbits
namespace Go.Proofs.YtkplpbnifinlbaaDoor.G
open Go.RowKit
set_option linter.unusedVariables false
set_option linter.unusedSimpArgs false
def strconv_small.enc : ByteArray → Value := fun r => .string r
def strconv_small.s (a0 : Int) (H0 : Hp) (Q : ByteArray → Hp → Prop) : Prop :=
  if decide (a0 < 10) = true then (0 ≤ a0 ∧ a0 ≤ (IntKind.wrap .i64 (a0 + 1)) ∧ (IntKind.wrap .i64 (a0 + 1)) ≤ (strbbb1b764.size : Int) ∧ (Lt ((strbbb1b764.extract (Int.toNat a0) (Int.toNat (IntKind.wrap .i64 (a0 + 1)))) : ByteArray) (fun x4 => Q x4 H0))) else (0 ≤ (IntKind.wrap .i64 (a0 * 2)) ∧ (IntKind.wrap .i64 (a0 * 2)) ≤ (IntKind.wrap .i64 ((IntKind.wrap .i64 (a0 * 2)) + 2)) ∧ (IntKind.wrap .i64 ((IntKind.wrap .i64 (a0 * 2)) + 2)) ≤ (str3c6f1267.size : Int) ∧ (Lt ((str3c6f1267.extract (Int.toNat (IntKind.wrap .i64 (a0 * 2))) (Int.toNat (IntKind.wrap .i64 ((IntKind.wrap .i64 (a0 * 2)) + 2)))) : ByteArray) (fun x9 => Q x9 H0)))
set_option maxRecDepth 20000 in
set_option maxHeartbeats 4000000 in
theorem strconv_small.calls (a0 : Int) (w0 : World) (Q : ByteArray → Hp → Prop) (h : strconv_small.s a0 w0.heap Q) :
    Ca Tryd.prog 54 #[.int .i64 a0] w0 (Rt strconv_small.enc Q w0) := by
  refine ca_start (c := _) Tryd.func54 rfl Tryd.ntmps54 rfl ?_
  have so : Sm w0 w0 := Sm.refl w0
  unfold strconv_small.s at h
  refine wc_prune [(0, .int .i64 a0)] ⟨rfl, trivial⟩ (fun f1 => ?_)
  refine wc_seq ?_
  refine wc_region ?_
  refine wl_val (at_assign rfl) rfl ?_
  refine wl_nil ?_
  refine wk_prune [(0, .int .i64 a0)] ⟨rfl, trivial⟩ (fun f1 => ?_)
  refine wk_then ?_
  refine wc_seq ?_
  refine wc_seq ?_
  refine wc_region ?_
  refine wl_val (at_move rfl) rfl ?_
  refine wl_val (at_lss rfl rfl) rfl ?_
  refine wl_nil ?_
  refine wk_prune [(0, .int .i64 a0), (4, .bool (decide (a0 < 10)))] ⟨rfl, rfl, trivial⟩ (fun f1 => ?_)
  refine wk_then ?_
  refine wc_cond rfl h (fun h => ?_) (fun h => ?_)
  · refine wc_seq ?_
    refine wc_region ?_
    refine wl_val (at_move rfl) rfl ?_
    refine wl_val (at_move rfl) rfl ?_
    refine wl_val (at_add rfl rfl) rfl ?_
    obtain ⟨q1, q2, q3, h⟩ := h
    refine wl_val (at_subS Tryd.underlying9 rfl rfl rfl q1 q2 q3) rfl ?_
    refine wl_val (at_assign rfl) rfl ?_
    obtain ⟨x4, e5⟩ : ∃ x : ByteArray, x = (strbbb1b764.extract (Int.toNat a0) (Int.toNat (IntKind.wrap .i64 (a0 + 1)))) := ⟨_, rfl⟩; replace h := h x4 e5
    refine wl_set (t := 2) (v := .string x4) (congrArg Value.string e5.symm) ?_
    refine wl_nil ?_
    refine wk_prune [(2, .string x4)] ⟨rfl, trivial⟩ (fun f1 => ?_)
    refine wk_then ?_
    refine wc_ret ?_
    refine wk_thenR ?_
    exact wk_ret1 (x := x4) rfl (by decide) rfl so h
  · refine wc_skip ?_
    refine wk_prune [(0, .int .i64 a0)] ⟨rfl, trivial⟩ (fun f1 => ?_)
    refine wk_then ?_
    refine wc_seq ?_
    refine wc_region ?_
    refine wl_val (at_move rfl) rfl ?_
    refine wl_val (at_mul rfl rfl) rfl ?_
    refine wl_val (at_move rfl) rfl ?_
    refine wl_val (at_mul rfl rfl) rfl ?_
    refine wl_val (at_add rfl rfl) rfl ?_
    obtain ⟨q6, q7, q8, h⟩ := h
    refine wl_val (at_subS Tryd.underlying9 rfl rfl rfl q6 q7 q8) rfl ?_
    refine wl_val (at_assign rfl) rfl ?_
    obtain ⟨x9, e10⟩ : ∃ x : ByteArray, x = (str3c6f1267.extract (Int.toNat (IntKind.wrap .i64 (a0 * 2))) (Int.toNat (IntKind.wrap .i64 ((IntKind.wrap .i64 (a0 * 2)) + 2)))) := ⟨_, rfl⟩; replace h := h x9 e10
    refine wl_set (t := 2) (v := .string x9) (congrArg Value.string e10.symm) ?_
    refine wl_nil ?_
    refine wk_prune [(2, .string x9)] ⟨rfl, trivial⟩ (fun f1 => ?_)
    refine wk_then ?_
    refine wc_ret ?_
    exact wk_ret1 (x := x9) rfl (by decide) rfl so h
def strconv_log10Pow2.enc : Int → Value := fun r => .int .i64 r
def strconv_bool2_int.enc : Int → Value := fun r => .int .i64 r
def strconv_formatBase10.enc : Unit → Value := fun _ => .tuple #[]
def strconv_isPowerOfTwo.enc : Bool → Value := fun r => .bool r
def strconv_isPowerOfTwo.s (a0 : Int) (H0 : Hp) (Q : Bool → Hp → Prop) : Prop :=
  Q ((Go.bits .and .i64 a0 (IntKind.wrap .i64 (a0 - 1))) == 0) H0
set_option maxRecDepth 20000 in
set_option maxHeartbeats 4000000 in
theorem strconv_isPowerOfTwo.calls (a0 : Int) (w0 : World) (Q : Bool → Hp → Prop) (h : strconv_isPowerOfTwo.s a0 w0.heap Q) :
    Ca Tryd.prog 64 #[.int .i64 a0] w0 (Rt strconv_isPowerOfTwo.enc Q w0) := by
  refine ca_start (c := _) Tryd.func64 rfl Tryd.ntmps64 rfl ?_
  have so : Sm w0 w0 := Sm.refl w0
  unfold strconv_isPowerOfTwo.s at h
  refine wc_prune [(0, .int .i64 a0)] ⟨rfl, trivial⟩ (fun f1 => ?_)
  refine wc_seq ?_
  refine wc_region ?_
  refine wl_val (at_assign rfl) rfl ?_
  refine wl_nil ?_
  refine wk_prune [(0, .int .i64 a0)] ⟨rfl, trivial⟩ (fun f1 => ?_)
  refine wk_then ?_
  refine wc_seq ?_
  refine wc_region ?_
  refine wl_val (at_move rfl) rfl ?_
  refine wl_val (at_move rfl) rfl ?_
  refine wl_val (at_sub rfl rfl) rfl ?_
  refine wl_val (at_and rfl rfl) rfl ?_
  refine wl_val (at_eql rfl rfl) rfl ?_
  refine wl_val (at_assign rfl) rfl ?_
  refine wl_nil ?_
  refine wk_prune [(2, .bool ((Go.bits .and .i64 a0 (IntKind.wrap .i64 (a0 - 1))) == 0))] ⟨rfl, trivial⟩ (fun f1 => ?_)
  refine wk_then ?_
  refine wc_ret ?_
  exact wk_ret1 (x := ((Go.bits .and .i64 a0 (IntKind.wrap .i64 (a0 - 1))) == 0)) rfl (by decide) rfl so h
def strconv_formatBits.enc : Sl × ByteArray → Value := fun r => .tuple #[.slice r.1.a r.1.n r.1.c, .string r.2]
def strconv_formatBits.s (a0 : Sl) (a1 : Int) (a2 : Int) (a3 : Bool) (a4 : Bool) (H0 : Hp) (Q : (Sl × ByteArray) → Hp → Prop) : Prop :=
  Join (fun (s2 : Unit) (H3 : Hp) => Gn [] H3 (fun (b4 : Nat) (H5 : Hp) => Join (fun (s7 : Int) (H8 : Hp) => Bk H8 b4 92 (c92 (zInts 65)) → (Join (fun (s10 : Int) (H11 : Hp) => Join (fun (s13 : Int) (H14 : Hp) => if a4 = true then (False) else (False)) (fun (J12 : Int → Hp → Prop) => if a3 = true then (0 ≤ (IntKind.wrap .i64 (s10 - 1)) ∧ (IntKind.wrap .i64 (s10 - 1)) < (65 : Int) ∧ (st H11 ((⟨b4, 0, none⟩ : Addr).add (Int.toNat (IntKind.wrap .i64 (s10 - 1)) * 1)) (.int .u8 45) (fun H17 => J12 ((IntKind.wrap .i64 (s10 - 1))) H17))) else (J12 (s10) H11))) (fun (J9 : Int → Hp → Prop) => strconv_isPowerOfTwo.s a2 H8 (fun x18 H19 => if x18 = true then (bits_TrailingZeros.s (IntKind.wrap .u64 a2) H19 (fun x20 H21 => Lt ((IntKind.wrap .u64 ((IntKind.wrap .u64 a2) - 1)) : Int) (fun x22 => ∃ k24, Fix (fun (rec29 : (Int × Int) → Hp → Prop) (s26 : Int × Int) (H27 : Hp) => if decide ((IntKind.wrap .u64 a2) ≤ s26.1) = true then (0 ≤ (Go.bits .and .u64 s26.1 x22) ∧ (Go.bits .and .u64 s26.1 x22) < (strbbb1b764.size : Int) ∧ (0 ≤ (IntKind.wrap .i64 (s26.2 - 1)) ∧ (IntKind.wrap .i64 (s26.2 - 1)) < (65 : Int) ∧ (st H27 ((⟨b4, 0, none⟩ : Addr).add (Int.toNat (IntKind.wrap .i64 (s26.2 - 1)) * 1)) (.int .u8 (bt strbbb1b764 (Go.bits .and .u64 s26.1 x22))) (fun H34 => 0 ≤ (IntKind.wrap .u64 x20) ∧ (rec29 ((shrI .u64 s26.1 (IntKind.wrap .u64 x20)), (IntKind.wrap .i64 (s26.2 - 1))) H34))))) else (0 ≤ s26.1 ∧ s26.1 < (strbbb1b764.size : Int) ∧ (0 ≤ (IntKind.wrap .i64 (s26.2 - 1)) ∧ (IntKind.wrap .i64 (s26.2 - 1)) < (65 : Int) ∧ (st H27 ((⟨b4, 0, none⟩ : Addr).add (Int.toNat (IntKind.wrap .i64 (s26.2 - 1)) * 1)) (.int .u8 (bt strbbb1b764 s26.1)) (fun H40 => J9 ((IntKind.wrap .i64 (s26.2 - 1))) H40))))) k24 (s7, 65) H21))) else (∃ k41, Fix (fun (rec46 : (Int × Int) → Hp → Prop) (s43 : Int × Int) (H44 : Hp) => if decide ((IntKind.wrap .u64 a2) ≤ s43.1) = true then ((IntKind.wrap .u64 a2) ≠ 0 ∧ (Lt ((IntKind.wrap .u64 (Int.tdiv s43.1 (IntKind.wrap .u64 a2))) : Int) (fun x48 => 0 ≤ (IntKind.wrap .u64 (s43.1 - (IntKind.wrap .u64 (x48 * (IntKind.wrap .u64 a2))))) ∧ (IntKind.wrap .u64 (s43.1 - (IntKind.wrap .u64 (x48 * (IntKind.wrap .u64 a2))))) < (strbbb1b764.size : Int) ∧ (0 ≤ (IntKind.wrap .i64 (s43.2 - 1)) ∧ (IntKind.wrap .i64 (s43.2 - 1)) < (65 : Int) ∧ (st H44 ((⟨b4, 0, none⟩ : Addr).add (Int.toNat (IntKind.wrap .i64 (s43.2 - 1)) * 1)) (.int .u8 (bt strbbb1b764 (IntKind.wrap .u64 (s43.1 - (IntKind.wrap .u64 (x48 * (IntKind.wrap .u64 a2))))))) (fun H54 => rec46 (x48, (IntKind.wrap .i64 (s43.2 - 1))) H54)))))) else (0 ≤ s43.1 ∧ s43.1 < (strbbb1b764.size : Int) ∧ (0 ≤ (IntKind.wrap .i64 (s43.2 - 1)) ∧ (IntKind.wrap .i64 (s43.2 - 1)) < (65 : Int) ∧ (st H44 ((⟨b4, 0, none⟩ : Addr).add (Int.toNat (IntKind.wrap .i64 (s43.2 - 1)) * 1)) (.int .u8 (bt strbbb1b764 s43.1)) (fun H59 => J9 ((IntKind.wrap .i64 (s43.2 - 1))) H59))))) k41 (s7, 65) H19))))) (fun (J6 : Int → Hp → Prop) => if a3 = true then (J6 ((IntKind.wrap .u64 (0 - a1))) H5) else (J6 (a1) H5)))) (fun (J1 : Unit → Hp → Prop) => Join (fun (s61 : Bool) (H62 : Hp) => if s61 = true then (False) else (J1 () H62)) (fun (J60 : Bool → Hp → Prop) => if decide (a2 < 2) = true then (J60 (true) H0) else (if (a2 == 10) = true then (J60 (true) H0) else (J60 ((decide ((36 : Int) < a2))) H0))))
set_option maxRecDepth 20000 in
set_option maxHeartbeats 4000000 in
theorem strconv_formatBits.calls (a0 : Sl) (a1 : Int) (a2 : Int) (a3 : Bool) (a4 : Bool) (w0 : World) (Q : (Sl × ByteArray) → Hp → Prop) (h : strconv_formatBits.s a0 a1 a2 a3 a4 w0.heap Q) :
    Ca Tryd.prog 57 #[.slice a0.a a0.n a0.c, .int .u64 a1, .int .i64 a2, .bool a3, .bool a4] w0 (Rt strconv_formatBits.enc Q w0) := by
  refine ca_start (c := _) Tryd.func57 rfl Tryd.ntmps57 rfl ?_
  have so : Sm w0 w0 := Sm.refl w0
  unfold strconv_formatBits.s at h
  refine wc_prune [(0, .slice a0.a a0.n a0.c), (1, .int .u64 a1), (2, .int .i64 a2), (3, .bool a3), (4, .bool a4)] ⟨rfl, rfl, rfl, rfl, rfl, trivial⟩ (fun f1 => ?_)
  refine wc_seq ?_
  refine wc_region ?_
  refine wl_val (at_assign rfl) rfl ?_
  refine wl_val (at_assign rfl) rfl ?_
  refine wl_nil ?_
  refine wk_prune [(0, .slice a0.a a0.n a0.c), (1, .int .u64 a1), (2, .int .i64 a2), (3, .bool a3), (4, .bool a4), (10, .slice none 0 0), (11, .string (⟨#[]⟩ : ByteArray))] ⟨rfl, rfl, rfl, rfl, rfl, rfl, rfl, trivial⟩ (fun f1 => ?_)
  refine wk_then ?_
  refine wc_seq ?_
  refine wc_join (w0 := w0) (fun (s2 : Unit) => [(0, .slice a0.a a0.n a0.c), (1, .int .u64 a1), (2, .int .i64 a2), (3, .bool a3), (4, .bool a4), (10, .slice none 0 0), (11, .string (⟨#[]⟩ : ByteArray))]) h ?_ ?_
  · rintro s2 w3 f1 h so; refine wk_then ?_
    refine wc_seq ?_
    refine wc_region ?_
    refine wl_newT (T := 92) (cs := (c92 (zInts 65))) (ef_alloc zero92 rfl) rfl so ?_; intro b4 w5 hb_b4 t_b4 k_b4 so
    have g_b4 := Nat.le_of_eq hb_b4.symm
    have hc := k_b4.ch (F := [])
    refine wl_nil ?_
    refine wk_prune [(0, .slice a0.a a0.n a0.c), (1, .int .u64 a1), (2, .int .i64 a2), (3, .bool a3), (4, .bool a4), (10, .slice none 0 0), (11, .string (⟨#[]⟩ : ByteArray)), (12, .pointer (some (⟨b4, 0, none⟩ : Addr)))] ⟨rfl, rfl, rfl, rfl, rfl, rfl, rfl, rfl, trivial⟩ (fun f1 => ?_)
    refine wk_then ?_
    refine wc_seq ?_
    refine wc_region ?_
    refine wl_val (at_assign rfl) rfl ?_
    refine wl_nil ?_
    refine wk_prune [(0, .slice a0.a a0.n a0.c), (1, .int .u64 a1), (2, .int .i64 a2), (3, .bool a3), (4, .bool a4), (10, .slice none 0 0), (11, .string (⟨#[]⟩ : ByteArray)), (12, .pointer (some (⟨b4, 0, none⟩ : Addr))), (13, .int .i64 65)] ⟨rfl, rfl, rfl, rfl, rfl, rfl, rfl, rfl, rfl, trivial⟩ (fun f1 => ?_)
    refine wk_then ?_
    replace h := h b4 _ hc g_b4 t_b4.lt; clear hc
    refine wc_seq ?_
    refine wc_joinG (w0 := w0) (fun (H : Hp) => Bk H b4 92 (c92 (zInts 65)) ∧ True) (fun (s7 : Int) => [(0, .slice a0.a a0.n a0.c), (1, .int .u64 s7), (2, .int .i64 a2), (3, .bool a3), (4, .bool a4), (10, .slice none 0 0), (11, .string (⟨#[]⟩ : ByteArray)), (12, .pointer (some (⟨b4, 0, none⟩ : Addr))), (13, .int .i64 65)]) (fun (s7 : Int) => []) h ?_ ?_
    · rintro s7 w8 f1 h ⟨t_b4, _⟩ so; refine wk_then ?_
      replace h := h t_b4
      refine wc_seq ?_
      refine wc_join (w0 := w0) (fun (s10 : Int) => [(0, .slice a0.a a0.n a0.c), (3, .bool a3), (4, .bool a4), (10, .slice none 0 0), (11, .string (⟨#[]⟩ : ByteArray)), (12, .pointer (some (⟨b4, 0, none⟩ : Addr))), (13, .int .i64 s10)]) h ?_ ?_
      · rintro s10 w11 f1 h so; refine wk_then ?_
        refine wc_seq ?_
        refine wc_join (w0 := w0) (fun (s13 : Int) => [(0, .slice a0.a a0.n a0.c), (4, .bool a4), (10, .slice none 0 0), (11, .string (⟨#[]⟩ : ByteArray)), (12, .pointer (some (⟨b4, 0, none⟩ : Addr))), (13, .int .i64 s13)]) h ?_ ?_
        · rintro s13 w14 f1 h so; refine wk_then ?_
          refine wc_seq ?_
          refine wc_seq ?_
          refine wc_region ?_
          refine wl_val (at_move rfl) rfl ?_
          refine wl_nil ?_
          refine wk_prune [(0, .slice a0.a a0.n a0.c), (10, .slice none 0 0), (11, .string (⟨#[]⟩ : ByteArray)), (12, .pointer (some (⟨b4, 0, none⟩ : Addr))), (13, .int .i64 s13), (94, .bool a4)] ⟨rfl, rfl, rfl, rfl, rfl, rfl, trivial⟩ (fun f1 => ?_)
          refine wk_then ?_
          refine wc_cond rfl h (fun h => ?_) (fun h => ?_)
          · exact h.elim
          · exact h.elim
        · intro J12 h hJ12
          refine wc_seq ?_
          refine wc_region ?_
          refine wl_val (at_move rfl) rfl ?_
          refine wl_nil ?_
          refine wk_prune [(0, .slice a0.a a0.n a0.c), (4, .bool a4), (10, .slice none 0 0), (11, .string (⟨#[]⟩ : ByteArray)), (12, .pointer (some (⟨b4, 0, none⟩ : Addr))), (13, .int .i64 s10), (89, .bool a3)] ⟨rfl, rfl, rfl, rfl, rfl, rfl, rfl, trivial⟩ (fun f1 => ?_)
          refine wk_then ?_
          refine wc_cond rfl h (fun h => ?_) (fun h => ?_)
          · refine wc_seq ?_
            refine wc_region ?_
            refine wl_val (at_move rfl) rfl ?_
            refine wl_val (at_sub rfl rfl) rfl ?_
            refine wl_val (at_assign rfl) rfl ?_
            refine wl_nil ?_
            refine wk_prune [(0, .slice a0.a a0.n a0.c), (4, .bool a4), (10, .slice none 0 0), (11, .string (⟨#[]⟩ : ByteArray)), (12, .pointer (some (⟨b4, 0, none⟩ : Addr))), (13, .int .i64 (IntKind.wrap .i64 (s10 - 1)))] ⟨rfl, rfl, rfl, rfl, rfl, rfl, trivial⟩ (fun f1 => ?_)
            refine wk_then ?_
            refine wc_region ?_
            refine wl_val (at_move rfl) rfl ?_
            obtain ⟨q15, q16, h⟩ := h
            refine wl_val (at_ixAddrA Tryd.underlying92 sz5 rfl rfl q15 q16) rfl ?_
            refine wl_st (v := .int .u8 45) h rfl so (fun q1 q2 => ef_store (sz := sz5) rfl rfl rfl q1 q2) ?_; intro w17 h so
            refine wl_nil ?_
            exact wk_prune [(0, .slice a0.a a0.n a0.c), (4, .bool a4), (10, .slice none 0 0), (11, .string (⟨#[]⟩ : ByteArray)), (12, .pointer (some (⟨b4, 0, none⟩ : Addr))), (13, .int .i64 (IntKind.wrap .i64 (s10 - 1)))] ⟨rfl, rfl, rfl, rfl, rfl, rfl, trivial⟩ (fun f1 => hJ12 ((IntKind.wrap .i64 (s10 - 1))) _ f1 h so)
          · refine wc_skip ?_
            exact wk_prune [(0, .slice a0.a a0.n a0.c), (4, .bool a4), (10, .slice none 0 0), (11, .string (⟨#[]⟩ : ByteArray)), (12, .pointer (some (⟨b4, 0, none⟩ : Addr))), (13, .int .i64 s10)] ⟨rfl, rfl, rfl, rfl, rfl, rfl, trivial⟩ (fun f1 => hJ12 (s10) _ f1 h so)
      · intro J9 h hJ9
        refine wc_seq ?_
        refine wc_region ?_
        refine wl_val (at_move rfl) rfl ?_
        refine wl_callF (strconv_isPowerOfTwo.calls _ _ _ h) enter64 rfl trivial so ?_; intro x18 w19 h so
        refine wl_nil ?_
        refine wk_prune [(0, .slice a0.a a0.n a0.c), (1, .int .u64 s7), (2, .int .i64 a2), (3, .bool a3), (4, .bool a4), (10, .slice none 0 0), (11, .string (⟨#[]⟩ : ByteArray)), (12, .pointer (some (⟨b4, 0, none⟩ : Addr))), (13, .int .i64 65), (34, .bool x18)] ⟨rfl, rfl, rfl, rfl, rfl, rfl, rfl, rfl, rfl, rfl, trivial⟩ (fun f1 => ?_)
        refine wk_then ?_
        refine wc_cond rfl h (fun h => ?_) (fun h => ?_)
        · refine wc_seq ?_
          refine wc_region ?_
          refine wl_val (at_move rfl) rfl ?_
          refine wl_val (at_conv Tryd.underlying3 Tryd.underlying49 rfl) rfl ?_
          refine wl_callF (bits_TrailingZeros.calls _ _ _ h) enter65 rfl trivial so ?_; intro x20 w21 h so
          refine wl_val (at_conv Tryd.underlying3 Tryd.underlying49 rfl) rfl ?_
          refine wl_val (at_assign rfl) rfl ?_
          refine wl_nil ?_
          refine wk_prune [(0, .slice a0.a a0.n a0.c), (1, .int .u64 s7), (2, .int .i64 a2), (3, .bool a3), (4, .bool a4), (10, .slice none 0 0), (11, .string (⟨#[]⟩ : ByteArray)), (12, .pointer (some (⟨b4, 0, none⟩ : Addr))), (13, .int .i64 65), (14, .int .u64 (IntKind.wrap .u64 x20))] ⟨rfl, rfl, rfl, rfl, rfl, rfl, rfl, rfl, rfl, rfl, trivial⟩ (fun f1 => ?_)
          refine wk_then ?_
          refine wc_seq ?_
          refine wc_region ?_
          refine wl_val (at_move rfl) rfl ?_
          refine wl_val (at_conv Tryd.underlying3 Tryd.underlying75 rfl) rfl ?_
          refine wl_val (at_assign rfl) rfl ?_
          refine wl_nil ?_
          refine wk_prune [(0, .slice a0.a a0.n a0.c), (1, .int .u64 s7), (2, .int .i64 a2), (3, .bool a3), (4, .bool a4), (10, .slice none 0 0), (11, .string (⟨#[]⟩ : ByteArray)), (12, .pointer (some (⟨b4, 0, none⟩ : Addr))), (13, .int .i64 65), (14, .int .u64 (IntKind.wrap .u64 x20)), (15, .int .u64 (IntKind.wrap .u64 a2))] ⟨rfl, rfl, rfl, rfl, rfl, rfl, rfl, rfl, rfl, rfl, rfl, trivial⟩ (fun f1 => ?_)
          refine wk_then ?_
          refine wc_seq ?_
          refine wc_region ?_
          refine wl_val (at_move rfl) rfl ?_
          refine wl_val (at_conv Tryd.underlying3 Tryd.underlying49 rfl) rfl ?_
          refine wl_val (at_sub rfl rfl) rfl ?_
          refine wl_val (at_assign rfl) rfl ?_
          obtain ⟨x22, e23⟩ : ∃ x : Int, x = (IntKind.wrap .u64 ((IntKind.wrap .u64 a2) - 1)) := ⟨_, rfl⟩; replace h := h x22 e23
          refine wl_set (t := 16) (v := .int .u64 x22) (congrArg (Value.int .u64) e23.symm) ?_
          refine wl_nil ?_
          refine wk_prune [(0, .slice a0.a a0.n a0.c), (1, .int .u64 s7), (3, .bool a3), (4, .bool a4), (10, .slice none 0 0), (11, .string (⟨#[]⟩ : ByteArray)), (12, .pointer (some (⟨b4, 0, none⟩ : Addr))), (13, .int .i64 65), (14, .int .u64 (IntKind.wrap .u64 x20)), (15, .int .u64 (IntKind.wrap .u64 a2)), (16, .int .u64 x22)] ⟨rfl, rfl, rfl, rfl, rfl, rfl, rfl, rfl, rfl, rfl, rfl, trivial⟩ (fun f1 => ?_)
          refine wk_then ?_
          refine wc_seq ?_
          refine wc_block ?_
          obtain ⟨k24, h⟩ := h
          refine wc_loop (fun k a w => ∃ (s26 : Int × Int) (f1 : Nat → Value), a = ac 102 (en f1 [(0, .slice a0.a a0.n a0.c), (1, .int .u64 s26.1), (3, .bool a3), (4, .bool a4), (10, .slice none 0 0), (11, .string (⟨#[]⟩ : ByteArray)), (12, .pointer (some (⟨b4, 0, none⟩ : Addr))), (13, .int .i64 s26.2), (14, .int .u64 (IntKind.wrap .u64 x20)), (15, .int .u64 (IntKind.wrap .u64 a2)), (16, .int .u64 x22)]) [] ∧ Sm w0 w ∧ Fix _ k s26 w.heap) k24 ⟨(s7, 65), _, ac_again ⟨rfl, rfl, rfl, rfl, rfl, rfl, rfl, rfl, rfl, rfl, rfl, trivial⟩, so, h⟩ ?_
          rintro k25 a28 w27 ⟨s26, f1, rfl, so, h⟩
          rcases k25 with _ | k25
          · exact h.elim
          replace h := Fix.un h; refine wc_in ?_
          refine wc_seq ?_
          refine wc_seq ?_
          refine wc_region ?_
          refine wl_val (at_move rfl) rfl ?_
          refine wl_val (at_move rfl) rfl ?_
          refine wl_val (at_geq rfl rfl) rfl ?_
          refine wl_nil ?_
          refine wk_prune [(0, .slice a0.a a0.n a0.c), (1, .int .u64 s26.1), (3, .bool a3), (4, .bool a4), (10, .slice none 0 0), (11, .string (⟨#[]⟩ : ByteArray)), (12, .pointer (some (⟨b4, 0, none⟩ : Addr))), (13, .int .i64 s26.2), (14, .int .u64 (IntKind.wrap .u64 x20)), (15, .int .u64 (IntKind.wrap .u64 a2)), (16, .int .u64 x22), (46, .bool (decide ((IntKind.wrap .u64 a2) ≤ s26.1)))] ⟨rfl, rfl, rfl, rfl, rfl, rfl, rfl, rfl, rfl, rfl, rfl, rfl, trivial⟩ (fun f1 => ?_)
          refine wk_then ?_
          refine wc_cond rfl h (fun h => ?_) (fun h => ?_)
          · refine wc_skip ?_
            refine wk_prune [(0, .slice a0.a a0.n a0.c), (1, .int .u64 s26.1), (3, .bool a3), (4, .bool a4), (10, .slice none 0 0), (11, .string (⟨#[]⟩ : ByteArray)), (12, .pointer (some (⟨b4, 0, none⟩ : Addr))), (13, .int .i64 s26.2), (14, .int .u64 (IntKind.wrap .u64 x20)), (15, .int .u64 (IntKind.wrap .u64 a2)), (16, .int .u64 x22)] ⟨rfl, rfl, rfl, rfl, rfl, rfl, rfl, rfl, rfl, rfl, rfl, trivial⟩ (fun f1 => ?_)
            refine wk_then ?_
            refine wc_block ?_
            refine wc_seq ?_
            refine wc_region ?_
            refine wl_val (at_move rfl) rfl ?_
            refine wl_val (at_sub rfl rfl) rfl ?_
            refine wl_val (at_assign rfl) rfl ?_
            refine wl_nil ?_
            refine wk_prune [(0, .slice a0.a a0.n a0.c), (1, .int .u64 s26.1), (3, .bool a3), (4, .bool a4), (10, .slice none 0 0), (11, .string (⟨#[]⟩ : ByteArray)), (12, .pointer (some (⟨b4, 0, none⟩ : Addr))), (13, .int .i64 (IntKind.wrap .i64 (s26.2 - 1))), (14, .int .u64 (IntKind.wrap .u64 x20)), (15, .int .u64 (IntKind.wrap .u64 a2)), (16, .int .u64 x22)] ⟨rfl, rfl, rfl, rfl, rfl, rfl, rfl, rfl, rfl, rfl, rfl, trivial⟩ (fun f1 => ?_)
            refine wk_then ?_
            refine wc_seq ?_
            refine wc_region ?_
            refine wl_val (at_move rfl) rfl ?_
            refine wl_val (at_move rfl) rfl ?_
            refine wl_val (at_move rfl) rfl ?_
            refine wl_val (at_and rfl rfl) rfl ?_
            obtain ⟨q30, q31, h⟩ := h
            refine wl_val (at_ixS Tryd.underlying9 rfl rfl q30 q31) rfl ?_
            obtain ⟨q32, q33, h⟩ := h
            refine wl_val (at_ixAddrA Tryd.underlying92 sz5 rfl rfl q32 q33) rfl ?_
            refine wl_st (v := .int .u8 (bt strbbb1b764 (Go.bits .and .u64 s26.1 x22))) h rfl so (fun q1 q2 => ef_store (sz := sz5) rfl rfl rfl q1 q2) ?_; intro w34 h so
            refine wl_nil ?_
            refine wk_prune [(0, .slice a0.a a0.n a0.c), (1, .int .u64 s26.1), (3, .bool a3), (4, .bool a4), (10, .slice none 0 0), (11, .string (⟨#[]⟩ : ByteArray)), (12, .pointer (some (⟨b4, 0, none⟩ : Addr))), (13, .int .i64 (IntKind.wrap .i64 (s26.2 - 1))), (14, .int .u64 (IntKind.wrap .u64 x20)), (15, .int .u64 (IntKind.wrap .u64 a2)), (16, .int .u64 x22)] ⟨rfl, rfl, rfl, rfl, rfl, rfl, rfl, rfl, rfl, rfl, rfl, trivial⟩ (fun f1 => ?_)
            refine wk_then ?_
            refine wc_region ?_
            refine wl_val (at_move rfl) rfl ?_
            refine wl_val (at_move rfl) rfl ?_
            obtain ⟨q35, h⟩ := h
            refine wl_val (at_shr rfl rfl q35) rfl ?_
            refine wl_val (at_assign rfl) rfl ?_
            refine wl_nil ?_
            refine wk_blkN ?_
            exact wk_again ⟨((shrI .u64 s26.1 (IntKind.wrap .u64 x20)), (IntKind.wrap .i64 (s26.2 - 1))), _, ac_again ⟨rfl, rfl, rfl, rfl, rfl, rfl, rfl, rfl, rfl, rfl, rfl, trivial⟩, so, h⟩
          · refine wc_exit ?_
            refine wk_thenE ?_
            refine wk_thenE ?_
            refine wk_blkE ?_
            refine wk_prune [(0, .slice a0.a a0.n a0.c), (1, .int .u64 s26.1), (3, .bool a3), (4, .bool a4), (10, .slice none 0 0), (11, .string (⟨#[]⟩ : ByteArray)), (12, .pointer (some (⟨b4, 0, none⟩ : Addr))), (13, .int .i64 s26.2)] ⟨rfl, rfl, rfl, rfl, rfl, rfl, rfl, rfl, trivial⟩ (fun f1 => ?_)
            refine wk_then ?_
            refine wc_seq ?_
            refine wc_region ?_
            refine wl_val (at_move rfl) rfl ?_
            refine wl_val (at_sub rfl rfl) rfl ?_
            refine wl_val (at_assign rfl) rfl ?_
            refine wl_nil ?_
            refine wk_prune [(0, .slice a0.a a0.n a0.c), (1, .int .u64 s26.1), (3, .bool a3), (4, .bool a4), (10, .slice none 0 0), (11, .string (⟨#[]⟩ : ByteArray)), (12, .pointer (some (⟨b4, 0, none⟩ : Addr))), (13, .int .i64 (IntKind.wrap .i64 (s26.2 - 1)))] ⟨rfl, rfl, rfl, rfl, rfl, rfl, rfl, rfl, trivial⟩ (fun f1 => ?_)
            refine wk_then ?_
            refine wc_region ?_
            refine wl_val (at_move rfl) rfl ?_
            refine wl_val (at_move rfl) rfl ?_
            obtain ⟨q36, q37, h⟩ := h
            refine wl_val (at_ixS Tryd.underlying9 rfl rfl q36 q37) rfl ?_
            obtain ⟨q38, q39, h⟩ := h
            refine wl_val (at_ixAddrA Tryd.underlying92 sz5 rfl rfl q38 q39) rfl ?_
            refine wl_st (v := .int .u8 (bt strbbb1b764 s26.1)) h rfl so (fun q1 q2 => ef_store (sz := sz5) rfl rfl rfl q1 q2) ?_; intro w40 h so
            refine wl_nil ?_
            exact wk_prune [(0, .slice a0.a a0.n a0.c), (3, .bool a3), (4, .bool a4), (10, .slice none 0 0), (11, .string (⟨#[]⟩ : ByteArray)), (12, .pointer (some (⟨b4, 0, none⟩ : Addr))), (13, .int .i64 (IntKind.wrap .i64 (s26.2 - 1)))] ⟨rfl, rfl, rfl, rfl, rfl, rfl, rfl, trivial⟩ (fun f1 => hJ9 ((IntKind.wrap .i64 (s26.2 - 1))) _ f1 h so)
        · refine wc_seq ?_
          refine wc_region ?_
          refine wl_val (at_move rfl) rfl ?_
          refine wl_val (at_conv Tryd.underlying3 Tryd.underlying75 rfl) rfl ?_
          refine wl_val (at_assign rfl) rfl ?_
          refine wl_nil ?_
          refine wk_prune [(0, .slice a0.a a0.n a0.c), (1, .int .u64 s7), (3, .bool a3), (4, .bool a4), (10, .slice none 0 0), (11, .string (⟨#[]⟩ : ByteArray)), (12, .pointer (some (⟨b4, 0, none⟩ : Addr))), (13, .int .i64 65), (17, .int .u64 (IntKind.wrap .u64 a2))] ⟨rfl, rfl, rfl, rfl, rfl, rfl, rfl, rfl, rfl, trivial⟩ (fun f1 => ?_)
          refine wk_then ?_
          refine wc_seq ?_
          refine wc_block ?_
          obtain ⟨k41, h⟩ := h
          refine wc_loop (fun k a w => ∃ (s43 : Int × Int) (f1 : Nat → Value), a = ac 102 (en f1 [(0, .slice a0.a a0.n a0.c), (1, .int .u64 s43.1), (3, .bool a3), (4, .bool a4), (10, .slice none 0 0), (11, .string (⟨#[]⟩ : ByteArray)), (12, .pointer (some (⟨b4, 0, none⟩ : Addr))), (13, .int .i64 s43.2), (17, .int .u64 (IntKind.wrap .u64 a2))]) [] ∧ Sm w0 w ∧ Fix _ k s43 w.heap) k41 ⟨(s7, 65), _, ac_again ⟨rfl, rfl, rfl, rfl, rfl, rfl, rfl, rfl, rfl, trivial⟩, so, h⟩ ?_
          rintro k42 a45 w44 ⟨s43, f1, rfl, so, h⟩
          rcases k42 with _ | k42
          · exact h.elim
          replace h := Fix.un h; refine wc_in ?_
          refine wc_seq ?_
          refine wc_seq ?_
          refine wc_region ?_
          refine wl_val (at_move rfl) rfl ?_
          refine wl_val (at_move rfl) rfl ?_
          refine wl_val (at_geq rfl rfl) rfl ?_
          refine wl_nil ?_
          refine wk_prune [(0, .slice a0.a a0.n a0.c), (1, .int .u64 s43.1), (3, .bool a3), (4, .bool a4), (10, .slice none 0 0), (11, .string (⟨#[]⟩ : ByteArray)), (12, .pointer (some (⟨b4, 0, none⟩ : Addr))), (13, .int .i64 s43.2), (17, .int .u64 (IntKind.wrap .u64 a2)), (68, .bool (decide ((IntKind.wrap .u64 a2) ≤ s43.1)))] ⟨rfl, rfl, rfl, rfl, rfl, rfl, rfl, rfl, rfl, rfl, trivial⟩ (fun f1 => ?_)
          refine wk_then ?_
          refine wc_cond rfl h (fun h => ?_) (fun h => ?_)
          · refine wc_skip ?_
            refine wk_prune [(0, .slice a0.a a0.n a0.c), (1, .int .u64 s43.1), (3, .bool a3), (4, .bool a4), (10, .slice none 0 0), (11, .string (⟨#[]⟩ : ByteArray)), (12, .pointer (some (⟨b4, 0, none⟩ : Addr))), (13, .int .i64 s43.2), (17, .int .u64 (IntKind.wrap .u64 a2))] ⟨rfl, rfl, rfl, rfl, rfl, rfl, rfl, rfl, rfl, trivial⟩ (fun f1 => ?_)
            refine wk_then ?_
            refine wc_block ?_
            refine wc_seq ?_
            refine wc_region ?_
            refine wl_val (at_move rfl) rfl ?_
            refine wl_val (at_sub rfl rfl) rfl ?_
            refine wl_val (at_assign rfl) rfl ?_
            refine wl_nil ?_
            refine wk_prune [(0, .slice a0.a a0.n a0.c), (1, .int .u64 s43.1), (3, .bool a3), (4, .bool a4), (10, .slice none 0 0), (11, .string (⟨#[]⟩ : ByteArray)), (12, .pointer (some (⟨b4, 0, none⟩ : Addr))), (13, .int .i64 (IntKind.wrap .i64 (s43.2 - 1))), (17, .int .u64 (IntKind.wrap .u64 a2))] ⟨rfl, rfl, rfl, rfl, rfl, rfl, rfl, rfl, rfl, trivial⟩ (fun f1 => ?_)
            refine wk_then ?_
            refine wc_seq ?_
            refine wc_region ?_
            refine wl_val (at_move rfl) rfl ?_
            refine wl_val (at_move rfl) rfl ?_
            obtain ⟨q47, h⟩ := h
            refine wl_val (at_quo rfl rfl q47) rfl ?_
            refine wl_val (at_assign rfl) rfl ?_
            obtain ⟨x48, e49⟩ : ∃ x : Int, x = (IntKind.wrap .u64 (Int.tdiv s43.1 (IntKind.wrap .u64 a2))) := ⟨_, rfl⟩; replace h := h x48 e49
            refine wl_set (t := 18) (v := .int .u64 x48) (congrArg (Value.int .u64) e49.symm) ?_
            refine wl_nil ?_
            refine wk_prune [(0, .slice a0.a a0.n a0.c), (1, .int .u64 s43.1), (3, .bool a3), (4, .bool a4), (10, .slice none 0 0), (11, .string (⟨#[]⟩ : ByteArray)), (12, .pointer (some (⟨b4, 0, none⟩ : Addr))), (13, .int .i64 (IntKind.wrap .i64 (s43.2 - 1))), (17, .int .u64 (IntKind.wrap .u64 a2)), (18, .int .u64 x48)] ⟨rfl, rfl, rfl, rfl, rfl, rfl, rfl, rfl, rfl, rfl, trivial⟩ (fun f1 => ?_)
            refine wk_then ?_
            refine wc_seq ?_
            refine wc_region ?_
            refine wl_val (at_move rfl) rfl ?_
            refine wl_val (at_move rfl) rfl ?_
            refine wl_val (at_move rfl) rfl ?_
            refine wl_val (at_move rfl) rfl ?_
            refine wl_val (at_mul rfl rfl) rfl ?_
            refine wl_val (at_sub rfl rfl) rfl ?_
            obtain ⟨q50, q51, h⟩ := h
            refine wl_val (at_ixS Tryd.underlying9 rfl rfl q50 q51) rfl ?_
            obtain ⟨q52, q53, h⟩ := h
            refine wl_val (at_ixAddrA Tryd.underlying92 sz5 rfl rfl q52 q53) rfl ?_
            refine wl_st (v := .int .u8 (bt strbbb1b764 (IntKind.wrap .u64 (s43.1 - (IntKind.wrap .u64 (x48 * (IntKind.wrap .u64 a2))))))) h rfl so (fun q1 q2 => ef_store (sz := sz5) rfl rfl rfl q1 q2) ?_; intro w54 h so
            refine wl_nil ?_
            refine wk_prune [(0, .slice a0.a a0.n a0.c), (3, .bool a3), (4, .bool a4), (10, .slice none 0 0), (11, .string (⟨#[]⟩ : ByteArray)), (12, .pointer (some (⟨b4, 0, none⟩ : Addr))), (13, .int .i64 (IntKind.wrap .i64 (s43.2 - 1))), (17, .int .u64 (IntKind.wrap .u64 a2)), (18, .int .u64 x48)] ⟨rfl, rfl, rfl, rfl, rfl, rfl, rfl, rfl, rfl, trivial⟩ (fun f1 => ?_)
            refine wk_then ?_
            refine wc_region ?_
            refine wl_val (at_move rfl) rfl ?_
            refine wl_val (at_assign rfl) rfl ?_
            refine wl_nil ?_
            refine wk_blkN ?_
            exact wk_again ⟨(x48, (IntKind.wrap .i64 (s43.2 - 1))), _, ac_again ⟨rfl, rfl, rfl, rfl, rfl, rfl, rfl, rfl, rfl, trivial⟩, so, h⟩
          · refine wc_exit ?_
            refine wk_thenE ?_
            refine wk_thenE ?_
            refine wk_blkE ?_
            refine wk_prune [(0, .slice a0.a a0.n a0.c), (1, .int .u64 s43.1), (3, .bool a3), (4, .bool a4), (10, .slice none 0 0), (11, .string (⟨#[]⟩ : ByteArray)), (12, .pointer (some (⟨b4, 0, none⟩ : Addr))), (13, .int .i64 s43.2)] ⟨rfl, rfl, rfl, rfl, rfl, rfl, rfl, rfl, trivial⟩ (fun f1 => ?_)
            refine wk_then ?_
            refine wc_seq ?_
            refine wc_region ?_
            refine wl_val (at_move rfl) rfl ?_
            refine wl_val (at_sub rfl rfl) rfl ?_
            refine wl_val (at_assign rfl) rfl ?_
            refine wl_nil ?_
            refine wk_prune [(0, .slice a0.a a0.n a0.c), (1, .int .u64 s43.1), (3, .bool a3), (4, .bool a4), (10, .slice none 0 0), (11, .string (⟨#[]⟩ : ByteArray)), (12, .pointer (some (⟨b4, 0, none⟩ : Addr))), (13, .int .i64 (IntKind.wrap .i64 (s43.2 - 1)))] ⟨rfl, rfl, rfl, rfl, rfl, rfl, rfl, rfl, trivial⟩ (fun f1 => ?_)
            refine wk_then ?_
            refine wc_region ?_
            refine wl_val (at_move rfl) rfl ?_
            refine wl_val (at_move rfl) rfl ?_
            obtain ⟨q55, q56, h⟩ := h
            refine wl_val (at_ixS Tryd.underlying9 rfl rfl q55 q56) rfl ?_
            obtain ⟨q57, q58, h⟩ := h
            refine wl_val (at_ixAddrA Tryd.underlying92 sz5 rfl rfl q57 q58) rfl ?_
            refine wl_st (v := .int .u8 (bt strbbb1b764 s43.1)) h rfl so (fun q1 q2 => ef_store (sz := sz5) rfl rfl rfl q1 q2) ?_; intro w59 h so
            refine wl_nil ?_
            exact wk_prune [(0, .slice a0.a a0.n a0.c), (3, .bool a3), (4, .bool a4), (10, .slice none 0 0), (11, .string (⟨#[]⟩ : ByteArray)), (12, .pointer (some (⟨b4, 0, none⟩ : Addr))), (13, .int .i64 (IntKind.wrap .i64 (s43.2 - 1)))] ⟨rfl, rfl, rfl, rfl, rfl, rfl, rfl, trivial⟩ (fun f1 => hJ9 ((IntKind.wrap .i64 (s43.2 - 1))) _ f1 h so)
    · intro J6 h hJ6
      refine wc_seq ?_
      refine wc_region ?_
      refine wl_val (at_move rfl) rfl ?_
      refine wl_nil ?_
      refine wk_prune [(0, .slice a0.a a0.n a0.c), (1, .int .u64 a1), (2, .int .i64 a2), (3, .bool a3), (4, .bool a4), (10, .slice none 0 0), (11, .string (⟨#[]⟩ : ByteArray)), (12, .pointer (some (⟨b4, 0, none⟩ : Addr))), (13, .int .i64 65), (30, .bool a3)] ⟨rfl, rfl, rfl, rfl, rfl, rfl, rfl, rfl, rfl, rfl, trivial⟩ (fun f1 => ?_)
      refine wk_then ?_
      refine wc_cond rfl h (fun h => ?_) (fun h => ?_)
      · refine wc_region ?_
        refine wl_val (at_move rfl) rfl ?_
        refine wl_val (at_neg rfl) rfl ?_
        refine wl_val (at_assign rfl) rfl ?_
        refine wl_nil ?_
        exact wk_prune [(0, .slice a0.a a0.n a0.c), (1, .int .u64 (IntKind.wrap .u64 (0 - a1))), (2, .int .i64 a2), (3, .bool a3), (4, .bool a4), (10, .slice none 0 0), (11, .string (⟨#[]⟩ : ByteArray)), (12, .pointer (some (⟨b4, 0, none⟩ : Addr))), (13, .int .i64 65)] ⟨rfl, rfl, rfl, rfl, rfl, rfl, rfl, rfl, rfl, trivial⟩ (fun f1 => hJ6 ((IntKind.wrap .u64 (0 - a1))) _ f1 h ⟨t_b4, trivial⟩ so)
      · refine wc_skip ?_
        exact wk_prune [(0, .slice a0.a a0.n a0.c), (1, .int .u64 a1), (2, .int .i64 a2), (3, .bool a3), (4, .bool a4), (10, .slice none 0 0), (11, .string (⟨#[]⟩ : ByteArray)), (12, .pointer (some (⟨b4, 0, none⟩ : Addr))), (13, .int .i64 65)] ⟨rfl, rfl, rfl, rfl, rfl, rfl, rfl, rfl, rfl, trivial⟩ (fun f1 => hJ6 (a1) _ f1 h ⟨t_b4, trivial⟩ so)
  · intro J1 h hJ1
    refine wc_seq ?_
    refine wc_join (w0 := w0) (fun (s61 : Bool) => [(0, .slice a0.a a0.n a0.c), (1, .int .u64 a1), (2, .int .i64 a2), (3, .bool a3), (4, .bool a4), (10, .slice none 0 0), (11, .string (⟨#[]⟩ : ByteArray)), (28, .bool s61)]) h ?_ ?_
    · rintro s61 w62 f1 h so; refine wk_then ?_
      refine wc_cond rfl h (fun h => ?_) (fun h => ?_)
      · exact h.elim
      · refine wc_skip ?_
        exact wk_prune [(0, .slice a0.a a0.n a0.c), (1, .int .u64 a1), (2, .int .i64 a2), (3, .bool a3), (4, .bool a4), (10, .slice none 0 0), (11, .string (⟨#[]⟩ : ByteArray))] ⟨rfl, rfl, rfl, rfl, rfl, rfl, rfl, trivial⟩ (fun f1 => hJ1 () _ f1 h so)
    · intro J60 h hJ60
      refine wc_region ?_
      refine wl_val (at_move rfl) rfl ?_
      refine wl_val (at_lss rfl rfl) rfl ?_
      refine wl_val (at_move rfl) rfl ?_
      refine bif_ h (fun hb h => ?_) (fun hb h => ?_)
      · refine wl_set (t := 21) (v := .bool true) (congrArg Value.bool hb) ?_; clear hb
        refine wl_off (t := 21) rfl (by decide) rfl ?_
        refine wl_off (t := 21) rfl (by decide) rfl ?_
        refine wl_val (at_pick_t rfl rfl) rfl ?_
        refine wl_val (at_move rfl) rfl ?_
        refine wl_off (t := 25) rfl (by decide) rfl ?_
        refine wl_off (t := 25) rfl (by decide) rfl ?_
        refine wl_val (at_pick_t rfl rfl) rfl ?_
        refine wl_nil ?_
        exact wk_prune [(0, .slice a0.a a0.n a0.c), (1, .int .u64 a1), (2, .int .i64 a2), (3, .bool a3), (4, .bool a4), (10, .slice none 0 0), (11, .string (⟨#[]⟩ : ByteArray)), (28, .bool true)] ⟨rfl, rfl, rfl, rfl, rfl, rfl, rfl, rfl, trivial⟩ (fun f1 => hJ60 (true) _ f1 h so)
      · refine wl_set (t := 21) (v := .bool false) (congrArg Value.bool hb) ?_; clear hb
        refine wl_on (t := 21) rfl (by decide) rfl ?_
        refine wl_val (at_move rfl) rfl ?_
        refine wl_on (t := 21) rfl (by decide) rfl ?_
        refine wl_val (at_eql rfl rfl) rfl ?_
        refine wl_val (at_pick_f rfl rfl) rfl ?_
        refine wl_val (at_move rfl) rfl ?_
        refine bif_ h (fun hb h => ?_) (fun hb h => ?_)
        · refine wl_set (t := 25) (v := .bool true) (congrArg Value.bool hb) ?_; clear hb
          refine wl_off (t := 25) rfl (by decide) rfl ?_
          refine wl_off (t := 25) rfl (by decide) rfl ?_
          refine wl_val (at_pick_t rfl rfl) rfl ?_
          refine wl_nil ?_
          exact wk_prune [(0, .slice a0.a a0.n a0.c), (1, .int .u64 a1), (2, .int .i64 a2), (3, .bool a3), (4, .bool a4), (10, .slice none 0 0), (11, .string (⟨#[]⟩ : ByteArray)), (28, .bool true)] ⟨rfl, rfl, rfl, rfl, rfl, rfl, rfl, rfl, trivial⟩ (fun f1 => hJ60 (true) _ f1 h so)
        · refine wl_set (t := 25) (v := .bool false) (congrArg Value.bool hb) ?_; clear hb
          refine wl_on (t := 25) rfl (by decide) rfl ?_
          refine wl_val (at_move rfl) rfl ?_
          refine wl_on (t := 25) rfl (by decide) rfl ?_
          refine wl_val (at_gtr rfl rfl) rfl ?_
          refine wl_val (at_pick_f rfl rfl) rfl ?_
          refine wl_nil ?_
          exact wk_prune [(0, .slice a0.a a0.n a0.c), (1, .int .u64 a1), (2, .int .i64 a2), (3, .bool a3), (4, .bool a4), (10, .slice none 0 0), (11, .string (⟨#[]⟩ : ByteArray)), (28, .bool (decide ((36 : Int) < a2)))] ⟨rfl, rfl, rfl, rfl, rfl, rfl, rfl, rfl, trivial⟩ (fun f1 => hJ60 ((decide ((36 : Int) < a2))) _ f1 h so)
def strconv_FormatInt.enc : ByteArray → Value := fun r => .string r
def strconv_FormatInt.s (a0 : Int) (a1 : Int) (H0 : Hp) (Q : ByteArray → Hp → Prop) : Prop :=
  if (a1 == 10) = true then (Join (fun (s2 : Bool) (H3 : Hp) => if s2 = true then (strconv_small.s a0 H3 (fun x4 H5 => Q x4 H5)) else (False)) (fun (J1 : Bool → Hp → Prop) => if decide ((0 : Int) ≤ a0) = true then (J1 ((decide (a0 < 100))) H0) else (J1 (false) H0))) else (strconv_formatBits.s ⟨none, 0, 0⟩ (IntKind.wrap .u64 a0) a1 (decide (a0 < 0)) false H0 (fun x11 H12 => Q x11.2 H12))
set_option maxRecDepth 20000 in
set_option maxHeartbeats 4000000 in
theorem strconv_FormatInt.calls (a0 : Int) (a1 : Int) (w0 : World) (Q : ByteArray → Hp → Prop) (h : strconv_FormatInt.s a0 a1 w0.heap Q) :
    Ca Tryd.prog 47 #[.int .i64 a0, .int .i64 a1] w0 (Rt strconv_FormatInt.enc Q w0) := by
  refine ca_start (c := _) Tryd.func47 rfl Tryd.ntmps47 rfl ?_
  have so : Sm w0 w0 := Sm.refl w0
  unfold strconv_FormatInt.s at h
  refine wc_prune [(0, .int .i64 a0), (1, .int .i64 a1)] ⟨rfl, rfl, trivial⟩ (fun f1 => ?_)
  refine wc_seq ?_
  refine wc_region ?_
  refine wl_val (at_assign rfl) rfl ?_
  refine wl_nil ?_
  refine wk_prune [(0, .int .i64 a0), (1, .int .i64 a1)] ⟨rfl, rfl, trivial⟩ (fun f1 => ?_)
  refine wk_then ?_
  refine wc_seq ?_
  refine wc_seq ?_
  refine wc_region ?_
  refine wl_val (at_move rfl) rfl ?_
  refine wl_val (at_eql rfl rfl) rfl ?_
  refine wl_nil ?_
  refine wk_prune [(0, .int .i64 a0), (1, .int .i64 a1), (11, .bool (a1 == 10))] ⟨rfl, rfl, rfl, trivial⟩ (fun f1 => ?_)
  refine wk_then ?_
  refine wc_cond rfl h (fun h => ?_) (fun h => ?_)
  · refine wc_seq ?_
    refine wc_seq ?_
    refine wc_join (w0 := w0) (fun (s2 : Bool) => [(0, .int .i64 a0), (17, .bool s2)]) h ?_ ?_
    · rintro s2 w3 f1 h so; refine wk_then ?_
      refine wc_cond rfl h (fun h => ?_) (fun h => ?_)
      · refine wc_seq ?_
        refine wc_region ?_
        refine wl_val (at_move rfl) rfl ?_
        refine wl_callF (strconv_small.calls _ _ _ h) enter54 rfl trivial so ?_; intro x4 w5 h so
        refine wl_val (at_assign rfl) rfl ?_
        refine wl_nil ?_
        refine wk_prune [(4, .string x4)] ⟨rfl, trivial⟩ (fun f1 => ?_)
        refine wk_then ?_
        refine wc_ret ?_
        refine wk_thenR ?_
        refine wk_thenR ?_
        exact wk_ret1 (x := x4) rfl (by decide) rfl so h
      · exact h.elim
    · intro J1 h hJ1
      refine wc_region ?_
      refine wl_val (at_move rfl) rfl ?_
      refine wl_val (at_leq rfl rfl) rfl ?_
      refine wl_val (at_move rfl) rfl ?_
      refine bif_ h (fun hb h => ?_) (fun hb h => ?_)
      · refine wl_set (t := 14) (v := .bool true) (congrArg Value.bool hb) ?_; clear hb
        refine wl_on (t := 14) rfl (by decide) rfl ?_
        refine wl_val (at_move rfl) rfl ?_
        refine wl_on (t := 14) rfl (by decide) rfl ?_
        refine wl_val (at_lss rfl rfl) rfl ?_
        refine wl_val (at_pick_t rfl rfl) rfl ?_
        refine wl_nil ?_
        exact wk_prune [(0, .int .i64 a0), (17, .bool (decide (a0 < 100)))] ⟨rfl, rfl, trivial⟩ (fun f1 => hJ1 ((decide (a0 < 100))) _ f1 h so)
      · refine wl_set (t := 14) (v := .bool false) (congrArg Value.bool hb) ?_; clear hb
        refine wl_off (t := 14) rfl (by decide) rfl ?_
        refine wl_off (t := 14) rfl (by decide) rfl ?_
        refine wl_val (at_pick_f rfl rfl) rfl ?_
        refine wl_nil ?_
        exact wk_prune [(0, .int .i64 a0), (17, .bool false)] ⟨rfl, rfl, trivial⟩ (fun f1 => hJ1 (false) _ f1 h so)
  · refine wc_skip ?_
    refine wk_prune [(0, .int .i64 a0), (1, .int .i64 a1)] ⟨rfl, rfl, trivial⟩ (fun f1 => ?_)
    refine wk_then ?_
    refine wc_seq ?_
    refine wc_region ?_
    refine wl_val (at_move rfl) rfl ?_
    refine wl_val (at_conv Tryd.underlying2 Tryd.underlying75 rfl) rfl ?_
    refine wl_val (at_move rfl) rfl ?_
    refine wl_val (at_move rfl) rfl ?_
    refine wl_val (at_lss rfl rfl) rfl ?_
    refine wl_callF (strconv_formatBits.calls _ _ _ _ _ _ _ h) enter57 rfl trivial so ?_; intro x11 w12 h so
    refine wl_val (at_move rfl) rfl ?_
    refine wl_val (at_extract rfl rfl) rfl ?_
    refine wl_val (at_extract rfl rfl) rfl ?_
    refine wl_val (at_assign rfl) rfl ?_
    refine wl_val (at_assign rfl) rfl ?_
    refine wl_nil ?_
    refine wk_prune [(9, .string x11.2)] ⟨rfl, trivial⟩ (fun f1 => ?_)
    refine wk_then ?_
    refine wc_seq ?_
    refine wc_region ?_
    refine wl_val (at_move rfl) rfl ?_
    refine wl_val (at_assign rfl) rfl ?_
    refine wl_nil ?_
    refine wk_prune [(4, .string x11.2)] ⟨rfl, trivial⟩ (fun f1 => ?_)
    refine wk_then ?_
    refine wc_ret ?_
    exact wk_ret1 (x := x11.2) rfl (by decide) rfl so h
def strconv_Itoa_40.enc : ByteArray → Value := fun r => .string r
def strconv_Itoa_40.s (a0 : Int) (H0 : Hp) (Q : ByteArray → Hp → Prop) : Prop :=
  strconv_FormatInt.s a0 10 H0 (fun x1 H2 => Q x1 H2)
set_option maxRecDepth 20000 in
set_option maxHeartbeats 4000000 in
theorem strconv_Itoa_40.calls (a0 : Int) (w0 : World) (Q : ByteArray → Hp → Prop) (h : strconv_Itoa_40.s a0 w0.heap Q) :
    Ca Tryd.prog 40 #[.int .i64 a0] w0 (Rt strconv_Itoa_40.enc Q w0) := by
  refine ca_start (c := _) Tryd.func40 rfl Tryd.ntmps40 rfl ?_
  have so : Sm w0 w0 := Sm.refl w0
  unfold strconv_Itoa_40.s at h
  refine wc_prune [(0, .int .i64 a0)] ⟨rfl, trivial⟩ (fun f1 => ?_)
  refine wc_seq ?_
  refine wc_region ?_
  refine wl_val (at_assign rfl) rfl ?_
  refine wl_nil ?_
  refine wk_prune [(0, .int .i64 a0)] ⟨rfl, trivial⟩ (fun f1 => ?_)
  refine wk_then ?_
  refine wc_seq ?_
  refine wc_region ?_
  refine wl_val (at_move rfl) rfl ?_
  refine wl_callF (strconv_FormatInt.calls _ _ _ _ h) enter47 rfl trivial so ?_; intro x1 w2 h so
  refine wl_val (at_assign rfl) rfl ?_
  refine wl_nil ?_
  refine wk_prune [(2, .string x1)] ⟨rfl, trivial⟩ (fun f1 => ?_)
  refine wk_then ?_
  refine wc_ret ?_
  exact wk_ret1 (x := x1) rfl (by decide) rfl so h
def strconv_Itoa_34.enc : ByteArray → Value := fun r => .string r
def strconv_Itoa_34.s (a0 : Int) (H0 : Hp) (Q : ByteArray → Hp → Prop) : Prop :=
  strconv_Itoa_40.s a0 H0 (fun x1 H2 => Q x1 H2)
set_option maxRecDepth 20000 in
set_option maxHeartbeats 4000000 in
theorem strconv_Itoa_34.calls (a0 : Int) (w0 : World) (Q : ByteArray → Hp → Prop) (h : strconv_Itoa_34.s a0 w0.heap Q) :
    Ca Tryd.prog 34 #[.int .i64 a0] w0 (Rt strconv_Itoa_34.enc Q w0) := by
  refine ca_start (c := _) Tryd.func34 rfl Tryd.ntmps34 rfl ?_
  have so : Sm w0 w0 := Sm.refl w0
  unfold strconv_Itoa_34.s at h
  refine wc_prune [(0, .int .i64 a0)] ⟨rfl, trivial⟩ (fun f1 => ?_)
  refine wc_seq ?_
  refine wc_region ?_
  refine wl_val (at_assign rfl) rfl ?_
  refine wl_nil ?_
  refine wk_prune [(0, .int .i64 a0)] ⟨rfl, trivial⟩ (fun f1 => ?_)
  refine wk_then ?_
  refine wc_seq ?_
  refine wc_region ?_
  refine wl_val (at_move rfl) rfl ?_
  refine wl_callF (strconv_Itoa_40.calls _ _ _ h) enter40 rfl trivial so ?_; intro x1 w2 h so
  refine wl_val (at_assign rfl) rfl ?_
  refine wl_nil ?_
  refine wk_prune [(2, .string x1)] ⟨rfl, trivial⟩ (fun f1 => ?_)
  refine wk_then ?_
  refine wc_ret ?_
  exact wk_ret1 (x := x1) rfl (by decide) rfl so h
end Go.Proofs.YtkplpbnifinlbaaDoor.G
