/- Layer 4: a table's values and codes, one by one. -/
import Derived.Test.YtbefacccdaafeaaZ04g
import Derived.Test.YtbefacccdaafeaaZS
namespace Go.Proofs.Ytbefacccdaafeaa.G
open Go.RowKit
set_option linter.unusedVariables false
set_option linter.unusedSimpArgs false

theorem nwA_i {H : Hp} {T : TypeId} {cs : Array Value} {K : Addr → Hp → Prop} (h : ∀ H', Bk H' H.size T cs.toList → Keep H H' → H'.size = H.size + 1 → K ⟨H.size, 0, none⟩ H') : nwA H T cs K := by
  refine h _ ?_ ⟨by simp, fun k hk => ?_⟩ (by simp)
  · unfold Bk; simp
  · rw [Array.getElem?_push, if_neg (by omega)]
/-- What is told of each value: the value, its code's text. -/
def itm (x : Cd) : Int × ByteArray := ((x.1 : Int), tx (bl x.2.1 x.2.2))
theorem bit_cell {n v i : Nat} (hi : i < n) (hn : n ≤ 16) (hv : v < 2 ^ n) :
    IntKind.wrap .u8 ((48 : Int) + (IntKind.wrap .u8 (Go.bits .and .u16 (shrI .u16 (v : Int) ((n - 1 - i : Nat) : Int)) 1))) = ((48 + (v.testBit (n - 1 - i)).toNat : Nat) : Int) := by
  have h1 := pow_lt hn
  have p16 : (2 : Nat) ^ 16 = 65536 := rfl
  have h2 : v / 2 ^ (n - 1 - i) ≤ v := Nat.div_le_self _ _
  rw [shrn (by show _ ≤ 16; omega)]
  have e := gand (k := .u16) (x := v / 2 ^ (n - 1 - i)) (y := 1) (by show _ < 2 ^ 16; omega) (by decide) (wu16 (by rw [Nat.and_one_is_mod]; omega))
  rw [Nat.and_one_is_mod] at e
  rw [show ((1 : Nat) : Int) = (1 : Int) from rfl] at e
  rw [e, Nat.testBit_eq_decide_div_mod_eq, wu8n (by omega)]
  rcases Nat.mod_two_eq_zero_or_one (v / 2 ^ (n - 1 - i)) with h | h <;> rw [h] <;> rfl
theorem All_seqG4 {p t : Nat} {s : Sl} {c : Cn} {vs : List Nat} {H : Hp} (hT : Tab H t s c vs) (hm : May4 c vs) (hv : ∀ v ∈ vs, v < 256) {T : TypeId} (hp : Bk H p T [.pointer (some ⟨t, 0, none⟩)]) :
    SeqG (fun Y H Q => huff_Table_All_1.s Y ⟨p, 0, none⟩ H Q) H (p :: t :: fp s) ((prs c vs).map itm) := by
  intro Y Q I Z G0 hG h0 hk hlt hY hQ hZ
  unfold huff_Table_All_1.s
  obtain ⟨cs0, hb0, hc0⟩ := hT.bk
  refine ldP_i hp rfl ⟨_, rfl, ?_⟩
  refine ldL_a hb0 hc0.vals ?_
  have hsn := (hT.own.view cB_len (by omega)).n
  have hmost := hm.most
  have hpl := prs_len hm
  rw [hsn]
  refine Fix.intro (fun (x : Int) H' => ∃ i : Nat, x = (i : Int) ∧ i ≤ vs.length ∧ (∃ G, I i G H' ∧ ∀ b ∈ p :: t :: fp s, b ∉ G) ∧ Tab H' t s c vs ∧ Bk H' p T [.pointer (some ⟨t, 0, none⟩)]) (fun (x : Int) _ => vs.length - x.toNat) ⟨0, rfl, by omega, ⟨G0, h0, fun b hb hf => hG b hf hb⟩, hT, hp⟩ ?_
  rintro _ H1 ⟨i, rfl, hi, ⟨G, hI, hGP⟩, T1, p1⟩ rec hrec
  by_cases hil : i < vs.length
  rotate_left
  · refine ite_f (decf (by omega)) (hQ G _ ?_)
    rw [List.length_map, hpl]
    obtain rfl : i = vs.length := by omega
    exact hI
  obtain ⟨b, o, ha, hA⟩ := (T1.own.view cB_len (by omega)).get (List.getElem?_eq_getElem hil)
  refine ite_t (dect (by omega)) ⟨by omega, by omega, _, ha, ?_⟩
  rw [Int.toNat_natCast]
  refine ldI_of0 hA rfl (ldP_i p1 rfl (Code_ok T1 hm (hv _ (List.getElem_mem hil)) ?_))
  have hip : i < (prs c vs).length := by omega
  obtain ⟨⟨n, v⟩, hg⟩ : ∃ x, (cds (cnt c) 16)[i]? = some x := ⟨_, List.getElem?_eq_getElem (show i < (cds (cnt c) 16).length by rw [cds_len, hm.len]; exact hil)⟩
  have hpr := prs_get (c := c) (vs := vs) (List.getElem?_eq_getElem hil) hg
  have hlk := lkp_at (P := prs c vs) (by rw [prs_keys hm]; exact hm.nodup) hpr
  obtain ⟨f1, f2, f3⟩ := cds_fit hm.fit hg
  rw [hlk]
  simp only
  refine ⟨by omega, by omega, by omega, ?_⟩
  rw [Int.toNat_natCast, Nat.mul_one]
  refine nwA_i fun H28 b28 k28 z28 => ?_
  have hlen : (madeCells z5.cells n).toList.length = n := by simp [madeCells]
  refine Fix.intro (fun (x : Int) H' => ∃ (j : Nat) (cs : List Value), x = (j : Int) ∧ j ≤ n ∧ Bk H' H1.size 5 cs ∧ cs.length = n ∧ (∀ k, k < j → cs[k]? = some (.int .u8 ((48 + (v.testBit (n - 1 - k)).toNat : Nat) : Int))) ∧ Keep H1 H') (fun (x : Int) _ => n - x.toNat)
    ⟨0, _, rfl, by omega, b28, hlen, fun k hk => by omega, k28⟩ ?_
  rintro _ H32 ⟨j, cs, rfl, hj, b32, hcl, hcs, k32⟩ rec2 hrec2
  by_cases hjn : j < n
  · have e1 : IntKind.wrap .i64 ((n : Int) - 1) = ((n - 1 : Nat) : Int) := by rw [w64 (by omega)]; omega
    have e2 : IntKind.wrap .i64 (((n - 1 : Nat) : Int) - (j : Int)) = ((n - 1 - j : Nat) : Int) := by rw [w64 (by omega)]; omega
    rw [e1, e2, bit_cell hjn f2 (by omega), Int.toNat_natCast, Nat.mul_one, add_mk, Nat.zero_add]
    refine ite_t (dect (by omega)) ⟨by omega, by omega, by omega, st_i b32 (by omega) fun H38 b38 s38 => ?_⟩
    rw [show (j : Int) + 1 = ((j + 1 : Nat) : Int) from by omega, w64n (by omega)]
    refine hrec2 _ _ ⟨j + 1, _, rfl, by omega, b38, by simp [hcl], fun k hk' => ?_, k32.same s38 (Nat.le_refl _)⟩ (by simp; omega)
    rw [List.getElem?_set]
    by_cases e : j = k
    · subst e; rw [if_pos rfl, if_pos (by omega)]
    · rw [if_neg e]; exact hcs k (by omega)
  · obtain rfl : j = n := by omega
    refine ite_f (decf (by omega)) ⟨tx (bl j v), by rw [tx_size, bl_len], ?_, ?_⟩
    · have hcc : byteCells (tx (bl j v)) = cs := by
        unfold tx
        rw [bytesOf_cells (by
          intro x hx
          obtain ⟨y, _, rfl⟩ := List.mem_map.1 hx
          cases y <;> simp), fmB]
        refine List.ext_getElem? fun k => ?_
        by_cases hkj : k < j
        · rw [hcs k hkj, List.getElem?_map, List.getElem?_map, bl_get j v k hkj]
          rfl
        · rw [List.getElem?_eq_none (by simp [bl_len]; omega), List.getElem?_eq_none (by omega)]
      rw [hcc]
      refine ⟨fun u hu => ?_, fun k w hw => ⟨_, rfl, ?_⟩⟩
      · rw [← hcc] at hu
        unfold tx at hu
        rw [bytesOf_cells (by
          intro x hx
          obtain ⟨y, _, rfl⟩ := List.mem_map.1 hx
          cases y <;> simp)] at hu
        exact fm_ones cB_ones _ u hu
      · rw [add_mk, b32.cell, Nat.zero_add]; exact hw
    · refine hY i G (itm (vs[i], j, v)) H32 _ (by rw [List.getElem?_map, hpr]; rfl) (hk _ _ _ _ hI k32) ?_ ?_
      · intro G' H43 hI43 c43 g43
        refine ite_f rfl ?_
        rw [show (i : Int) + 1 = ((i + 1 : Nat) : Int) from by omega, w64n (by omega)]
        have lT := T1.lts
        have lp := p1.lt
        have y32 := k32.size
        refine hrec _ _ ⟨i + 1, rfl, by omega, ⟨G', hI43, fun b hb hh => (g43 b hh).elim (hGP b hb) fun h => ?_⟩, (T1.keep k32).ch c43 (fun b hb => hGP b (List.mem_cons_of_mem _ hb)), (p1.keep k32).ch c43 (hGP p (by simp))⟩ (by simp; omega)
        rcases List.mem_cons.1 hb with rfl | hb
        · omega
        · have := lT b hb; omega
      · intro H43 hZ43 c43
        exact ite_t rfl (hZ _ hZ43)
theorem All_seq4 {p t : Nat} {s : Sl} {c : Cn} {vs : List Nat} {H : Hp} (hT : Tab H t s c vs) (hm : May4 c vs) (hv : ∀ v ∈ vs, v < 256) {T : TypeId} (hp : Bk H p T [.pointer (some ⟨t, 0, none⟩)]) :
    SeqOk (fun Y H Q => huff_Table_All_1.s Y ⟨p, 0, none⟩ H Q) H (p :: t :: fp s) ((prs c vs).map itm) := (All_seqG4 hT hm hv hp).ok
end Go.Proofs.Ytbefacccdaafeaa.G
