/- Layer 4: tables made ready, of the program and of the document. -/
import Derived.Test.YtbefacccdaafeaaZ04d
namespace Go.Proofs.Ytbefacccdaafeaa.G
open Go.RowKit
set_option linter.unusedVariables false
set_option linter.unusedSimpArgs false

abbrev Cd := Nat × (Nat × Nat)
/-- By value its code: length and number; (0, 0): none. -/
def lkp (P : List Cd) (v : Nat) : Nat × Nat := ((P.find? fun x => x.1 == v).map (·.2)).getD (0, 0)
theorem lkp_nil (v : Nat) : lkp [] v = (0, 0) := rfl
theorem lkp_snoc {P : List Cd} {x v : Nat} {p : Nat × Nat} (h : x ∉ P.map (·.1)) : lkp (P ++ [(x, p)]) v = if v = x then p else lkp P v := by
  unfold lkp
  rw [List.find?_append]
  by_cases e : v = x
  · subst e
    have : (P.find? fun y => y.1 == v) = none := by
      rw [List.find?_eq_none]
      intro y hy
      simp
      exact fun e => h (List.mem_map.2 ⟨y, hy, e⟩)
    rw [this, if_pos rfl]
    simp
  · rw [if_neg e]
    have : ([(x, p)].find? fun y => y.1 == v) = none := by
      rw [List.find?_eq_none]
      intro y hy
      simp at hy
      subst hy
      simp
      exact fun e' => e e'.symm
    rw [this, Option.or_none]
theorem lkp_of {P : List Cd} (v : Nat) : lkp P v = (0, 0) ∧ v ∉ P.map (·.1) ∨ (v, lkp P v) ∈ P := by
  unfold lkp
  cases h : P.find? fun x => x.1 == v with
  | none =>
    refine .inl ⟨rfl, fun hv => ?_⟩
    obtain ⟨y, hy, e⟩ := List.mem_map.1 hv
    have := List.find?_eq_none.1 h y hy
    simp [e] at this
  | some y =>
    right
    have h1 := List.find?_some h
    have h2 := List.mem_of_find?_eq_some h
    simp at h1
    subst h1
    exact h2
theorem lkp_at {P : List Cd} (hn : (P.map (·.1)).Nodup) {i v : Nat} {p : Nat × Nat} (h : P[i]? = some (v, p)) : lkp P v = p := by
  rcases lkp_of (P := P) v with ⟨_, h1⟩ | h1
  · exact absurd (List.mem_map.2 ⟨_, List.mem_of_getElem? h, rfl⟩) h1
  · obtain ⟨j, hj⟩ := List.mem_iff_getElem?.1 h1
    have e1 : (P.map (·.1))[i]? = some v := by rw [List.getElem?_map, h]; rfl
    have e2 : (P.map (·.1))[j]? = some v := by rw [List.getElem?_map, hj]; rfl
    have hi := (List.getElem?_eq_some_iff.1 e1).1
    have : i = j := (List.getElem?_inj hi hn).1 (e1.trans e2.symm)
    subst this
    rw [h] at hj
    simp at hj
    exact hj.symm

/-! ### the numbers of a table that may be -/
theorem plq_wN (c : Cn) : ∀ i, plq (cnt c) i = wN c i
  | 0 => by rw [plq, wN]
  | i + 1 => by rw [plq, wN, plq_wN c i]
theorem fcq_wS (c : Cn) : ∀ i, i ≤ 15 → fcq (cnt c) i * 2 ^ (15 - i) = wS c i
  | 0, _ => by simp [fcq, wS]
  | i + 1, h => by
    rw [fcq, wS, ← fcq_wS c i (by omega), show 15 - i = (15 - (i + 1)) + 1 from by omega, Nat.pow_succ, ← Nat.add_mul, Nat.mul_comm 2, Nat.mul_assoc, Nat.mul_comm 2 (2 ^ _)]
theorem wS_mono (c : Cn) {i j : Nat} (h : i ≤ j) : wS c i ≤ wS c j := by
  induction j with
  | zero => obtain rfl : i = 0 := by omega
            exact Nat.le_refl _
  | succ j ih =>
    rcases Nat.eq_or_lt_of_le h with rfl | h1
    · exact Nat.le_refl _
    · have := ih (by omega)
      rw [wS]
      omega
theorem fits (c : Cn) (h : wS c 16 ≤ 65535) : Fits (cnt c) := by
  intro l hl
  have h1 := wS_mono c (show l + 1 ≤ 16 by omega)
  rw [wS, ← fcq_wS c l (by omega), ← Nat.add_mul] at h1
  have h2 : (2 : Nat) ^ 16 = 2 ^ (l + 1) * 2 ^ (15 - l) := by rw [← Nat.pow_add]; congr 1; omega
  have h3 : (2 : Nat) ^ 16 = 65536 := rfl
  exact Nat.lt_of_mul_lt_mul_right (a := 2 ^ (15 - l)) (by omega)
/-- A table that may be. -/
structure May4 (c : Cn) (vs : List Nat) : Prop where
  pos : 0 < vs.length
  most : vs.length ≤ 256
  len : plq (cnt c) 16 = vs.length
  fit : Fits (cnt c)
  nodup : vs.Nodup
  sum : wS c 16 ≤ 65535
theorem may4 {c : Cn} {vs : List Nat} (h : Chk4 c vs = 0) : May4 c vs := by
  unfold Chk4 at h
  split at h
  · cases h
  split at h
  · cases h
  split at h
  · rename_i h1 h2 h3
    have e := plq_wN c 16
    exact ⟨by omega, by omega, by omega, fits c (by omega), h3, by omega⟩
  · cases h
/-- The values with their codes. -/
def prs (c : Cn) (vs : List Nat) : List Cd := vs.zip (cds (cnt c) 16)
section
variable {c : Cn} {vs : List Nat}
theorem prs_len (h : May4 c vs) : (prs c vs).length = vs.length := by
  unfold prs
  rw [List.length_zip, cds_len, h.len, Nat.min_self]
theorem prs_keys (h : May4 c vs) : (prs c vs).map (·.1) = vs := by
  unfold prs
  rw [show (fun x : Cd => x.1) = Prod.fst from rfl, List.map_fst_zip]
  rw [cds_len, h.len]
  exact Nat.le_refl _
theorem prs_codes (h : May4 c vs) : (prs c vs).map (·.2) = cds (cnt c) 16 := by
  unfold prs
  rw [show (fun x : Cd => x.2) = Prod.snd from rfl, List.map_snd_zip]
  rw [cds_len, h.len]
  exact Nat.le_refl _
theorem prs_get {i v n m : Nat} (h1 : vs[i]? = some v) (h2 : (cds (cnt c) 16)[i]? = some (n, m)) : (prs c vs)[i]? = some (v, n, m) := by
  unfold prs
  rw [List.getElem?_zip_eq_some]
  exact ⟨h1, h2⟩
theorem prs_of {i v n m : Nat} (h : (prs c vs)[i]? = some (v, n, m)) : vs[i]? = some v ∧ (cds (cnt c) 16)[i]? = some (n, m) := by
  unfold prs at h
  rw [List.getElem?_zip_eq_some] at h
  exact h
theorem lkp_fit (h : May4 c vs) (v : Nat) : (lkp (prs c vs) v).1 ≤ 16 ∧ (lkp (prs c vs) v).2 < 2 ^ (lkp (prs c vs) v).1 ∧ ((lkp (prs c vs) v).1 = 0 ↔ v ∉ vs) := by
  rcases lkp_of (P := prs c vs) v with ⟨h1, h2⟩ | h1
  · rw [prs_keys h] at h2
    rw [h1]
    exact ⟨by omega, by simp, by simpa using h2⟩
  · revert h1
    generalize lkp (prs c vs) v = p
    obtain ⟨n, m⟩ := p
    intro h1
    obtain ⟨i, hi⟩ := List.mem_iff_getElem?.1 h1
    obtain ⟨g1, g2⟩ := prs_of hi
    have g3 := cds_fit h.fit g2
    have := List.mem_of_getElem? g1
    show n ≤ 16 ∧ m < 2 ^ n ∧ (n = 0 ↔ v ∉ vs)
    refine ⟨by omega, by omega, ?_⟩
    constructor
    · intro h0; omega
    · exact fun hv => absurd this hv
end

attribute [irreducible] prs
/-! ### the program's table -/
def cW (p : Nat × Nat) : List Value := [.string (tx (bl p.1 p.2))]
theorem cW_len (p : Nat × Nat) : (cW p).length = 1 := rfl
theorem cW_ones (p : Nat × Nat) : ∀ u ∈ cW p, u.oneCell' = true := ones_cons rfl ones_nil
structure TabC (q : Nat → Nat) (P : List Cd) (s : Sl) (cs : List Value) (L : Nat) : Prop where
  len : cs.length = 564
  code : ∀ v, v < 256 → cs[v]? = some (.int .u16 ((lkp P v).2 : Int)) ∧ cs[256 + v]? = some (.int .u8 ((lkp P v).1 : Int))
  rows : ∀ l, l < L → cs[512 + (l + 1)]? = some (.int .i64 (fcq q l : Int)) ∧ cs[529 + (l + 1)]? = some (.int .i64 (q l : Int)) ∧ cs[546 + (l + 1)]? = some (.int .i64 (plq q l : Int))
  vals : cs[563]? = some (.slice s.a s.n s.c)
/-- A table of the program: its block, its values' slice. -/
structure Tab (H : Hp) (t : Nat) (s : Sl) (c : Cn) (vs : List Nat) : Prop where
  bk : ∃ cs, Bk H t 79 cs ∧ TabC (cnt c) (prs c vs) s cs 16
  own : Own H 5 1 s (vs.flatMap cB)
  ne : t ∉ fp s
theorem Tab.ch {H H' : Hp} {t : Nat} {s : Sl} {c : Cn} {vs : List Nat} {F : List Nat} (h : Tab H t s c vs) (k : Ch F H H') (hF : ∀ b ∈ t :: fp s, b ∉ F) : Tab H' t s c vs := by
  obtain ⟨⟨cs, h1, h2⟩, h3, h4⟩ := h
  exact ⟨⟨cs, h1.ch k (hF t (by simp)), h2⟩, h3.ch k fun b hb => hF b (by simp [hb]), h4⟩
theorem Tab.keep {H H' : Hp} {t : Nat} {s : Sl} {c : Cn} {vs : List Nat} (h : Tab H t s c vs) (k : Keep H H') : Tab H' t s c vs := h.ch (k.ch (F := [])) (by simp)
theorem Tab.lts {H : Hp} {t : Nat} {s : Sl} {c : Cn} {vs : List Nat} (h : Tab H t s c vs) : ∀ b ∈ t :: fp s, b < H.size := by
  intro b hb
  rcases List.mem_cons.1 hb with rfl | hb
  · obtain ⟨cs, h1, _⟩ := h.bk
    exact h1.lt
  · exact h.own.fp_lt b hb
/-- The document's table. -/
structure Rtb (H : Hp) (r : Nat) (sv sc : Sl) (c : Cn) (vs : List Nat) : Prop where
  bk : Bk H r 82 (c82 sv sc)
  ov : Own H 5 1 sv (vs.flatMap cB)
  oc : Own H 9 1 sc ((cds (cnt c) 16).flatMap cW)
  ne : r ∉ fp sv ∧ r ∉ fp sc
theorem Rtb.ch {H H' : Hp} {r : Nat} {sv sc : Sl} {c : Cn} {vs : List Nat} {F : List Nat} (h : Rtb H r sv sc c vs) (k : Ch F H H') (hF : ∀ b ∈ r :: (fp sv ++ fp sc), b ∉ F) : Rtb H' r sv sc c vs :=
  ⟨h.bk.ch k (hF r (by simp)), h.ov.ch k fun b hb => hF b (by simp [hb]), h.oc.ch k fun b hb => hF b (by simp [hb]), h.ne⟩
theorem Rtb.keep {H H' : Hp} {r : Nat} {sv sc : Sl} {c : Cn} {vs : List Nat} (h : Rtb H r sv sc c vs) (k : Keep H H') : Rtb H' r sv sc c vs := h.ch (k.ch (F := [])) (by simp)
theorem Rtb.lts {H : Hp} {r : Nat} {sv sc : Sl} {c : Cn} {vs : List Nat} (h : Rtb H r sv sc c vs) : ∀ b ∈ r :: (fp sv ++ fp sc), b < H.size := by
  intro b hb
  rcases List.mem_cons.1 hb with rfl | hb
  · exact h.bk.lt
  · rcases List.mem_append.1 hb with hb | hb
    · exact h.ov.fp_lt b hb
    · exact h.oc.fp_lt b hb
section
variable {H : Hp} {t : Nat} {s : Sl} {c : Cn} {vs : List Nat}
theorem Code_ok {v : Nat} {Q : Int × Int → Hp → Prop} (h : Tab H t s c vs) (hm : May4 c vs) (hv : v < 256) (k : Q (((lkp (prs c vs) v).2 : Int), ((lkp (prs c vs) v).1 : Int)) H) : huff_Table_Code.s (some ⟨t, 0, none⟩) (v : Int) H Q := by
  obtain ⟨⟨cs, h1, h2⟩, _⟩ := h
  obtain ⟨g1, g2⟩ := h2.code v hv
  have g3 := (lkp_fit hm v).1
  unfold huff_Table_Code.s
  refine ⟨_, rfl, by omega, by omega, ?_⟩
  rw [add_mk, add_mk, add_mk, add_mk, Int.toNat_natCast]
  refine ldI_i h1 (by rw [show 0 + 0 + v * 1 = v from by omega]; exact g1) ⟨by omega, by omega, ldI_i h1 (by rw [show 0 + 256 + v * 1 = 256 + v from by omega]; exact g2) ?_⟩
  rw [w64n (by omega)]
  exact k
end
section
variable {H : Hp} {r : Nat} {sv sc : Sl} {c : Cn} {vs : List Nat}
theorem rText_ok4 {v : Nat} {Q : ByteArray → Hp → Prop} (h : Rtb H r sv sc c vs) (hm : May4 c vs) (k : Q (tx (bl (lkp (prs c vs) v).1 (lkp (prs c vs) v).2)) H) : mosaicref04_Table_Text.s (some ⟨r, 0, none⟩) (v : Int) H Q := by
  have hvv := h.ov.view cB_len (by omega)
  have hcv := h.oc.view cW_len (by omega)
  have hvn := hvv.n
  have hcn := hcv.n
  rw [cds_len, hm.len] at hcn
  have hmost := hm.most
  unfold mosaicref04_Table_Text.s
  refine Fix.intro (fun (x : Int) H' => ∃ i : Nat, x = (i : Int) ∧ i ≤ vs.length ∧ (prs c vs).find? (fun x => x.1 == v) = ((prs c vs).drop i).find? (fun x => x.1 == v) ∧ H = H') (fun x _ => vs.length - x.toNat) ⟨0, rfl, by omega, rfl, rfl⟩ ?_
  rintro _ _ ⟨i, rfl, hi, hno, rfl⟩ rec hrec
  refine ⟨_, rfl, ldL_a h.bk rfl ?_⟩
  by_cases hil : i < vs.length
  · obtain ⟨b, o, ha, hA⟩ := hvv.get (List.getElem?_eq_getElem hil)
    have hic : i < (cds (cnt c) 16).length := by rw [cds_len, hm.len]; exact hil
    obtain ⟨⟨n, w⟩, hg⟩ : ∃ x, (cds (cnt c) 16)[i]? = some x := ⟨_, List.getElem?_eq_getElem hic⟩
    obtain ⟨b2, o2, ha2, hA2⟩ := hcv.get hg
    have hpr := prs_get (c := c) (vs := vs) (List.getElem?_eq_getElem hil) hg
    obtain ⟨hip, hp⟩ := List.getElem?_eq_some_iff.1 hpr
    refine ite_t (dect (by omega)) (ldL_a h.bk rfl ⟨by omega, by omega, _, ha, ldI_of0 hA rfl ?_⟩)
    rw [List.drop_eq_getElem_cons hip, List.find?_cons, hp] at hno
    by_cases e : vs[i] = v
    · rw [show (vs[i] == v) = true from by simp [e]] at hno
      refine ite_t (beqi (by omega)) (ldL_a h.bk rfl ⟨by omega, by omega, _, ha2, ?_⟩)
      have hl : lkp (prs c vs) v = (n, w) := by unfold lkp; rw [hno]; rfl
      rw [hl] at k
      have := hA2.2 0 _ rfl
      rw [Addr.add, if_pos rfl] at this
      exact ⟨_, this, k⟩
    · rw [show (vs[i] == v) = false from by simp [e]] at hno
      refine ite_f (beqf (by omega)) ?_
      rw [show (i : Int) + 1 = ((i + 1 : Nat) : Int) from by omega, w64n (by omega)]
      exact hrec _ _ ⟨i + 1, rfl, by omega, hno, rfl⟩ (by simp; omega)
  · rw [List.drop_eq_nil_of_le (by rw [prs_len hm]; omega)] at hno
    have hl : lkp (prs c vs) v = (0, 0) := by unfold lkp; rw [hno]; rfl
    rw [hl] at k
    exact ite_f (decf (by omega)) k
theorem rCode_ok {v : Nat} {Q : Int × Int → Hp → Prop} (h : Rtb H r sv sc c vs) (hm : May4 c vs) (k : Q (((lkp (prs c vs) v).2 : Int), ((lkp (prs c vs) v).1 : Int)) H) : mosaicref04_Table_Code.s (some ⟨r, 0, none⟩) (v : Int) H Q := by
  obtain ⟨g1, g2, _⟩ := lkp_fit hm v
  have g3 := pow_lt g1
  have h16 : (2 : Nat) ^ 16 = 65536 := rfl
  unfold mosaicref04_Table_Code.s
  refine rText_ok4 h hm (Number_ok (by rw [bl_len]; omega) ?_)
  rw [num_bl, Nat.mod_eq_of_lt g2, tx_size, bl_len, wu16 (by omega)]
  exact k
end
end Go.Proofs.Ytbefacccdaafeaa.G
