/- Layer 4: a code is read, of the program and of the document. -/
import Derived.Test.YtbefacccdaafeaaZ04i
namespace Go.Proofs.Ytbefacccdaafeaa.G
open Go.RowKit
set_option linter.unusedVariables false
set_option linter.unusedSimpArgs false

/-- The bits that are left, and as many of them as count. -/
def bts (l : List (Bool × Nat)) : List Bool := (l.map (·.1)).take 16
theorem bts_len (l : List (Bool × Nat)) : (bts l).length = min 16 l.length := by simp [bts]
open Classical in
/-- What reading from these bits says: the value, or 0; the error, or 0; how many bits are taken. -/
noncomputable def rd4 (c : Cn) (vs : List Nat) (B : List Bool) : Nat × Nat × Nat :=
  if h : ∃ x : Nat × Nat × Nat, Hit (cnt c) B x.1 x.2.1 x.2.2 then ((vs[h.choose.1]?).getD 0, 0, h.choose.2.1) else if B.length < 16 ∧ Opn (cnt c) B then (0, 44, 0) else (0, 43, 0)
section
variable {c : Cn} {vs : List Nat} {B : List Bool}
theorem rd4_hit (hm : May4 c vs) {i n v x : Nat} (h : Hit (cnt c) B i n v) (hx : vs[i]? = some x) : rd4 c vs B = (x, 0, n) := by
  have he : ∃ x : Nat × Nat × Nat, Hit (cnt c) B x.1 x.2.1 x.2.2 := ⟨(i, n, v), h⟩
  unfold rd4
  rw [dif_pos he]
  obtain ⟨e1, e2, e3⟩ := h.one hm.fit he.choose_spec
  rw [← e1, ← e2, hx]
  rfl
theorem rd4_open (hno : ∀ i n v, ¬ Hit (cnt c) B i n v) (h : B.length < 16 ∧ Opn (cnt c) B) : rd4 c vs B = (0, 44, 0) := by
  unfold rd4
  rw [dif_neg fun ⟨x, hx⟩ => hno _ _ _ hx, if_pos h]
theorem rd4_none (hno : ∀ i n v, ¬ Hit (cnt c) B i n v) (h : ¬ (B.length < 16 ∧ Opn (cnt c) B)) : rd4 c vs B = (0, 43, 0) := by
  unfold rd4
  rw [dif_neg fun ⟨x, hx⟩ => hno _ _ _ hx, if_neg h]
theorem hit_val (hm : May4 c vs) {i n v : Nat} (h : Hit (cnt c) B i n v) : ∃ x, vs[i]? = some x := by
  have := (List.getElem?_eq_some_iff.1 h.1).1
  rw [cds_len, hm.len] at this
  exact ⟨_, List.getElem?_eq_getElem this⟩
end
theorem ext_take' (l : List (Bool × Nat)) {n m : Nat} (h : n ≤ m) : (ext l m).take n = ext l n := by
  unfold ext
  rw [← List.map_take, List.take_range, Nat.min_eq_left h]
theorem ext_bts {l : List (Bool × Nat)} {n : Nat} (h : n ≤ l.length) (h16 : n ≤ 16) : ext l n = (bts l).take n := by
  refine List.ext_getElem? fun i => ?_
  by_cases hi : i < n
  · simp [ext, bts, bitAt, hi, List.getElem?_eq_getElem (show i < l.length by omega), show i < 16 by omega]
  · rw [List.getElem?_eq_none (by rw [ext_len]; omega), List.getElem?_eq_none (by simp [bts]; omega)]
theorem num_shr {l : List Bool} {n : Nat} (h : n ≤ l.length) : num l / 2 ^ (l.length - n) = num (l.take n) := by
  have e := bl_num l
  have h1 : num ((bl l.length (num l)).take n) = num (l.take n) := by rw [e]
  rw [bl_take h, num_bl] at h1
  rw [← h1]
  refine (Nat.mod_eq_of_lt ?_).symm
  have := num_lt l
  rw [Nat.div_lt_iff_lt_mul (Nat.pow_pos (by omega)), ← Nat.pow_add, show n + (l.length - n) = l.length from by omega]
  exact this
section
variable {H : Hp} {c : Cn} {vs : List Nat}
theorem begins_ok4 {t : Nat} {s : Sl} {B : List Bool} {Q : Bool → Hp → Prop} (T : Tab H t s c vs) (hm : May4 c vs) (hno : ∀ i n v, ¬ Hit (cnt c) B i n v) (hB : B.length < 16)
    (h : ∀ b : Bool, (b = true ↔ Opn (cnt c) B) → Q b H) : huff_Table_begins.s (some ⟨t, 0, none⟩) (num B : Int) (B.length : Int) H Q := by
  obtain ⟨⟨cs, h1, h2⟩, _⟩ := T
  unfold huff_Table_begins.s
  have hw := num_lt B
  refine Fix.intro (fun (x : Int) H' => ∃ l : Nat, x = ((l + 1 : Nat) : Int) ∧ B.length ≤ l ∧ l ≤ 16 ∧ (∀ m, B.length < m + 1 → m < l → ¬ (0 < cnt c m ∧ num B * 2 ^ (m + 1 - B.length) < fcq (cnt c) m + cnt c m ∧ fcq (cnt c) m ≤ num B * 2 ^ (m + 1 - B.length) + (2 ^ (m + 1 - B.length) - 1))) ∧ H = H') (fun x _ => 17 - x.toNat) ⟨B.length, by rw [w64 (by omega)]; omega, Nat.le_refl _, by omega, fun m h1 h2 => by omega, rfl⟩ ?_
  rintro _ _ ⟨l, rfl, hl, hl16, hall, rfl⟩ rec hrec
  by_cases h16 : l < 16
  rotate_left
  · refine ite_f (decf (by omega)) (h false ⟨fun e => (by cases e), fun e => ?_⟩)
    obtain ⟨m, g1, g2, g3, g4, g5⟩ := (opn_iff hm.fit hno).1 e
    exact absurd ⟨g3, g4, g5⟩ (hall m g2 (by omega))
  obtain ⟨r1, r2, r3⟩ := h2.rows l h16
  have e1 : IntKind.wrap .i64 (((l + 1 : Nat) : Int) - (B.length : Int)) = ((l + 1 - B.length : Nat) : Int) := by rw [w64 (by omega)]; omega
  have hfit := hm.fit l h16
  have hp1 := pow_lt (show l + 1 ≤ 16 by omega)
  have p16 : (2 : Nat) ^ 16 = 65536 := rfl
  have hp2 := pow_lt (show l + 1 - B.length ≤ 16 by omega)
  have hlow : num B * 2 ^ (l + 1 - B.length) + 2 ^ (l + 1 - B.length) ≤ 2 ^ (l + 1) := by
    have := Nat.mul_le_mul_right (2 ^ (l + 1 - B.length)) (show num B + 1 ≤ 2 ^ B.length by omega)
    rw [← Nat.pow_add, show B.length + (l + 1 - B.length) = l + 1 from by omega, Nat.add_mul] at this
    omega
  have hpos : 0 < 2 ^ (l + 1 - B.length) := Nat.pow_pos (by omega)
  have e2 : shlI .i64 (num B : Int) ((l + 1 - B.length : Nat) : Int) = ((num B * 2 ^ (l + 1 - B.length) : Nat) : Int) := shln (k := .i64) (by show _ ≤ 64; omega) (w64n (by omega))
  have e3 : IntKind.wrap .i64 (shlI .i64 1 ((l + 1 - B.length : Nat) : Int) - 1) = ((2 ^ (l + 1 - B.length) - 1 : Nat) : Int) := by
    have := shln (k := .i64) (x := 1) (n := l + 1 - B.length) (by show _ ≤ 64; omega) (w64n (by omega))
    rw [show ((1 : Nat) : Int) = (1 : Int) from rfl] at this
    rw [this, Nat.one_mul, show ((2 ^ (l + 1 - B.length) : Nat) : Int) - 1 = ((2 ^ (l + 1 - B.length) - 1 : Nat) : Int) from by omega, w64n (by omega)]
  have hor : num B * 2 ^ (l + 1 - B.length) ||| (2 ^ (l + 1 - B.length) - 1) = num B * 2 ^ (l + 1 - B.length) + (2 ^ (l + 1 - B.length) - 1) := by
    rw [Nat.mul_comm]
    exact (Nat.two_pow_add_eq_or_of_lt (by omega) _).symm
  have e4 : Go.bits .or .i64 ((num B * 2 ^ (l + 1 - B.length) : Nat) : Int) ((2 ^ (l + 1 - B.length) - 1 : Nat) : Int) = ((num B * 2 ^ (l + 1 - B.length) + (2 ^ (l + 1 - B.length) - 1) : Nat) : Int) := by
    have p64 : (2 : Nat) ^ 64 = 18446744073709551616 := rfl
    rw [gor (k := .i64) (by show _ < 2 ^ 64; omega) (by show _ < 2 ^ 64; omega) (by rw [hor]; exact w64n (by omega)), hor]
  rw [e1, e2, e3, e4]
  refine ite_t (dect (by omega)) ⟨by omega, by omega, Lt.of ?_⟩
  refine Join.intro (fun b H' => (b = true ↔ (0 < cnt c l ∧ num B * 2 ^ (l + 1 - B.length) < fcq (cnt c) l + cnt c l ∧ fcq (cnt c) l ≤ num B * 2 ^ (l + 1 - B.length) + (2 ^ (l + 1 - B.length) - 1))) ∧ H = H') ?_ fun J hJ => ?_
  · rintro b _ ⟨hb, rfl⟩
    cases b with
    | true =>
      obtain ⟨g3, g4, g5⟩ := hb.1 rfl
      exact ite_t rfl (h true ⟨fun _ => (opn_iff hm.fit hno).2 ⟨l, h16, by omega, g3, g4, g5⟩, fun _ => rfl⟩)
    | false =>
      refine ite_f rfl ?_
      rw [show ((l + 1 : Nat) : Int) + 1 = ((l + 1 + 1 : Nat) : Int) from by omega, w64n (by omega)]
      refine hrec _ _ ⟨l + 1, rfl, by omega, by omega, fun m g1 g2 g => ?_, rfl⟩ (by simp; omega)
      rcases Nat.lt_or_ge m l with h3 | h3
      · exact hall m g1 h3 g
      · obtain rfl : m = l := by omega
        have := hb.2 g
        cases this
  · refine ⟨_, rfl, by omega, by omega, ?_⟩
    rw [add_mk, add_mk, add_mk, add_mk, Int.toNat_natCast, show 0 + 529 + (l + 1) * 1 = 529 + (l + 1) from by omega, show 0 + 512 + (l + 1) * 1 = 512 + (l + 1) from by omega]
    refine ldI_i h1 r2 ?_
    by_cases g3 : 0 < cnt c l
    rotate_left
    · exact ite_f (decf (by omega)) (hJ _ _ ⟨⟨fun e => (by cases e), fun e => absurd e.1 g3⟩, rfl⟩)
    refine ite_t (dect (by omega)) ⟨by omega, by omega, by omega, by omega, ldI_i h1 r1 (ldI_i h1 r2 ?_)⟩
    rw [show (fcq (cnt c) l : Int) + (cnt c l : Int) = ((fcq (cnt c) l + cnt c l : Nat) : Int) from by omega, w64n (by omega)]
    by_cases g4 : num B * 2 ^ (l + 1 - B.length) < fcq (cnt c) l + cnt c l
    rotate_left
    · exact ite_f (decf (by omega)) (hJ _ _ ⟨⟨fun e => (by cases e), fun e => absurd e.2.1 g4⟩, rfl⟩)
    refine ite_t (dect (by omega)) ⟨by omega, by omega, ldI_i h1 r1 (hJ _ _ ⟨?_, rfl⟩)⟩
    rw [decide_eq_true_iff]
    exact ⟨fun g => ⟨g3, g4, by omega⟩, fun g => by have := g.2.2; omega⟩
theorem Read_ok4 {t k e u : Nat} {s : Sl} {l : List (Bool × Nat)} {Q : Int × Int → Hp → Prop} (T : Tab H t s c vs) (hm : May4 c vs) (S : Src H k l e u) (hk : k ∉ t :: fp s)
    (h : ∀ H', Src H' k (l.drop (rd4 c vs (bts l)).2.2) e (u + (rd4 c vs (bts l)).2.2) → Ch [k] H H' → Q (((rd4 c vs (bts l)).1 : Int), ((rd4 c vs (bts l)).2.1 : Int)) H') : huff_Table_Read.s (some ⟨t, 0, none⟩) (some ⟨k, 0, none⟩) H Q := by
  unfold huff_Table_Read.s
  refine ite_f rfl (Peek_ok S (by omega) fun _ _ H2 k2 => ?_)
  have S2 := S.keep k2
  have T2 := T.keep k2
  have T2' := T2
  obtain ⟨⟨cs, h1, h2⟩, ho, hne⟩ := T2'
  refine Left_ok S2 ?_
  have hBl := bts_len l
  have e0 : (if (16 : Int) < (l.length : Int) then (16 : Int) else (l.length : Int)) = ((bts l).length : Int) := by
    rw [hBl]; split <;> omega
  rw [e0, show (16 : Int).toNat = 16 from rfl]
  have hx := ext_lt l 16
  have p16 : (2 : Nat) ^ 16 = 65536 := rfl
  have hshr : ∀ n, n ≤ 16 → n ≤ l.length → num (ext l 16) / 2 ^ (16 - n) = num ((bts l).take n) := fun n g1 g2 => by
    have := num_shr (l := ext l 16) (n := n) (by rw [ext_len]; exact g1)
    rw [ext_len] at this
    rw [this, ext_take' l g1, ext_bts g2 g1]
  refine Fix.intro (fun (x : Int) H' => ∃ i : Nat, x = ((i + 1 : Nat) : Int) ∧ i ≤ (bts l).length ∧ (∀ j n v, Hit (cnt c) (bts l) j n v → i < n) ∧ H2 = H') (fun x _ => 17 - x.toNat) ⟨0, rfl, by omega, fun j n v hh => by have := cds_fit hm.fit hh.1; omega, rfl⟩ ?_
  rintro _ _ ⟨i, rfl, hi, hno, rfl⟩ rec hrec
  by_cases hil : i < (bts l).length
  · have e1 : IntKind.wrap .i64 ((16 : Int) - ((i + 1 : Nat) : Int)) = ((16 - (i + 1) : Nat) : Int) := by rw [w64 (by omega)]; omega
    rw [e1, shrn (k := .i64) (by show _ ≤ 64; omega), hshr (i + 1) (by omega) (by omega)]
    have hnl := num_lt ((bts l).take (i + 1))
    have hnl2 := pow_lt (show ((bts l).take (i + 1)).length ≤ 16 by simp; omega)
    obtain ⟨r1, r2, r3⟩ := h2.rows i (by omega)
    have hfit := hm.fit i (by omega)
    have hp1 := pow_lt (show i + 1 ≤ 16 by omega)
    refine ite_t (dect (by omega)) ⟨by omega, _, rfl, by omega, by omega, ?_⟩
    rw [add_mk, add_mk, add_mk, add_mk, add_mk, add_mk, add_mk, Int.toNat_natCast, show 0 + 529 + (i + 1) * 1 = 529 + (i + 1) from by omega, show 0 + 512 + (i + 1) * 1 = 512 + (i + 1) from by omega, show 0 + 546 + (i + 1) * 1 = 546 + (i + 1) from by omega]
    refine ldI_i h1 r1 ?_
    rw [w64 (x := (num ((bts l).take (i + 1)) : Int) - _) (by omega)]
    refine Join.intro (fun b H' => (b = true ↔ (fcq (cnt c) i ≤ num ((bts l).take (i + 1)) ∧ num ((bts l).take (i + 1)) < fcq (cnt c) i + cnt c i)) ∧ H2 = H') ?_ fun J hJ => ?_
    · rintro b _ ⟨hb, rfl⟩
      cases b with
      | false =>
        refine ite_f rfl ?_
        rw [show ((i + 1 : Nat) : Int) + 1 = ((i + 1 + 1 : Nat) : Int) from by omega, w64n (by omega)]
        refine hrec _ _ ⟨i + 1, rfl, by omega, fun j n v hh => ?_, rfl⟩ (by simp; omega)
        have h3 := hno j n v hh
        rcases Nat.lt_or_ge (i + 1) n with h4 | h4
        · exact h4
        · exfalso
          obtain ⟨l', k', g1, g2, g3, g4, g5, g6⟩ := hit_num hm.fit hh
          obtain rfl : l' = i := by omega
          subst g3
          have := hb.2 (by omega)
          cases this
      | true =>
        obtain ⟨g1, g2⟩ := hb.1 rfl
        have hh := hit_at (q := cnt c) (B := bts l) (l := i) (k := num ((bts l).take (i + 1)) - fcq (cnt c) i) (by omega) (by omega) (by omega) (by omega)
        obtain ⟨x, hx⟩ := hit_val hm hh
        have er := rd4_hit hm hh hx
        rw [er] at h
        have hxl := (List.getElem?_eq_some_iff.1 hx).1
        refine ite_t rfl (Skip_ok S2 (by omega) fun _ _ H23 S23 s23 => ?_)
        have hk' : t ≠ k := fun e => hk (by simp [e])
        have hk2 : ∀ b ∈ fp s, b ∉ [k] := fun b hb => by simp; exact fun e => hk (by simp [← e, hb])
        have o23 := (ho.ch s23.ch hk2).view cB_len (by omega)
        obtain ⟨b, o, ha, hA⟩ := o23.get hx
        have hn := o23.n
        have hmost := hm.most
        refine ldL_i (h1.same s23 hk') h2.vals ⟨by omega, by omega, ldI_i (h1.same s23 hk') r3 ?_⟩
        rw [show (plq (cnt c) i : Int) + ((num ((bts l).take (i + 1)) : Int) - (fcq (cnt c) i : Int)) = ((plq (cnt c) i + (num ((bts l).take (i + 1)) - fcq (cnt c) i) : Nat) : Int) from by omega, w64n (by omega)]
        refine ⟨by omega, by omega, _, ha, ?_⟩
        rw [Int.toNat_natCast]
        refine ldI_of0 hA rfl (h H23 ?_ ((k2.ch (F := [k])).trans s23.ch (by simp)))
        exact S23
    · by_cases g1 : fcq (cnt c) i ≤ num ((bts l).take (i + 1))
      · refine ite_t (dect (by omega)) ⟨by omega, by omega, ldI_i h1 r2 (hJ _ _ ⟨?_, rfl⟩)⟩
        rw [decide_eq_true_iff]
        exact ⟨fun g => ⟨g1, by omega⟩, fun g => by have := g.2; omega⟩
      · exact ite_f (decf (by omega)) (hJ _ _ ⟨⟨fun e => (by cases e), fun e => absurd e.1 g1⟩, rfl⟩)
  · obtain rfl : i = (bts l).length := by omega
    refine ite_f (decf (by omega)) ?_
    have hno' : ∀ j n v, ¬ Hit (cnt c) (bts l) j n v := fun j n v hh => by
      have := hno j n v hh
      have := hh.2.1
      omega
    refine Join.intro (fun b H' => (b = true ↔ ((bts l).length < 16 ∧ Opn (cnt c) (bts l))) ∧ H2 = H') ?_ fun J hJ => ?_
    · rintro b _ ⟨hb, rfl⟩
      cases b with
      | true =>
        have er := rd4_open (vs := vs) hno' (hb.1 rfl)
        rw [er] at h
        exact ite_t rfl (h _ (by simpa using S2) (k2.ch))
      | false =>
        have er := rd4_none (vs := vs) hno' (fun e => by have := hb.2 e; cases this)
        rw [er] at h
        exact ite_f rfl (h _ (by simpa using S2) (k2.ch))
    · by_cases h16 : (bts l).length < 16
      · have e1 : IntKind.wrap .i64 ((16 : Int) - ((bts l).length : Int)) = ((16 - (bts l).length : Nat) : Int) := by rw [w64 (by omega)]; omega
        rw [e1, shrn (k := .i64) (by show _ ≤ 64; omega), hshr _ (by omega) (by omega), List.take_of_length_le (Nat.le_refl _)]
        refine ite_t (dect (by omega)) ⟨by omega, begins_ok4 T2 hm hno' h16 fun b hb => hJ _ _ ⟨?_, rfl⟩⟩
        rw [hb]
        exact ⟨fun g => ⟨h16, g⟩, fun g => g.2⟩
      · exact ite_f (decf (by omega)) (hJ _ _ ⟨⟨fun e => (by cases e), fun e => absurd e.1 h16⟩, rfl⟩)
end
end Go.Proofs.Ytbefacccdaafeaa.G
