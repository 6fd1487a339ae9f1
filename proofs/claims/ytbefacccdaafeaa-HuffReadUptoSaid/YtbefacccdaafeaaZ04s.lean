/- Layer 4: a code is read by the document. -/
import Derived.Test.YtbefacccdaafeaaZ04r
namespace Go.Proofs.Ytbefacccdaafeaa.G
open Go.RowKit
set_option linter.unusedVariables false
set_option linter.unusedSimpArgs false
set_option maxRecDepth 20000

theorem begins_ok {a b : List Bool} {H : Hp} {Q : Bool → Hp → Prop} (h : Q (decide (a.length ≤ b.length ∧ b.take a.length = a)) H) : mosaicref04_begins.s (tx a) (tx b) H Q := by
  unfold mosaicref04_begins.s
  rw [tx_size, tx_size]
  by_cases h1 : a.length ≤ b.length
  · refine ite_t (dect (by omega)) ⟨by omega, by omega, ?_⟩
    rw [Int.toNat_natCast, tx_take, tx_eq]
    have e : decide (b.take a.length = a) = decide (a.length ≤ b.length ∧ b.take a.length = a) := by simp [h1]
    rw [e]
    exact h
  · refine ite_f (decf (by omega)) ?_
    rw [decf fun x => h1 x.1] at h
    exact h
theorem rRead_ok4 {r d e u : Nat} {sv sc s : Sl} {c : Cn} {vs : List Nat} {l : List (Bool × Nat)} {H : Hp} {Q : Int × Int → Hp → Prop} (R : Rtb H r sv sc c vs) (hm : May4 c vs) (S : Rsc H d s l e u) (hd : d ∉ r :: (fp sv ++ fp sc)) (hll : l.length ≤ 140737488355328)
    (h : ∀ s' H', Rsc H' d s' (l.drop (rd4 c vs (bts l)).2.2) e (u + (rd4 c vs (bts l)).2.2) → Ch [d] H H' → (∀ b ∈ fp s', b ∈ fp s) → Q (((rd4 c vs (bts l)).1 : Int), ((rd4 c vs (bts l)).2.1 : Int)) H') :
    mosaicref04_Table_Read.s (some ⟨r, 0, none⟩) (some ⟨d, 0, none⟩) H Q := by
  unfold mosaicref04_Table_Read.s
  have hB := bts_len l
  have hcv := R.oc.view cW_len (by omega)
  have hcn := hcv.n
  have hcl : (cds (cnt c) 16).length = vs.length := by rw [cds_len, hm.len]
  have hmost := hm.most
  have hsn := S.v.n
  refine ite_f rfl (Fix.intro (fun (x : ByteArray × Int) H' => ∃ i : Nat, x = (tx ((bts l).take i), (i : Int)) ∧ i ≤ (bts l).length ∧ H = H') (fun x _ => (bts l).length - x.2.toNat) ⟨0, rfl, by omega, rfl⟩ ?_)
  rintro _ _ ⟨i, rfl, hi, rfl⟩ rec hrec
  simp only
  refine Join.intro (fun b H' => b = decide (i < (bts l).length) ∧ H = H') ?_ fun J hJ => ?_
  rotate_left
  · refine ⟨_, rfl, ldL_a S.bk rfl ?_⟩
    by_cases h1 : i < l.length
    · refine ite_t (dect (by omega)) (hJ _ _ ⟨?_, rfl⟩)
      by_cases h2 : i < 16
      · exact (dect (by omega)).trans (dect (by omega)).symm
      · exact (decf (by omega)).trans (decf (by omega)).symm
    · exact ite_f (decf (by omega)) (hJ _ _ ⟨(decf (by omega)).symm, rfl⟩)
  rintro _ _ ⟨rfl, rfl⟩
  by_cases hil : i < (bts l).length
  · refine ite_t (dect hil) (Join.intro (fun x H' => x = tx ((bts l).take (i + 1)) ∧ H = H') ?_ fun J hJ => ?_)
    · rintro _ _ ⟨rfl, rfl⟩
      rw [show (i : Int) + 1 = ((i + 1 : Nat) : Int) from by omega, w64n (by omega)]
      exact hrec _ _ ⟨i + 1, rfl, by omega, rfl⟩ (by simp; omega)
    · have hx : l[i]? = some (l[i]'(by omega)) := List.getElem?_eq_getElem (by omega)
      generalize l[i]'(by omega) = x at hx
      have hb : (bts l)[i]? = some x.1 := by
        unfold bts
        rw [List.getElem?_take, if_pos (by omega), List.getElem?_map, hx]; rfl
      have et : (bts l).take (i + 1) = (bts l).take i ++ [x.1] := by rw [List.take_add_one, hb]; rfl
      obtain ⟨b, o, ha, hA⟩ := S.v.get hx
      refine ⟨_, rfl, ldL_a S.bk rfl ⟨by omega, by omega, _, ha, ?_⟩⟩
      rw [Int.toNat_natCast]
      refine ⟨x.1, hA.2 0 _ rfl, ?_⟩
      have hts : (tx ((bts l).take i)).size ≤ 16 := by rw [tx_size]; simp; omega
      cases hx1 : x.1 with
      | true =>
        refine ite_t rfl ⟨by rw [tx_1, tx_size (l := [true])]; simp; omega, hJ _ _ ⟨?_, rfl⟩⟩
        rw [tx_1, tx_app, et, hx1]
      | false =>
        refine ite_f rfl ⟨by rw [tx_0, tx_size (l := [false])]; simp; omega, hJ _ _ ⟨?_, rfl⟩⟩
        rw [tx_0, tx_app, et, hx1]
  obtain rfl : i = (bts l).length := by omega
  rw [List.take_of_length_le (Nat.le_refl _)]
  refine ite_f (decf hil) ?_
  clear hrec rec hi hil
  refine Fix.intro (fun (x : Int) H' => ∃ i : Nat, x = (i : Int) ∧ i ≤ vs.length ∧ (∀ j, j < i → ∀ n v, ¬ Hit (cnt c) (bts l) j n v) ∧ H = H') (fun x _ => vs.length - x.toNat) ⟨0, rfl, by omega, fun j hj => by omega, rfl⟩ ?_
  rintro _ _ ⟨i, rfl, hi, hno, rfl⟩ rec hrec
  refine ⟨_, rfl, ldL_a R.bk rfl ?_⟩
  by_cases hil : i < vs.length
  · obtain ⟨⟨n, v⟩, hg⟩ : ∃ x, (cds (cnt c) 16)[i]? = some x := ⟨_, List.getElem?_eq_getElem (by omega)⟩
    obtain ⟨b, o, ha, hA⟩ := hcv.get hg
    have hA0 := hA.2 0 _ rfl
    rw [Addr.add, if_pos rfl] at hA0
    refine ite_t (dect (by omega)) (ldL_a R.bk rfl ⟨by omega, by omega, _, ha, ?_⟩)
    rw [Int.toNat_natCast]
    refine ⟨tx (bl n v), hA0, begins_ok ?_⟩
    rw [bl_len]
    by_cases hh : n ≤ (bts l).length ∧ (bts l).take n = bl n v
    · have hit : Hit (cnt c) (bts l) i n v := ⟨hg, hh⟩
      obtain ⟨x, hx⟩ := hit_val hm hit
      have er := rd4_hit hm hit hx
      rw [er] at h
      refine ite_t (dect hh) (ldL_a R.bk rfl ⟨by omega, by omega, _, ha, tx (bl n v), hA0, ?_⟩)
      show mosaicref01_Source_Skip.s _ ((tx (bl n v)).size : Int) H _
      rw [tx_size, bl_len]
      refine rSkip_x S fun s' H54 S54 s54 f54 => ?_
      have etk : tk l (n : Int) = n := by unfold tk; rw [if_pos (by omega)]; omega
      rw [etk] at S54
      have R54 := R.ch s54.ch fun b hb => by simp; exact fun e => hd (e ▸ hb)
      have hvv := R54.ov.view cB_len (by omega)
      have hvn := hvv.n
      obtain ⟨b2, o2, ha2, hA2⟩ := hvv.get hx
      refine ldL_a R54.bk rfl ⟨by omega, by omega, _, ha2, ?_⟩
      exact ldI_of0 hA2 rfl (h s' H54 S54 s54.ch f54)
    · refine ite_f (decf hh) ?_
      rw [show (i : Int) + 1 = ((i + 1 : Nat) : Int) from by omega, w64n (by omega)]
      refine hrec _ _ ⟨i + 1, rfl, by omega, fun j hj n' v' hit => ?_, rfl⟩ (by simp; omega)
      rcases Nat.lt_or_ge j i with g | g
      · exact hno j g n' v' hit
      · obtain rfl : j = i := by omega
        have := hit.1.symm.trans hg
        simp at this
        obtain ⟨rfl, rfl⟩ := this
        exact hh hit.2
  have hno' : ∀ j n v, ¬ Hit (cnt c) (bts l) j n v := fun j n v hit => by
    have := (List.getElem?_eq_some_iff.1 hit.1).1
    exact hno j (by omega) n v hit
  refine ite_f (decf (by omega)) ?_
  clear hrec rec hi hil hno
  refine Fix.intro (fun (x : Int) H' => ∃ i : Nat, x = (i : Int) ∧ i ≤ vs.length ∧ (∀ j, j < i → ∀ n v, (cds (cnt c) 16)[j]? = some (n, v) → ¬ ((bts l).length < 16 ∧ (bts l).length ≤ n ∧ (bl n v).take (bts l).length = bts l)) ∧ H = H') (fun x _ => vs.length - x.toNat) ⟨0, rfl, by omega, fun j hj => by omega, rfl⟩ ?_
  rintro _ _ ⟨i, rfl, hi, hno, rfl⟩ rec hrec
  refine ldL_a R.bk rfl ?_
  by_cases hil : i < vs.length
  · obtain ⟨⟨n, v⟩, hg⟩ : ∃ x, (cds (cnt c) 16)[i]? = some x := ⟨_, List.getElem?_eq_getElem (by omega)⟩
    obtain ⟨b, o, ha, hA⟩ := hcv.get hg
    have hA0 := hA.2 0 _ rfl
    rw [Addr.add, if_pos rfl] at hA0
    refine ite_t (dect (by omega)) (Join.intro (fun b H' => b = decide ((bts l).length < 16 ∧ (bts l).length ≤ n ∧ (bl n v).take (bts l).length = bts l) ∧ H = H') ?_ fun J hJ => ?_)
    · rintro _ _ ⟨rfl, rfl⟩
      by_cases hh : (bts l).length < 16 ∧ (bts l).length ≤ n ∧ (bl n v).take (bts l).length = bts l
      · have er := rd4_open (vs := vs) hno' ⟨hh.1, i, n, v, hg, hh.2⟩
        rw [er] at h
        exact ite_t (dect hh) (h s H (by simpa using S) (Ch.refl _ _) fun b hb => hb)
      · refine ite_f (decf hh) ?_
        rw [show (i : Int) + 1 = ((i + 1 : Nat) : Int) from by omega, w64n (by omega)]
        refine hrec _ _ ⟨i + 1, rfl, by omega, fun j hj n' v' hg' => ?_, rfl⟩ (by simp; omega)
        rcases Nat.lt_or_ge j i with g | g
        · exact hno j g n' v' hg'
        · obtain rfl : j = i := by omega
          have := hg'.symm.trans hg
          simp at this
          obtain ⟨rfl, rfl⟩ := this
          exact hh
    · rw [tx_size]
      by_cases h16 : (bts l).length < 16
      · refine ite_t (dect (by omega)) (ldL_a R.bk rfl ⟨by omega, by omega, _, ha, ?_⟩)
        rw [Int.toNat_natCast]
        refine ⟨tx (bl n v), hA0, begins_ok (hJ _ _ ⟨?_, rfl⟩)⟩
        rw [bl_len]
        simp [h16]
      · exact ite_f (decf (by omega)) (hJ _ _ ⟨(decf fun x => h16 x.1).symm, rfl⟩)
  · have er := rd4_none (vs := vs) hno' fun hh => by
      obtain ⟨g1, j, n, v, g2, g3⟩ := hh
      have := (List.getElem?_eq_some_iff.1 g2).1
      exact hno j (by omega) n v g2 ⟨g1, g3⟩
    rw [er] at h
    exact ite_f (decf (by omega)) (h s H (by simpa using S) (Ch.refl _ _) fun b hb => hb)
end Go.Proofs.Ytbefacccdaafeaa.G
