/- Layer 4: Check and Room, of the program and of the document. -/
import Derived.Test.YtbefacccdaafeaaZ04
namespace Go.Proofs.Ytbefacccdaafeaa.G
open Go.RowKit
set_option linter.unusedVariables false
set_option linter.unusedSimpArgs false

theorem zB_get {n : Nat} : ∀ v, v < n → (bools (zBools n).1)[v]? = some (.bool (decide (v ∈ ([] : List Nat)))) := fun v hv => by
  unfold bools zBools
  rw [List.getElem?_map, List.getElem?_replicate, if_pos hv]
  simp
theorem nodup_snoc {l : List Nat} {x : Nat} : (l ++ [x]).Nodup ↔ l.Nodup ∧ x ∉ l := by
  rw [List.nodup_append]
  constructor
  · rintro ⟨h1, _, h3⟩
    exact ⟨h1, fun hx => h3 x hx x (by simp) rfl⟩
  · rintro ⟨h1, h2⟩
    exact ⟨h1, by simp, fun a ha b hb => by simp at hb; subst hb; exact fun e => h2 (e ▸ ha)⟩
theorem take_snoc {α : Type} {l : List α} {i : Nat} (h : i < l.length) : l.take (i + 1) = l.take i ++ [l[i]] := by
  rw [List.take_add_one, List.getElem?_eq_getElem h]; rfl
theorem nodup_take {l : List Nat} (i : Nat) (h : l.Nodup) : (l.take i).Nodup := h.sublist (List.take_sublist i l)
section
variable {c : Cn} {s : Sl} {vs : List Nat} {H : Hp}
theorem Check_ok {Q : Int → Hp → Prop} (hc : cOk c) (hs : SlV H s 1 cB vs) (hv : ∀ v ∈ vs, v < 256) (hl : vs.length ≤ 140737488355328) (h : ∀ H', Keep H H' → Q (Chk4 c vs) H') : huff_Check.s c s H Q := by
  unfold huff_Check.s
  intro b1 H2 c2 g1 g2
  have k2 : Keep H H2 := c2.keep (by simp)
  refine weight_ok hc fun H4 k4 => ⟨Pv.keep k4 (by simpa using g2), ?_⟩
  have k24 := k2.trans k4
  have hn := hs.n
  have y24 := k24.size
  refine Join.intro (fun b H' => b = decide (wN c 16 = 0 ∨ 256 < wN c 16 ∨ wN c 16 ≠ vs.length) ∧ H4 = H') ?_ ?_
  rotate_left
  · intro J hJ
    by_cases h1 : wN c 16 = 0
    · exact ite_t (beqi (by omega)) (hJ _ _ ⟨(dect (.inl h1)).symm, rfl⟩)
    refine ite_f (beqf (by omega)) ?_
    by_cases h2 : 256 < wN c 16
    · exact ite_t (dect (by omega)) (hJ _ _ ⟨(dect (.inr (.inl h2))).symm, rfl⟩)
    refine ite_f (decf (by omega)) (hJ _ _ ⟨?_, rfl⟩)
    by_cases h3 : wN c 16 = vs.length
    · rw [decf (by omega)]; exact bnei (by omega)
    · rw [dect (by omega)]; exact bnet (by omega)
  rintro _ _ ⟨rfl, rfl⟩
  unfold Chk4 at h
  by_cases h1 : wN c 16 = 0 ∨ 256 < wN c 16 ∨ wN c 16 ≠ vs.length
  · rw [if_pos h1] at h
    exact ite_t (dect h1) (h _ k24)
  rw [if_neg h1] at h
  refine ite_f (decf h1) ?_
  by_cases h2 : 65535 < wS c 16
  · rw [if_pos h2] at h
    exact ite_t (dect (by omega)) (h _ k24)
  rw [if_neg h2] at h
  refine ite_f (decf (by omega)) ?_
  intro b9 H10 c10 g9 g9' hbk
  have k10 := k24.trans (c10.keep (by simp))
  refine Fix.intro (fun (x : Int) H' => ∃ (i : Nat) (cs : List Value), x = (i : Int) ∧ i ≤ vs.length ∧ Bk H' b9 73 cs ∧ cs.length = 256 ∧ (∀ v, v < 256 → cs[v]? = some (.bool (decide (v ∈ vs.take i)))) ∧ (vs.take i).Nodup ∧ Keep H H') (fun x _ => vs.length - x.toNat)
    ⟨0, _, rfl, by omega, hbk, len73 _, fun v hv => zB_get v hv, by simp, k10⟩ ?_
  rintro _ H14 ⟨i, cs, rfl, hi, b14, hcs, hsee, hnd, k14⟩ rec hrec
  by_cases hil : i < vs.length
  · obtain ⟨b, o, ha, hA⟩ := (hs.keep k14).get (List.getElem?_eq_getElem hil)
    have hx := hv _ (List.getElem_mem hil)
    refine ite_t (dect (by omega)) ⟨by omega, by omega, _, ha, ldI_of0 hA rfl ⟨by omega, by omega, ?_⟩⟩
    rw [Int.toNat_natCast, Nat.mul_one]
    refine ldB_a b14 (hsee _ hx) ?_
    by_cases hm : vs[i] ∈ vs.take i
    · refine ite_t (dect hm) ?_
      have : ¬ vs.Nodup := fun hnd' => by
        have := nodup_take (i + 1) hnd'
        rw [take_snoc hil] at this
        exact (nodup_snoc.1 this).2 hm
      rw [if_neg this] at h
      exact h _ k14
    · refine ite_f (decf hm) ⟨by omega, by omega, st_a b14 (by omega) fun H29 b29 s29 => ?_⟩
      rw [show (i : Int) + 1 = ((i + 1 : Nat) : Int) from by omega, w64n (by omega)]
      refine hrec _ _ ⟨i + 1, _, rfl, by omega, b29, by simp [hcs], fun v hv' => ?_, ?_, k14.same s29 (by omega)⟩ (by simp; omega)
      · rw [List.getElem?_set]
        by_cases e : vs[i] = v
        · rw [if_pos e, if_pos (by omega), take_snoc hil]
          simp [e]
        · rw [if_neg e, hsee v hv', take_snoc hil]
          have e' : ¬ v = vs[i] := fun h => e h.symm
          have e2 : (v ∈ vs.take i ++ [vs[i]]) ↔ v ∈ vs.take i := by rw [List.mem_append]; simp [e']
          simp only [e2]
      · rw [take_snoc hil]; exact nodup_snoc.2 ⟨hnd, hm⟩
  · rw [List.take_of_length_le (by omega)] at hnd
    rw [if_pos hnd] at h
    exact ite_f (decf (by omega)) (h _ k14)
theorem rCheck_ok {Q : Int → Hp → Prop} (hc : cOk c) (hs : SlV H s 1 cB vs) (hl : vs.length ≤ 140737488355328) (h : ∀ H', Keep H H' → Q (Chk4 c vs) H') : mosaicref04_Check.s c s H Q := by
  unfold mosaicref04_Check.s
  intro b1 H2 c2 g1 g2
  have k2 : Keep H H2 := c2.keep (by simp)
  refine rWeight_ok hc fun H4 k4 => ⟨Pv.keep k4 (by simpa using g2), ?_⟩
  have k24 := k2.trans k4
  have hn := hs.n
  refine Join.intro (fun b H' => b = decide (wN c 16 = 0 ∨ 256 < wN c 16 ∨ wN c 16 ≠ vs.length) ∧ H4 = H') ?_ ?_
  rotate_left
  · intro J hJ
    by_cases h1 : wN c 16 = 0
    · exact ite_t (beqi (by omega)) (hJ _ _ ⟨(dect (.inl h1)).symm, rfl⟩)
    refine ite_f (beqf (by omega)) ?_
    by_cases h2 : 256 < wN c 16
    · exact ite_t (dect (by omega)) (hJ _ _ ⟨(dect (.inr (.inl h2))).symm, rfl⟩)
    refine ite_f (decf (by omega)) (hJ _ _ ⟨?_, rfl⟩)
    by_cases h3 : wN c 16 = vs.length
    · rw [decf (by omega)]; exact bnei (by omega)
    · rw [dect (by omega)]; exact bnet (by omega)
  rintro _ _ ⟨rfl, rfl⟩
  unfold Chk4 at h
  by_cases h1 : wN c 16 = 0 ∨ 256 < wN c 16 ∨ wN c 16 ≠ vs.length
  · rw [if_pos h1] at h
    exact ite_t (dect h1) (h _ k24)
  rw [if_neg h1] at h
  refine ite_f (decf h1) ?_
  by_cases h2 : 65535 < wS c 16
  · rw [if_pos h2] at h
    exact ite_t (dect (by omega)) (h _ k24)
  rw [if_neg h2] at h
  refine ite_f (decf (by omega)) ?_
  have hw : wN c 16 = vs.length := by omega
  rw [hw]
  refine Fix.intro (fun (x : Int) H' => ∃ (i : Nat), x = (i : Int) ∧ i ≤ vs.length ∧ (vs.take i).Nodup ∧ H4 = H') (fun x _ => vs.length - x.toNat) ⟨0, rfl, by omega, by simp, rfl⟩ ?_
  rintro _ _ ⟨i, rfl, hi, hnd, rfl⟩ rec hrec
  by_cases hil : i < vs.length
  · obtain ⟨b, o, ha, hA⟩ := (hs.keep k24).get (List.getElem?_eq_getElem hil)
    refine ite_t (dect (by omega)) ?_
    refine Fix.intro (fun (x : Int) H' => ∃ (k : Nat), x = (k : Int) ∧ k ≤ i ∧ vs[i] ∉ vs.take k ∧ H4 = H') (fun x _ => i - x.toNat) ⟨0, rfl, by omega, by simp, rfl⟩ ?_
    rintro _ _ ⟨k, rfl, hk, hno, rfl⟩ rec2 hrec2
    by_cases hki : k < i
    · have hkl : k < vs.length := by omega
      obtain ⟨b', o', ha', hA'⟩ := (hs.keep k24).get (List.getElem?_eq_getElem hkl)
      rw [ha] at ha'
      obtain ⟨rfl, rfl⟩ : b = b' ∧ o = o' := by injection ha' with h; injection h with h1 h2; exact ⟨h1, h2⟩
      refine ite_t (dect (by omega)) ⟨by omega, by omega, _, ha, ldI_of0 hA' rfl ⟨by omega, by omega, ldI_of0 hA rfl ?_⟩⟩
      by_cases he : vs[k] = vs[i]
      · refine ite_t (beqi (by omega)) ?_
        have : ¬ vs.Nodup := fun hnd' => by
          have h3 := nodup_take (i + 1) hnd'
          rw [take_snoc hil] at h3
          refine (nodup_snoc.1 h3).2 ?_
          rw [← he]
          exact List.mem_take_iff_getElem.2 ⟨k, by omega, rfl⟩
        rw [if_neg this] at h
        exact h _ k24
      · refine ite_f (beqf (by omega)) ?_
        rw [show (k : Int) + 1 = ((k + 1 : Nat) : Int) from by omega, w64n (by omega)]
        refine hrec2 _ _ ⟨k + 1, rfl, by omega, ?_, rfl⟩ (by simp; omega)
        rw [take_snoc hkl, List.mem_append]
        rintro (h3 | h3)
        · exact hno h3
        · simp at h3; exact he h3.symm
    · obtain rfl : k = i := by omega
      refine ite_f (decf (by omega)) ?_
      rw [show (k : Int) + 1 = ((k + 1 : Nat) : Int) from by omega, w64n (by omega)]
      exact hrec _ _ ⟨k + 1, rfl, by omega, by rw [take_snoc hil]; exact nodup_snoc.2 ⟨hnd, hno⟩, rfl⟩ (by simp; omega)
  · rw [List.take_of_length_le (by omega)] at hnd
    rw [if_pos hnd] at h
    exact ite_f (decf (by omega)) (h _ k24)
noncomputable def Room4 (c : Cn) (vs : List Nat) : Int := if Chk4 c vs ≠ 0 then 0 else 65536 - wS c 16
theorem Room_ok {Q : Int → Hp → Prop} (hc : cOk c) (hs : SlV H s 1 cB vs) (hv : ∀ v ∈ vs, v < 256) (hl : vs.length ≤ 140737488355328) (h : ∀ H', Keep H H' → Q (Room4 c vs) H') : huff_Room.s c s H Q := by
  unfold huff_Room.s
  intro b1 H2 c2 g1 g2
  have k2 : Keep H H2 := c2.keep (by simp)
  refine Check_ok hc (hs.keep k2) hv hl fun H4 k4 => ⟨Pv.keep k4 (by simpa using g2), ?_⟩
  unfold Room4 at h
  by_cases h0 : Chk4 c vs = 0
  · rw [if_neg (by simpa using h0)] at h
    have := wS_le hc 16
    refine ite_f (bnei h0) (weight_ok hc fun H7 k7 => ?_)
    rw [w64 (by omega)]
    exact h _ ((k2.trans k4).trans k7)
  · rw [if_pos h0] at h
    exact ite_t (bnet h0) (h _ (k2.trans k4))
theorem rRoom_ok {Q : Int → Hp → Prop} (hc : cOk c) (hs : SlV H s 1 cB vs) (hl : vs.length ≤ 140737488355328) (h : ∀ H', Keep H H' → Q (Room4 c vs) H') : mosaicref04_Room.s c s H Q := by
  unfold mosaicref04_Room.s
  intro b1 H2 c2 g1 g2
  have k2 : Keep H H2 := c2.keep (by simp)
  refine rCheck_ok hc (hs.keep k2) hl fun H4 k4 => ⟨Pv.keep k4 (by simpa using g2), ?_⟩
  unfold Room4 at h
  by_cases h0 : Chk4 c vs = 0
  · rw [if_neg (by simpa using h0)] at h
    have := wS_le hc 16
    refine ite_f (bnei h0) (rWeight_ok hc fun H7 k7 => ?_)
    rw [w64 (by omega)]
    exact h _ ((k2.trans k4).trans k7)
  · rw [if_pos h0] at h
    exact ite_t (bnet h0) (h _ (k2.trans k4))
end
end Go.Proofs.Ytbefacccdaafeaa.G
