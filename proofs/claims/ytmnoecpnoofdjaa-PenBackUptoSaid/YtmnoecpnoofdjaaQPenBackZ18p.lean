/- Of this text what the row needs. -/
import Derived.Test.YtmnoecpnoofdjaaQPenBackZ18e
namespace Go.Proofs.Ytmnoecpnoofdjaa.G
open Go.RowKit
set_option linter.unusedVariables false
set_option linter.unusedSimpArgs false
section
variable {j : Jb} {cs : List Cp} {ps : List Pa} {TV : Nat → List Nat}
theorem bits_mk {p : Nat} {D A : TB} (hT : jT j TV ps p = (D, A)) : ∀ l : List Sy, bitsM j TV ps (mkL p l) = encS D A l
 | [] => rfl
 | x :: r => by
  have h1 : tbM j TV ps (p, true, x) = D := by unfold tbM; rw [if_pos rfl, hT]
  have h2 : ∀ y, tbM j TV ps (p, false, y) = A := fun y => by unfold tbM; rw [if_neg (by simp), hT]
  have h3 : ∀ l : List Sy, bitsM j TV ps (l.map fun y => (p, false, y)) = l.flatMap (oneS A) := fun l => by
   induction l with
   | nil => rfl
   | cons y l ih =>
    show oneS (tbM j TV ps (p, false, y)) y ++ bitsM j TV ps (l.map fun y => (p, false, y)) = _
    rw [h2, ih, List.flatMap_cons]
  show oneS (tbM j TV ps (p, true, x)) x ++ bitsM j TV ps (r.map fun y => (p, false, y)) = _
  rw [h1, h3, encS]
theorem has_mk {p : Nat} {D A : TB} (hT : jT j TV ps p = (D, A)) {l : List Sy} (h : ∀ m ∈ mkL p l, hasM j TV ps m) : Has D A l := by
 cases l with
 | nil => trivial
 | cons x r =>
  have h1 := h (p, true, x) (by simp [mkL])
  unfold hasM tbM at h1
  rw [if_pos rfl, hT] at h1
  refine ⟨h1, fun y hy => ?_⟩
  have h2 := h (p, false, y) (by simp only [mkL, List.mem_cons, List.mem_map]; exact .inr ⟨y, hy, rfl⟩)
  unfold hasM tbM at h2
  rw [if_neg (by simp), hT] at h2
  exact h2
theorem mrk_wr (hTok : ∀ q, q < ps.length → TbOk (jT j TV ps q).1 ∧ TbOk (jT j TV ps q).2) : ∀ (PB : List (Nat × List Int)) (P : List Int) (L : List Nat) (lk : List Bool) (XS : List (List Int)), Wr j cs ps TV L lk P XS → P.length = ps.length → (∀ x ∈ PB, x.2.length = 64 ∧ x.1 < ps.length) →
  (mrk P PB).2 = 0 → (∀ m ∈ (mrk P PB).1, hasM j TV ps m) → ∃ P', Wr j cs ps TV (L ++ PB.map (·.1)) (lk ++ bitsM j TV ps (mrk P PB).1) P' (XS ++ PB.map (·.2))
 | [], P, L, lk, XS, hw, _, _, _, _ => ⟨P, by simpa [mrk, bitsM] using hw⟩
 | x :: r, P, L, lk, XS, hw, hl, hx, he, hm => by
  obtain ⟨hB, hp⟩ := hx x (by simp)
  rw [mrk] at he hm ⊢
  by_cases hz : sE x.2 (P.getD x.1 0) ≠ 0
  ·rw [if_pos hz] at he; exact absurd he hz
  rw [if_neg hz] at he hm ⊢
  obtain ⟨hmy, hd⟩ := se_no hz
  obtain ⟨t1, t2⟩ := hTok x.1 hp
  have hT : jT j TV ps x.1 = ((jT j TV ps x.1).1, (jT j TV ps x.1).2) := rfl
  have hst := Wr.step hw hp (by omega) hT t1 t2 hB hmy hd (has_mk hT fun m hmm => hm m (List.mem_append_left _ hmm))
  obtain ⟨P', h'⟩ := mrk_wr hTok r (P.set x.1 (x.2.getD 0 0)) (L ++ [x.1]) _ (XS ++ [x.2]) hst (by rw [List.length_set]; exact hl) (fun y hy => hx y (by simp [hy])) he fun m hmm => hm m (List.mem_append_right _ hmm)
  refine ⟨P', ?_⟩
  have hb : bitsM j TV ps (mkL x.1 (syF x.2 (P.getD x.1 0)) ++ (mrk (P.set x.1 (x.2.getD 0 0)) r).1) = encS (jT j TV ps x.1).1 (jT j TV ps x.1).2 (syF x.2 (P.getD x.1 0)) ++ bitsM j TV ps (mrk (P.set x.1 (x.2.getD 0 0)) r).1 := by
   rw [← bits_mk hT]
   unfold bitsM
   rw [List.flatMap_append]
  rw [hb, List.map_cons, List.map_cons, ← List.append_assoc]
  simpa [List.append_assoc] using h'
end
end Go.Proofs.Ytmnoecpnoofdjaa.G
