/- Of this text what the row needs. -/
import Derived.Test.YtmnoecpnoofdjaaQPenBackZ18g
import Derived.Test.YtmnoecpnoofdjaaQPenBackKPenCost
import Derived.Test.YtmnoecpnoofdjaaQPenBackGT
namespace Go.Proofs.Ytmnoecpnoofdjaa.G
open Go.RowKit
set_option linter.unusedVariables false
set_option linter.unusedSimpArgs false
set_option maxRecDepth 20000
theorem vals_view8 {H : Hp} {s : Sl} (h : SlH H (some 1048576) 1 1 (X5 (some 1048576) H) s) : ∃ vs : List Nat, SlV H s 1 cB vs ∧ (∀ v ∈ vs, v < 256) ∧ vs.length ≤ 140737488351232 := by
 obtain ⟨xs, h1, h2, h3⟩ := h.view (f := cB) (B := fun v => v < 256) fun cs ⟨a, e, hb⟩ => ⟨a.toNat, by rw [e, cB, Int.toNat_of_nonneg hb.1], by omega⟩
 refine ⟨xs, h1, h2, ?_⟩
 have n0 := h1.n
 have c0 := h1.c
 rcases h3 with z | z
 ·omega
 ·have : s.c + 1 ≤ 1048576 := z
  omega
theorem job_view8 {H : Hp} {j : Jb} (hs : SlH H (some 1048576) 4 4 (X100 (some 1048576) H) j.s) (ht : SlH H (some 1048576) 16 3 (X76 (some 1048576) H) j.t)
  (all : ∀ x ∈ j.sp, cOk x.1 ∧ SlH H (some 1048576) 1 1 (X5 (some 1048576) H) x.2)
  (hf : -9223372036854775808 ≤ j.f ∧ j.f ≤ 9223372036854775807) (hu : -9223372036854775808 ≤ j.u ∧ j.u ≤ 9223372036854775807) : ∃ cs ps TV, JV H j cs ps TV := by
 obtain ⟨cs, v0, hok, hl4⟩ := hs.view fun _ => cp_ofv
 obtain ⟨ps, u0, hpk, hm4⟩ := ht.view fun _ => pa_ofv
 have n0 := v0.n
 have c0 := v0.c
 have n1 := u0.n
 have c1 := u0.c
 have hl : cs.length ≤ 1048576 := by
  rcases hl4 with z | z
  ·omega
  ·have : j.s.c + 1 ≤ 1048576 := z
   omega
 have hm : ps.length ≤ 1048576 := by
  rcases hm4 with z | z
  ·omega
  ·have : j.t.c + 1 ≤ 1048576 := z
   omega
 have each : ∀ k : Nat, ∃ vs : List Nat, ∀ x, j.sp[k]? = some x → SlV H x.2 1 cB vs ∧ (∀ v ∈ vs, v < 256) ∧ cOk x.1 ∧ vs.length ≤ 140737488351232 := fun k => by
  cases hx : j.sp[k]? with
  | none => exact ⟨[], fun x h => by cases h⟩
  | some x =>
   obtain ⟨a1, a2⟩ := all x (List.mem_of_getElem? hx)
   obtain ⟨vs, q1, q2, q3⟩ := vals_view8 a2
   exact ⟨vs, fun y h => by injection h with h; subst h; exact ⟨q1, q2, a1, q3⟩⟩
 obtain ⟨TV, hT⟩ := Classical.axiomOfChoice each
 exact ⟨cs, ps, TV, ⟨v0, u0, hok, hpk, by omega, by omega, hT, hf, hu⟩⟩
theorem blocks_view8 {H : Hp} {s : Sl} (h : SlH H (some 1048576) 128 64 (X57 (some 1048576) H) s) : ∃ BL : List (Ints 64), SlV H s 64 cBl BL ∧ (∀ X ∈ BL, ∀ v ∈ X.1, -32768 ≤ v ∧ v ≤ 32767) ∧ BL.length ≤ 1048576 := by
 obtain ⟨xs, h1, h2, h3⟩ := h.view (f := cBl) (B := fun X => ∀ v ∈ X.1, -32768 ≤ v ∧ v ≤ 32767) fun cs ⟨a, e, hb⟩ => ⟨a, e, hb⟩
 refine ⟨xs, h1, h2, ?_⟩
 have n0 := h1.n
 have c0 := h1.c
 rcases h3 with z | z
 ·omega
 ·have : s.c + 1 ≤ 1048576 := z
  omega
def padded8 (l : List Bool) : List Bool := l ++ List.replicate ((8 - l.length % 8) % 8) true
structure Good8 (j : Jb) (cs : List Cp) (ps : List Pa) (TV : Nat → List Nat) (BL : List (Ints 64)) : Prop where
 ck : oChk true j cs ps TV = 0
 ln : (walkL j.w j.h cs ps j.f.toNat j.u.toNat).length = BL.length
 er : (mJ j cs ps BL).2 = 0
section
variable {H : Hp} {j k : Jb} {cs : List Cp} {ps : List Pa} {TV : Nat → List Nat} {a1 : Sl} {BL : List (Ints 64)}
end
end Go.Proofs.Ytmnoecpnoofdjaa.G
