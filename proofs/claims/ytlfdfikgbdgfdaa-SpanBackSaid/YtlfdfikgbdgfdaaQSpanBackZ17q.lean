/- Of this text what the row needs. -/
import Derived.Test.YtlfdfikgbdgfdaaQSpanBackZ17n
import Derived.Test.YtlfdfikgbdgfdaaQSpanBackZ17v
namespace Go.Proofs.Ytlfdfikgbdgfdaa.G
open Go.RowKit
set_option linter.unusedVariables false
set_option linter.unusedSimpArgs false
theorem padd_lt {l : List (Bool × Nat)} (h : padd l = true) : l.length < 8 := by
  unfold padd at h
  rw [Bool.and_eq_true] at h
  exact of_decide_eq_true h.1
section
variable {H : Hp} {j : Jb} {cs : List Cp} {ps : List Pa} {TV : Nat → List Nat}
theorem rdE_all : ∀ {ps : List Pa}, rdE j TV ps = 0 → ∀ p ∈ ps, Chk4 (tbl j TV p.dc.toNat).1 (tbl j TV p.dc.toNat).2 = 0 ∧ Chk4 (tbl j TV (4 + p.ac.toNat)).1 (tbl j TV (4 + p.ac.toNat)).2 = 0
  | [], _, p, hp => by cases hp
  | q :: r, h, p, hp => by
    rw [rdE] at h
    split at h
    · rename_i hh; exact absurd h hh
    split at h
    · rename_i hh; exact absurd h hh
    · rename_i h1 h2
      rcases List.mem_cons.1 hp with rfl | hp
      · exact ⟨by omega, by omega⟩
      · exact rdE_all h p hp
theorem jT_ok (J : JV H j cs ps TV) (h : jChk j cs ps TV = 0) {q : Nat} (hq : q < ps.length) : TbOk (jT j TV ps q).1 ∧ TbOk (jT j TV ps q).2 := by
  obtain ⟨hP, hE, _⟩ := jchk_no h
  obtain ⟨p, hp⟩ : ∃ p, ps[q]? = some p := ⟨_, get_some hq⟩
  obtain ⟨_, _, ⟨x, hx⟩, ⟨y, hy⟩⟩ := part_tabs hP J hp
  obtain ⟨c1, c2⟩ := rdE_all hE p (List.mem_of_getElem? hp)
  rw [jT_at hp]
  exact ⟨⟨may4 c1, (J.sp _ x hx).2.1⟩, ⟨may4 c2, (J.sp _ y hy).2.1⟩⟩
theorem jRd_n (B : List Bool) (n : Nat) : (jRd j cs ps TV B n).2 ≤ n ∧ ((jRd j cs ps TV B n).1.st = 0 ↔ (jRd j cs ps TV B n).2 = n) := rdU_n _ _ rfl n
theorem ints_inj {n : Nat} : ∀ {a b : List (Ints n)}, a.map (·.1) = b.map (·.1) → a = b
  | [], [], _ => rfl
  | [], y :: b, h => by simp at h
  | x :: a, [], h => by simp at h
  | x :: a, y :: b, h => by
    simp only [List.map_cons, List.cons.injEq] at h
    rw [ints_inj h.2, Subtype.ext h.1]
theorem large17_ok {Q : Bool → Hp → Prop} (h : ∀ H', Keep H H' → Q (decide ((3000 : Int) < j.u)) H') : mosaiclaw17_large.s j.g j.w j.h j.s j.t j.d0.1 j.d0.2 j.d1.1 j.d1.2 j.d2.1 j.d2.2 j.d3.1 j.d3.2 j.a0.1 j.a0.2 j.a1.1 j.a1.2 j.a2.1 j.a2.2 j.a3.1 j.a3.2 j.f j.u H Q := by
  unfold mosaiclaw17_large.s
  intro b1 H2 c2 g1 g1'
  exact h H2 (c2.keep (by simp))
end
end Go.Proofs.Ytlfdfikgbdgfdaa.G
