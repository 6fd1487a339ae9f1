/- Of this text what the row needs. -/
import Derived.Test.YtlfdfikgbdgfdaaQSpanBelievedZ17n
import Derived.Test.YtlfdfikgbdgfdaaQSpanBelievedZ17v
namespace Go.Proofs.Ytlfdfikgbdgfdaa.G
open Go.RowKit
set_option linter.unusedVariables false
set_option linter.unusedSimpArgs false
theorem jSt_le {r : Rdg} {l : List (Bool × Nat)} {c : Bool} (h : r.st = 0 ∨ r.st = 2 ∨ r.st = 4) : 1 ≤ jSt r l c ∧ jSt r l c ≤ 4 := by
  unfold jSt
  split
  · omega
  · split <;> omega
theorem jSt_one {r : Rdg} {l : List (Bool × Nat)} {c : Bool} (h : r.st = 0 ∨ r.st = 2 ∨ r.st = 4) (h1 : jSt r l c = 1) : r.st = 0 ∧ padd (l.drop r.t) = true := by
  unfold jSt at h1
  split at h1
  · omega
  · split at h1
    · rename_i q; exact ⟨by omega, q.1⟩
    · cases h1
theorem padd_lt {l : List (Bool × Nat)} (h : padd l = true) : l.length < 8 := by
  unfold padd at h
  rw [Bool.and_eq_true] at h
  exact of_decide_eq_true h.1
section
variable {H : Hp} {j : Jb} {cs : List Cp} {ps : List Pa} {TV : Nat → List Nat}
theorem rdE_all : ∀ {ps : List Pa}, rdE j TV ps = 0 → ∀ p ∈ ps, Chk4 (tbl j TV p.dc.toNat).1 (tbl j TV p.dc.toNat).2 = 0 ∧ Chk4 (tbl j TV (4 + p.ac.toNat)).1 (tbl j TV (4 + p.ac.toNat)).2 = 0
  | [], _, p, hp => by cases hp
  | q :: r, h, p, hp => by
    rw [rdE] at h
    split at h
    · rename_i hh; exact absurd h hh
    split at h
    · rename_i hh; exact absurd h hh
    · rename_i h1 h2
      rcases List.mem_cons.1 hp with rfl | hp
      · exact ⟨by omega, by omega⟩
      · exact rdE_all h p hp
theorem jT_ok (J : JV H j cs ps TV) (h : jChk j cs ps TV = 0) {q : Nat} (hq : q < ps.length) : TbOk (jT j TV ps q).1 ∧ TbOk (jT j TV ps q).2 := by
  obtain ⟨hP, hE, _⟩ := jchk_no h
  obtain ⟨p, hp⟩ : ∃ p, ps[q]? = some p := ⟨_, get_some hq⟩
  obtain ⟨_, _, ⟨x, hx⟩, ⟨y, hy⟩⟩ := part_tabs hP J hp
  obtain ⟨c1, c2⟩ := rdE_all hE p (List.mem_of_getElem? hp)
  rw [jT_at hp]
  exact ⟨⟨may4 c1, (J.sp _ x hx).2.1⟩, ⟨may4 c2, (J.sp _ y hy).2.1⟩⟩
theorem jL_all {n : Nat} : ∀ p ∈ cat (jL j cs ps) n, p < ps.length := fun p hp => by
  obtain ⟨i, _, h⟩ := cat_mem _ hp
  exact jL_in h
theorem jR0_ok (ps : List Pa) (B : List Bool) : RdOk B (jR0 ps B) := ⟨Nat.zero_le _, .inl rfl, fun _ => rfl, fun X hX => by cases hX⟩
theorem jRd_ok (hT : ∀ q, q < ps.length → TbOk (jT j TV ps q).1 ∧ TbOk (jT j TV ps q).2) (B : List Bool) (n : Nat) : RdOk B (jRd j cs ps TV B n).1 ∧ ((jRd j cs ps TV B n).1.st = 0 → (jRd j cs ps TV B n).1.X.length = (cat (jL j cs ps) n).length) := by
  unfold jRd
  rw [rdU_L]
  obtain ⟨h1, h2⟩ := rdL_ok (T := jT j TV ps) (ps := cat (jL j cs ps) n) (fun p hp => hT p (jL_all p hp)) (jR0_ok ps B)
  exact ⟨h1, fun h => by rw [h2 h]; simp [jR0]⟩
theorem jRd_n (B : List Bool) (n : Nat) : (jRd j cs ps TV B n).2 ≤ n ∧ ((jRd j cs ps TV B n).1.st = 0 ↔ (jRd j cs ps TV B n).2 = n) := rdU_n _ _ rfl n
theorem large17_ok {Q : Bool → Hp → Prop} (h : ∀ H', Keep H H' → Q (decide ((3000 : Int) < j.u)) H') : mosaiclaw17_large.s j.g j.w j.h j.s j.t j.d0.1 j.d0.2 j.d1.1 j.d1.2 j.d2.1 j.d2.2 j.d3.1 j.d3.2 j.a0.1 j.a0.2 j.a1.1 j.a1.2 j.a2.1 j.a2.2 j.a3.1 j.a3.2 j.f j.u H Q := by
  unfold mosaiclaw17_large.s
  intro b1 H2 c2 g1 g1'
  exact h H2 (c2.keep (by simp))
end
end Go.Proofs.Ytlfdfikgbdgfdaa.G
