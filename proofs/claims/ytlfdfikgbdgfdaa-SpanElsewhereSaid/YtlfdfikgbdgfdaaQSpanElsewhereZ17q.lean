/- Of this text what the row needs. -/
import Derived.Test.YtlfdfikgbdgfdaaQSpanElsewhereZ17n
import Derived.Test.YtlfdfikgbdgfdaaQSpanElsewhereZ17v
namespace Go.Proofs.Ytlfdfikgbdgfdaa.G
open Go.RowKit
set_option linter.unusedVariables false
set_option linter.unusedSimpArgs false
theorem cut_move {A B : ByteArray} {s nA : Nat} (hb : ∀ i, i < nA → byt B (s + i) = byt A i) : ∀ {xs : List Nat} {p e : Nat}, Cut A nA p xs e → Cut B (s + nA) (s + p) xs (s + e)
  | [], p, e, h => by
    obtain ⟨rfl, h⟩ := h
    refine ⟨rfl, ?_⟩
    rcases h with h | ⟨h1, h2, h3⟩
    · exact .inl (by omega)
    · refine .inr ⟨by omega, by rw [hb p h1]; exact h2, ?_⟩
      by_cases hp : nA ≤ p + 1
      · exact .inl (by omega)
      · rcases h3 with h3 | h3
        · omega
        · exact .inr (by rw [show s + p + 1 = s + (p + 1) from by omega, hb (p + 1) (by omega)]; exact h3)
  | x :: r, p, e, h => by
    obtain ⟨h1, h2, h3, h4⟩ := h
    refine ⟨by omega, by rw [hb p h1]; exact h2, fun hx => ?_, ?_⟩
    · obtain ⟨q1, q2⟩ := h3 hx
      exact ⟨by omega, by rw [show s + p + 1 = s + (p + 1) from by omega, hb (p + 1) (by omega)]; exact q2⟩
    · rw [show s + p + wd x = s + (p + wd x) from by omega]
      exact cut_move hb h4
theorem padd_eq {l l' : List (Bool × Nat)} (h : l.map (·.1) = l'.map (·.1)) : padd l = padd l' := by
  have hl : l.length = l'.length := by simpa using congrArg List.length h
  have ha : ∀ l : List (Bool × Nat), l.all (·.1) = (l.map (·.1)).all id := fun l => by
    induction l with
    | nil => rfl
    | cons a l ih => rw [List.all_cons, List.map_cons, List.all_cons, ih]; rfl
  unfold padd
  rw [hl, ha, ha, h]
theorem jSt_eq {r : Rdg} {l l' : List (Bool × Nat)} {c : Bool} (h : l.map (·.1) = l'.map (·.1)) : jSt r l c = jSt r l' c := by
  have : padd (l.drop r.t) = padd (l'.drop r.t) := padd_eq (by rw [List.map_drop, List.map_drop, h])
  unfold jSt
  rw [this]
theorem jSt_one {r : Rdg} {l : List (Bool × Nat)} {c : Bool} (h : r.st = 0 ∨ r.st = 2 ∨ r.st = 4) (h1 : jSt r l c = 1) : r.st = 0 ∧ padd (l.drop r.t) = true := by
  unfold jSt at h1
  split at h1
  · omega
  · split at h1
    · rename_i q; exact ⟨by omega, q.1⟩
    · cases h1
section
variable {H : Hp} {j : Jb} {cs : List Cp} {ps : List Pa} {TV : Nat → List Nat}
theorem rdE_all : ∀ {ps : List Pa}, rdE j TV ps = 0 → ∀ p ∈ ps, Chk4 (tbl j TV p.dc.toNat).1 (tbl j TV p.dc.toNat).2 = 0 ∧ Chk4 (tbl j TV (4 + p.ac.toNat)).1 (tbl j TV (4 + p.ac.toNat)).2 = 0
  | [], _, p, hp => by cases hp
  | q :: r, h, p, hp => by
    rw [rdE] at h
    split at h
    · rename_i hh; exact absurd h hh
    split at h
    · rename_i hh; exact absurd h hh
    · rename_i h1 h2
      rcases List.mem_cons.1 hp with rfl | hp
      · exact ⟨by omega, by omega⟩
      · exact rdE_all h p hp
theorem jT_ok (J : JV H j cs ps TV) (h : jChk j cs ps TV = 0) {q : Nat} (hq : q < ps.length) : TbOk (jT j TV ps q).1 ∧ TbOk (jT j TV ps q).2 := by
  obtain ⟨hP, hE, _⟩ := jchk_no h
  obtain ⟨p, hp⟩ : ∃ p, ps[q]? = some p := ⟨_, get_some hq⟩
  obtain ⟨_, _, ⟨x, hx⟩, ⟨y, hy⟩⟩ := part_tabs hP J hp
  obtain ⟨c1, c2⟩ := rdE_all hE p (List.mem_of_getElem? hp)
  rw [jT_at hp]
  exact ⟨⟨may4 c1, (J.sp _ x hx).2.1⟩, ⟨may4 c2, (J.sp _ y hy).2.1⟩⟩
theorem jL_all {n : Nat} : ∀ p ∈ cat (jL j cs ps) n, p < ps.length := fun p hp => by
  obtain ⟨i, _, h⟩ := cat_mem _ hp
  exact jL_in h
theorem jR0_ok (ps : List Pa) (B : List Bool) : RdOk B (jR0 ps B) := ⟨Nat.zero_le _, .inl rfl, fun _ => rfl, fun X hX => by cases hX⟩
theorem jRd_ok (hT : ∀ q, q < ps.length → TbOk (jT j TV ps q).1 ∧ TbOk (jT j TV ps q).2) (B : List Bool) (n : Nat) : RdOk B (jRd j cs ps TV B n).1 ∧ ((jRd j cs ps TV B n).1.st = 0 → (jRd j cs ps TV B n).1.X.length = (cat (jL j cs ps) n).length) := by
  unfold jRd
  rw [rdU_L]
  obtain ⟨h1, h2⟩ := rdL_ok (T := jT j TV ps) (ps := cat (jL j cs ps) n) (fun p hp => hT p (jL_all p hp)) (jR0_ok ps B)
  exact ⟨h1, fun h => by rw [h2 h]; simp [jR0]⟩
theorem ints_inj {n : Nat} : ∀ {a b : List (Ints n)}, a.map (·.1) = b.map (·.1) → a = b
  | [], [], _ => rfl
  | [], y :: b, h => by simp at h
  | x :: a, [], h => by simp at h
  | x :: a, y :: b, h => by
    simp only [List.map_cons, List.cons.injEq] at h
    rw [ints_inj h.2, Subtype.ext h.1]
theorem same17_ok {a b : Sl} {xs ys : List (Ints 64)} {Q : Bool → Hp → Prop} (ha : Own H 54 64 a (xs.flatMap cBl)) (hb : Own H 54 64 b (ys.flatMap cBl)) (hl : xs.length ≤ 140737488355328) (he : xs = ys) (h : Q true H) : mosaiclaw17_same.s a b H Q := by
  subst he
  have na := ha.count cBl_len (by omega)
  have nb := hb.count cBl_len (by omega)
  unfold mosaiclaw17_same.s
  refine ite_f (bnei (by omega)) ?_
  refine Fix.intro (fun (x : Int) H' => ∃ i : Nat, x = (i : Int) ∧ i ≤ xs.length ∧ H = H') (fun x _ => xs.length - x.toNat) ⟨0, rfl, by omega, rfl⟩ ?_
  rintro _ _ ⟨i, rfl, hi, rfl⟩ rec hrec
  by_cases hil : i < xs.length
  · obtain ⟨x, hx⟩ : ∃ x, xs[i]? = some x := ⟨_, get_some hil⟩
    obtain ⟨p, hpa, hA⟩ := ha.at cBl_len (by omega) hx
    obtain ⟨q, hqb, hB⟩ := hb.at cBl_len (by omega) hx
    refine ite_t (dect (by omega)) ⟨by omega, by omega, _, hpa, x, hA, by omega, by omega, _, hqb, x, hB, ite_f (by simp) ?_⟩
    rw [show (i : Int) + 1 = ((i + 1 : Nat) : Int) from by omega, w64n (by omega)]
    exact hrec _ _ ⟨i + 1, rfl, by omega, rfl⟩ (by simp; omega)
  · exact ite_f (decf (by omega)) h
theorem large17_ok {Q : Bool → Hp → Prop} (h : ∀ H', Keep H H' → Q (decide ((3000 : Int) < j.u)) H') : mosaiclaw17_large.s j.g j.w j.h j.s j.t j.d0.1 j.d0.2 j.d1.1 j.d1.2 j.d2.1 j.d2.2 j.d3.1 j.d3.2 j.a0.1 j.a0.2 j.a1.1 j.a1.2 j.a2.1 j.a2.2 j.a3.1 j.a3.2 j.f j.u H Q := by
  unfold mosaiclaw17_large.s
  intro b1 H2 c2 g1 g1'
  exact h H2 (c2.keep (by simp))
end
end Go.Proofs.Ytlfdfikgbdgfdaa.G
