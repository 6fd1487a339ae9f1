/- Of this text what the row needs. -/
import Derived.Test.YtlfdfikgbdgfdaaQSpanBackZ17b
import Derived.Test.YtlfdfikgbdgfdaaQSpanBackZ17p
namespace Go.Proofs.Ytlfdfikgbdgfdaa.G
open Go.RowKit
set_option linter.unusedVariables false
set_option linter.unusedSimpArgs false
set_option maxRecDepth 20000
theorem ldP_of0 {H : Hp} {p : Addr} {cs : List Value} {v : Option Addr} {K : Option Addr → Prop} (h : ldA H p cs) (hv : cs[0]? = some (.pointer v)) (hK : K v) : ldP H p K := ⟨v, by have := h.2 0 _ hv; rwa [Addr.add, if_pos rfl] at this, hK⟩
theorem ldA_at0 {H : Hp} {p : Addr} {cs : List Value} {v : Value} (h : ldA H p cs) (hv : cs[0]? = some v) : cellAt H p = some v := by have := h.2 0 _ hv; rwa [Addr.add, if_pos rfl] at this
theorem cat_mem {α : Type} (f : Nat → List α) {x : α} : ∀ {n : Nat}, x ∈ cat f n → ∃ i, i < n ∧ x ∈ f i
  | 0, h => by cases h
  | n + 1, h => by
    rcases List.mem_append.1 h with h | h
    · obtain ⟨i, h1, h2⟩ := cat_mem f h; exact ⟨i, by omega, h2⟩
    · exact ⟨n, by omega, h⟩
theorem unit_in {w h : Int} {cs : List Cp} {ps : List Pa} {col row : Int} {x : Sp} (hx : x ∈ unitL w h cs ps col row) : 0 ≤ x.1 ∧ x.1 < ps.length := by
  unfold unitL at hx
  split at hx
  · rename_i h1
    rw [List.mem_singleton] at hx
    subst hx
    simp only; omega
  · obtain ⟨i, hi, hx⟩ := cat_mem _ hx
    unfold partL at hx
    split at hx
    · split at hx
      · obtain ⟨n, _, rfl⟩ := List.mem_map.1 hx
        unfold spotAt; simp only; omega
      · cases hx
    · cases hx
theorem walkIn {w h : Int} {cs : List Cp} {ps : List Pa} {f m : Nat} {x : Sp} (hx : x ∈ walkL w h cs ps f m) : 0 ≤ x.1 ∧ x.1 < ps.length := by
  obtain ⟨i, _, hx⟩ := cat_mem _ hx
  exact unit_in hx
noncomputable def jT (j : Jb) (TV : Nat → List Nat) (ps : List Pa) (p : Nat) : TB × TB := ((ps[p]?).map fun q => (tbl j TV q.dc.toNat, tbl j TV (4 + q.ac.toNat))).getD ((zInts 16, []), (zInts 16, []))
theorem jT_at {j : Jb} {TV : Nat → List Nat} {ps : List Pa} {p : Nat} {q : Pa} (h : ps[p]? = some q) : jT j TV ps p = (tbl j TV q.dc.toNat, tbl j TV (4 + q.ac.toNat)) := by unfold jT; rw [h]; rfl
noncomputable def jL (j : Jb) (cs : List Cp) (ps : List Pa) (u : Nat) : List Nat := (walkL j.w j.h cs ps (j.f.toNat + u) 1).map fun x => x.1.toNat
noncomputable def jR0 (ps : List Pa) (B : List Bool) : Rdg := ⟨0, List.replicate ps.length 0, B, [], 0⟩
noncomputable def jRd (j : Jb) (cs : List Cp) (ps : List Pa) (TV : Nat → List Nat) (B : List Bool) (n : Nat) : Rdg × Nat := rdU (jT j TV ps) (jL j cs ps) (jR0 ps B) n
def jSt (r : Rdg) (l : List (Bool × Nat)) (clean : Bool) : Nat := if r.st ≠ 0 then r.st else if padd (l.drop r.t) = true ∧ clean = true then 1 else 3
abbrev cBl (X : Ints 64) : List Value := c54 X
theorem cBl_len (X : Ints 64) : (cBl X).length = 64 := by show (ints .i16 X.1).length = 64; rw [ints_length, X.2]
theorem cBl_ones (X : Ints 64) : ∀ u ∈ cBl X, u.oneCell' = true := one54 _
def TbM (lo hi : Nat) (H : Hp) (j : Jb) (TV : Nat → List Nat) (ps : List Pa) (f : Pa → Nat) (ts : List Nat) : Prop :=
  ∀ (i : Nat) (p : Pa) (t : Nat), ps[i]? = some p → ts[i]? = some t → TbOk (tbl j TV (f p)) ∧ ∃ sv, Tab H t sv (tbl j TV (f p)).1 (tbl j TV (f p)).2 ∧ ∀ b ∈ t :: fp sv, lo ≤ b ∧ b < hi
theorem TbL.m {H0 H : Hp} {j : Jb} {TV : Nat → List Nat} {ps : List Pa} {f : Pa → Nat} {ts X : List Nat} (a : TbL H0 H j TV ps f ts X) : TbM H0.size H.size H j TV ps f ts := fun i p t hp ht => by
  obtain ⟨h0, sv, h1, h2⟩ := a i p t hp ht
  exact ⟨h0, sv, h1, fun b hb => ⟨(h2 b hb).1, (h2 b hb).2.1⟩⟩
theorem TbM.ch {lo hi : Nat} {H H' : Hp} {j : Jb} {TV : Nat → List Nat} {ps : List Pa} {f : Pa → Nat} {ts F : List Nat} (a : TbM lo hi H j TV ps f ts) (c : Ch F H H') (hF : ∀ b ∈ F, b < lo ∨ hi ≤ b) : TbM lo hi H' j TV ps f ts := fun i p t hp ht => by
  obtain ⟨h0, sv, h1, h2⟩ := a i p t hp ht
  exact ⟨h0, sv, h1.ch c fun b hb hh => by have := h2 b hb; have := hF b hh; omega, h2⟩
structure DF (W H : Hp) (lo hi N : Nat) (j : Jb) (cs : List Cp) (ps : List Pa) (TV : Nat → List Nat) (dl al : Sl) (ts us : List Nat) (b1 b3 b8 k b16 b19 p b28 : Nat) : Prop where
  j1 : Bk H b1 32 j.cells
  f3 : Bk H b3 40 (c40 0 0 0 ⟨none, 0, 0⟩)
  f8 : Bk H b8 61 (c61 dl al)
  od : Own H 76 1 dl (ts.flatMap cPt)
  oa : Own H 76 1 al (us.flatMap cPt)
  tl : ts.length = ps.length
  ul : us.length = ps.length
  td : TbM lo hi H j TV ps (fun p => p.dc.toNat) ts
  ta : TbM lo hi H j TV ps (fun p => 4 + p.ac.toNat) us
  f16 : Bk H b16 43 [.pointer (some ⟨k, 0, none⟩)]
  f28 : Bk H b28 71 [.slice (some ⟨p, 0, none⟩) ps.length ps.length]
  low : W.size ≤ b1 ∧ b1 < b3 ∧ b3 < lo ∧ lo ≤ hi
  fd : ∀ b ∈ fp dl ++ fp al, b < hi
  ord : hi ≤ b8 ∧ b8 < k ∧ k < b16 ∧ b16 < b19 ∧ b19 < p ∧ p < b28 ∧ b28 < N
  kp : Keep W H
  le : N ≤ H.size
section
variable {W H H' : Hp} {lo hi N : Nat} {j : Jb} {cs : List Cp} {ps : List Pa} {TV : Nat → List Nat} {dl al : Sl} {ts us : List Nat} {b1 b3 b8 k b16 b19 p b28 : Nat}
theorem DF.ch {F : List Nat} (a : DF W H lo hi N j cs ps TV dl al ts us b1 b3 b8 k b16 b19 p b28) (c : Ch F H H') (hF : ∀ b ∈ F, hi ≤ b ∧ b ≠ b8 ∧ b ≠ b16 ∧ b ≠ b28) : DF W H' lo hi N j cs ps TV dl al ts us b1 b3 b8 k b16 b19 p b28 := by
  obtain ⟨l1, l2, l3, l4⟩ := a.low
  have nF : ∀ b, b < hi → b ∉ F := fun b hb hh => by have := hF b hh; omega
  exact ⟨a.j1.ch c (nF _ (by omega)), a.f3.ch c (nF _ (by omega)), a.f8.ch c (fun hh => (hF _ hh).2.1 rfl), a.od.ch c (fun b hb => nF b (a.fd b (by simp [hb]))), a.oa.ch c (fun b hb => nF b (a.fd b (by simp [hb]))), a.tl, a.ul,
    a.td.ch c (fun b hb => .inr (hF b hb).1), a.ta.ch c (fun b hb => .inr (hF b hb).1), a.f16.ch c (fun hh => (hF _ hh).2.2.1 rfl), a.f28.ch c (fun hh => (hF _ hh).2.2.2 rfl), a.low, a.fd, a.ord,
    (a.kp.ch (F := [])).trans c (fun b hb => .inr (by have := hF b hb; omega)) |>.keep (by simp), Nat.le_trans a.le c.size⟩
theorem DF.keep (a : DF W H lo hi N j cs ps TV dl al ts us b1 b3 b8 k b16 b19 p b28) (c : Keep H H') : DF W H' lo hi N j cs ps TV dl al ts us b1 b3 b8 k b16 b19 p b28 := a.ch (c.ch (F := [])) (by simp)
end
structure DM (H : Hp) (N k b19 p e np : Nat) (l0 : List (Bool × Nat)) (r : Rdg) (un : Int) (sl : Sl) (BL : List (Ints 64)) : Prop where
  src : Src H k (l0.drop r.t) e r.t
  f19 : Bk H b19 40 (c40 0 un (r.t : Int) sl)
  own : Own H 54 64 sl (BL.flatMap cBl)
  bl : BL.map (·.1) = r.X
  pr : Bk H p 52 (ints .i16 r.P)
  pl : r.P.length = np
  pv : ∀ v ∈ r.P, -32768 ≤ v ∧ v ≤ 32767
  rB : r.B = (l0.drop r.t).map (·.1)
  le : r.t ≤ l0.length
  st : r.st = 0
  fr : ∀ b ∈ fp sl, N ≤ b
section
variable {H H' : Hp} {N k b19 p e np : Nat} {l0 : List (Bool × Nat)} {r : Rdg} {un : Int} {sl : Sl} {BL : List (Ints 64)}
theorem DM.ch {F : List Nat} (a : DM H N k b19 p e np l0 r un sl BL) (c : Ch F H H') (hF : ∀ b ∈ F, b ∉ k :: b19 :: p :: fp sl) : DM H' N k b19 p e np l0 r un sl BL :=
  ⟨a.src.ch c (fun hh => hF _ hh (by simp)), a.f19.ch c (fun hh => hF _ hh (by simp)), a.own.ch c (fun b hb hh => hF _ hh (by simp [hb])), a.bl, a.pr.ch c (fun hh => hF _ hh (by simp)), a.pl, a.pv, a.rB, a.le, a.st, a.fr⟩
theorem DM.keep (a : DM H N k b19 p e np l0 r un sl BL) (c : Keep H H') : DM H' N k b19 p e np l0 r un sl BL := a.ch (c.ch (F := [])) (by simp)
theorem DM.lts (a : DM H N k b19 p e np l0 r un sl BL) : ∀ b ∈ k :: b19 :: p :: fp sl, b < H.size := fun b hb => by
  rcases List.mem_cons.1 hb with rfl | hb
  · exact a.src.lt
  rcases List.mem_cons.1 hb with rfl | hb
  · exact a.f19.lt
  rcases List.mem_cons.1 hb with rfl | hb
  · exact a.pr.lt
  exact a.own.fp_lt b hb
end
theorem ints_get {l : List Int} {i : Nat} (h : i < l.length) : (ints .i16 l)[i]? = some (.int .i16 (l.getD i 0)) := by
  unfold ints
  rw [List.getElem?_map, List.getElem?_eq_getElem h, List.getD_eq_getElem?_getD, List.getElem?_eq_getElem h]
  rfl
theorem ints_set (l : List Int) (i : Nat) (v : Int) : (ints .i16 l).set i (.int .i16 v) = ints .i16 (l.set i v) := by
  unfold ints
  rw [List.map_set]
theorem made16 (n : Nat) : (madeCells z52.cells (n * 1)).toList = ints .i16 (List.replicate n 0) := by
  refine List.ext_getElem? fun i => ?_
  by_cases hi : i < n
  · rw [show (madeCells z52.cells (n * 1)).toList[i]? = some (.int .i16 0) from by simp [madeCells, hi, z52, Value.cells, Nat.mod_one]]
    rw [ints_get (by simpa using hi), List.getD_eq_getElem?_getD, List.getElem?_replicate, if_pos hi]; rfl
  · rw [List.getElem?_eq_none (by simp [madeCells]; omega), List.getElem?_eq_none (by simp [ints]; omega)]
end Go.Proofs.Ytlfdfikgbdgfdaa.G
