/- Of this text what the row needs. -/
import Derived.Test.YtdekmgcdijnjiaaQPenCostM14
import Derived.Test.YtdekmgcdijnjiaaQPenCostM04
import Derived.Test.YtdekmgcdijnjiaaQPenCostM07
import Derived.Test.YtdekmgcdijnjiaaQPenCostZW
import Derived.Test.YtdekmgcdijnjiaaQPenCostM07e
import Derived.Test.YtdekmgcdijnjiaaQPenCostZBt
import Derived.Test.YtdekmgcdijnjiaaQPenCostGI
namespace Go.Proofs.Ytdekmgcdijnjiaa.G
open Go.RowKit
set_option linter.unusedVariables false
set_option linter.unusedSimpArgs false
set_option maxRecDepth 20000
abbrev TB := Cn × List Nat
structure TbOk (D : TB) : Prop where
  may : May4 D.1 D.2
  val : ∀ v ∈ D.2, v < 256
section
variable {H : Hp}
end
structure Jb where
  g : Int
  w : Int
  h : Int
  s : Sl
  t : Sl
  d0 : Cn × Sl
  d1 : Cn × Sl
  d2 : Cn × Sl
  d3 : Cn × Sl
  a0 : Cn × Sl
  a1 : Cn × Sl
  a2 : Cn × Sl
  a3 : Cn × Sl
  f : Int
  u : Int
def Jb.sp (j : Jb) : List (Cn × Sl) := [j.d0, j.d1, j.d2, j.d3, j.a0, j.a1, j.a2, j.a3]
def cSc (x : Cn × Sl) : List Value := c29 x.1 x.2
theorem cSc_len (x : Cn × Sl) : (cSc x).length = 17 := by show (ints .u8 x.1.1 ++ [Value.slice x.2.a x.2.n x.2.c]).length = 17; rw [List.length_append, ints_length, x.1.2]; rfl
abbrev Jb.cells (j : Jb) : List Value := c32 j.g j.w j.h j.s j.t j.d0.1 j.d0.2 j.d1.1 j.d1.2 j.d2.1 j.d2.2 j.d3.1 j.d3.2 j.a0.1 j.a0.2 j.a1.1 j.a1.2 j.a2.1 j.a2.2 j.a3.1 j.a3.2 j.f j.u
theorem Jb.cells_eq (j : Jb) : j.cells = [.int .u8 j.g, .int .i64 j.w, .int .i64 j.h, .slice j.s.a j.s.n j.s.c, .slice j.t.a j.t.n j.t.c] ++ (j.sp.flatMap cSc ++ [.int .i64 j.f, .int .i64 j.u]) := by
  unfold Jb.cells Jb.sp cSc
  simp only [List.flatMap_cons, List.flatMap_nil, List.append_assoc, List.nil_append, List.cons_append]
theorem job_sp {H : Hp} {b : Nat} {T : TypeId} {j : Jb} (hb : Bk H b T j.cells) {k : Nat} {x : Cn × Sl} (hx : j.sp[k]? = some x) : ldA H (⟨b, 5 + k * 17, none⟩ : Addr) (c29 x.1 x.2) := by
  refine ldA_i hb fun i v hv => ?_
  have h1 := fm_at (f := cSc) cSc_len j.sp k x hx i v hv
  have h2 := (List.getElem?_eq_some_iff.1 h1).1
  rw [Jb.cells_eq, List.getElem?_append_right (by simp only [List.length_cons, List.length_nil]; omega)]
  rw [show 5 + k * 17 + i - ([Value.int .u8 j.g, .int .i64 j.w, .int .i64 j.h, .slice j.s.a j.s.n j.s.c, .slice j.t.a j.t.n j.t.c] : List Value).length = k * 17 + i from by simp only [List.length_cons, List.length_nil]; omega]
  rw [List.getElem?_append_left h2]
  exact h1
theorem job_at {H : Hp} {b o : Nat} {T : TypeId} {j : Jb} {K : Int → Prop} (hb : Bk H b T j.cells) {v : Int} (ho : (o = 141 ∧ v = j.f) ∨ (o = 142 ∧ v = j.u)) (hK : K v) : ldI .i64 H (⟨b, o, none⟩ : Addr) K := by
  refine ldI_i hb ?_ hK
  have hl : (j.sp.flatMap cSc).length = 136 := by rw [fm_len cSc_len]; rfl
  rw [Jb.cells_eq]
  rcases ho with ⟨rfl, rfl⟩ | ⟨rfl, rfl⟩
  · rw [List.getElem?_append_right (by simp), List.getElem?_append_right (by simp [hl]), hl]; rfl
  · rw [List.getElem?_append_right (by simp), List.getElem?_append_right (by simp [hl]), hl]; rfl
theorem job_parts {H : Hp} {b : Nat} {T : TypeId} {j : Jb} {K : Sl → Prop} (hb : Bk H b T j.cells) (hK : K j.t) : ldL H (⟨b, 4, none⟩ : Addr) K := ldL_i hb rfl hK
theorem job_frame {H : Hp} {b : Nat} {T : TypeId} {j : Jb} (hb : Bk H b T j.cells) : ldA H (⟨b, 0, none⟩ : Addr) (c24 j.g j.w j.h j.s) := by
  refine ldA_i hb fun i v hv => ?_
  have hi : i < 4 := (List.getElem?_eq_some_iff.1 hv).1
  rw [Nat.zero_add]
  match i, hi, hv with
  | 0, _, hv => exact hv
  | 1, _, hv => exact hv
  | 2, _, hv => exact hv
  | 3, _, hv => exact hv
structure JV (H : Hp) (j : Jb) (cs : List Cp) (ps : List Pa) (TV : Nat → List Nat) : Prop where
  hs : Cs H j.s cs
  ht : Ps H j.t ps
  hok : ∀ c ∈ cs, c.ok
  hpk : ∀ p ∈ ps, p.ok
  hl : cs.length * 4 ≤ 140737488355328
  hm : ps.length * 16 ≤ 140737488355328
  sp : ∀ (k : Nat) (x : Cn × Sl), j.sp[k]? = some x → SlV H x.2 1 cB (TV k) ∧ (∀ v ∈ TV k, v < 256) ∧ cOk x.1 ∧ (TV k).length ≤ 140737488351232
  hf : -9223372036854775808 ≤ j.f ∧ j.f ≤ 9223372036854775807
  hu : -9223372036854775808 ≤ j.u ∧ j.u ≤ 9223372036854775807
theorem JV.keep {H H' : Hp} {j : Jb} {cs : List Cp} {ps : List Pa} {TV : Nat → List Nat} (a : JV H j cs ps TV) (k : Keep H H') : JV H' j cs ps TV :=
  ⟨a.hs.keep k, a.ht.keep k, a.hok, a.hpk, a.hl, a.hm, fun i x hx => ⟨(a.sp i x hx).1.keep k, (a.sp i x hx).2⟩, a.hf, a.hu⟩
def tbl (j : Jb) (TV : Nat → List Nat) (k : Nat) : TB := (((j.sp[k]?).map (·.1)).getD (zInts 16), TV k)
theorem tbl_at {j : Jb} {TV : Nat → List Nat} {k : Nat} {x : Cn × Sl} (h : j.sp[k]? = some x) : tbl j TV k = (x.1, TV k) := by unfold tbl; rw [h]; rfl
noncomputable def rdE (j : Jb) (TV : Nat → List Nat) : List Pa → Int
  | [] => 0
  | p :: r => if Chk4 (tbl j TV p.dc.toNat).1 (tbl j TV p.dc.toNat).2 ≠ 0 then Chk4 (tbl j TV p.dc.toNat).1 (tbl j TV p.dc.toNat).2 else
    if Chk4 (tbl j TV (4 + p.ac.toNat)).1 (tbl j TV (4 + p.ac.toNat)).2 ≠ 0 then Chk4 (tbl j TV (4 + p.ac.toNat)).1 (tbl j TV (4 + p.ac.toNat)).2 else rdE j TV r
abbrev cPt (t : Nat) : List Value := [.pointer (some ⟨t, 0, none⟩)]
theorem cPt_len (t : Nat) : (cPt t).length = 1 := rfl
theorem cPt_ones (t : Nat) : ∀ u ∈ cPt t, u.oneCell' = true := ones_cons rfl ones_nil
def TbL (H0 H : Hp) (j : Jb) (TV : Nat → List Nat) (ps : List Pa) (f : Pa → Nat) (ts X : List Nat) : Prop :=
  ∀ (i : Nat) (p : Pa) (t : Nat), ps[i]? = some p → ts[i]? = some t → TbOk (tbl j TV (f p)) ∧ ∃ sv, Tab H t sv (tbl j TV (f p)).1 (tbl j TV (f p)).2 ∧ ∀ b ∈ t :: fp sv, H0.size ≤ b ∧ b < H.size ∧ b ∉ X
theorem TbL.ch {H0 H H' : Hp} {j : Jb} {TV : Nat → List Nat} {ps : List Pa} {f : Pa → Nat} {ts X F : List Nat} (a : TbL H0 H j TV ps f ts X) (c : Ch F H H') (hF : ∀ b ∈ F, b ∈ X ∨ H.size ≤ b ∨ b < H0.size) : TbL H0 H' j TV ps f ts X := fun i p t hp ht => by
  obtain ⟨h0, sv, h1, h2⟩ := a i p t hp ht
  exact ⟨h0, sv, h1.ch c fun b hb hh => by
    obtain ⟨q1, q2, q3⟩ := h2 b hb
    rcases hF b hh with q | q | q
    · exact q3 q
    · omega
    · omega, fun b hb => ⟨(h2 b hb).1, by have := (h2 b hb).2.1; have := c.size; omega, (h2 b hb).2.2⟩⟩
theorem TbL.keep {H0 H H' : Hp} {j : Jb} {TV : Nat → List Nat} {ps : List Pa} {f : Pa → Nat} {ts X : List Nat} (a : TbL H0 H j TV ps f ts X) (k : Keep H H') : TbL H0 H' j TV ps f ts X := a.ch (k.ch (F := [])) (by simp)
theorem TbL.sub {H0 H : Hp} {j : Jb} {TV : Nat → List Nat} {ps : List Pa} {f : Pa → Nat} {ts X X' : List Nat} (a : TbL H0 H j TV ps f ts X) (h : ∀ b ∈ X', b ∈ X ∨ H.size ≤ b) : TbL H0 H j TV ps f ts X' := fun i p t hp ht => by
  obtain ⟨h0, sv, h1, h2⟩ := a i p t hp ht
  exact ⟨h0, sv, h1, fun b hb => ⟨(h2 b hb).1, (h2 b hb).2.1, fun hh => (h b hh).elim (h2 b hb).2.2 fun q => by have := (h2 b hb).2.1; omega⟩⟩
theorem TbL.snoc {H0 H : Hp} {j : Jb} {TV : Nat → List Nat} {ps : List Pa} {f : Pa → Nat} {ts X : List Nat} {t : Nat} {p : Pa} {sv : Sl} (a : TbL H0 H j TV ps f ts X) (hp : ps[ts.length]? = some p) (ho : TbOk (tbl j TV (f p))) (h1 : Tab H t sv (tbl j TV (f p)).1 (tbl j TV (f p)).2) (h2 : ∀ b ∈ t :: fp sv, H0.size ≤ b ∧ b < H.size ∧ b ∉ X) : TbL H0 H j TV ps f (ts ++ [t]) X := fun i q u hq hu => by
  by_cases hi : i < ts.length
  · rw [List.getElem?_append_left hi] at hu
    exact a i q u hq hu
  · rw [List.getElem?_append_right (by omega)] at hu
    have hl := (List.getElem?_eq_some_iff.1 hu).1
    simp at hl
    obtain rfl : i = ts.length := by omega
    rw [Nat.sub_self] at hu
    simp at hu
    subst hu
    rw [hp] at hq
    obtain rfl : p = q := Option.some.inj hq
    exact ⟨ho, sv, h1, h2⟩
theorem rd_ptr {H : Hp} {b : Nat} {T : TypeId} {v : Option Addr} (h : Bk H b T [.pointer v]) : rdS H (some ⟨b, 0, none⟩) [.pointer v] :=
  ⟨ones_cons rfl ones_nil, fun i w hw => ⟨_, rfl, by
    have hi := (List.getElem?_eq_some_iff.1 hw).1
    simp at hi
    subst hi
    rw [add_mk, h.cell]
    exact hw⟩⟩
section
variable {H : Hp} {j : Jb} {cs : List Cp} {ps : List Pa} {TV : Nat → List Nat}
theorem part_tabs (hP : Prt j.w j.h cs ps = 0) (J : JV H j cs ps TV) {i : Nat} {p : Pa} (hp : ps[i]? = some p) : (0 ≤ p.dc ∧ p.dc ≤ 3) ∧ (0 ≤ p.ac ∧ p.ac ≤ 3) ∧ (∃ x, j.sp[p.dc.toNat]? = some x) ∧ ∃ x, j.sp[4 + p.ac.toNat]? = some x := by
  obtain ⟨hC, fr, hL, hB, hU⟩ := prt_fr hP
  have : ¬ PtBad cs ps i p := fun hh => hB ⟨i, _, hp, hh⟩
  unfold PtBad at this
  have ok := J.hpk p (List.mem_of_getElem? hp)
  obtain ⟨_, o1, o2⟩ := ok
  have hl : j.sp.length = 8 := rfl
  exact ⟨by omega, by omega, ⟨_, List.getElem?_eq_getElem (by omega)⟩, ⟨_, List.getElem?_eq_getElem (by omega)⟩⟩
end
section
variable {A D : TB} {pred : Int}
end
structure Rdg where
  st : Nat
  P : List Int
  B : List Bool
  X : List (List Int)
  t : Nat
section
variable {T : Nat → TB × TB}
end
section
variable {H : Hp} {j : Jb} {cs : List Cp} {ps : List Pa} {TV : Nat → List Nat}
theorem uniw {w h : Int} {cs : List Cp} {ps : List Pa} : IntKind.wrap .i64 ((Uni w h cs ps).1 * (Uni w h cs ps).2) = (Uni w h cs ps).1 * (Uni w h cs ps).2 := by
  have := uni_area (w := w) (h := h) (cs := cs) (ps := ps)
  exact w64 (by omega)
end
theorem ldP_of0 {H : Hp} {p : Addr} {cs : List Value} {v : Option Addr} {K : Option Addr → Prop} (h : ldA H p cs) (hv : cs[0]? = some (.pointer v)) (hK : K v) : ldP H p K := ⟨v, by have := h.2 0 _ hv; rwa [Addr.add, if_pos rfl] at this, hK⟩
theorem cat_mem {α : Type} (f : Nat → List α) {x : α} : ∀ {n : Nat}, x ∈ cat f n → ∃ i, i < n ∧ x ∈ f i
  | 0, h => by cases h
  | n + 1, h => by
    rcases List.mem_append.1 h with h | h
    · obtain ⟨i, h1, h2⟩ := cat_mem f h; exact ⟨i, by omega, h2⟩
    · exact ⟨n, by omega, h⟩
theorem unit_in {w h : Int} {cs : List Cp} {ps : List Pa} {col row : Int} {x : Sp} (hx : x ∈ unitL w h cs ps col row) : 0 ≤ x.1 ∧ x.1 < ps.length := by
  unfold unitL at hx
  split at hx
  · rename_i h1
    rw [List.mem_singleton] at hx
    subst hx
    simp only; omega
  · obtain ⟨i, hi, hx⟩ := cat_mem _ hx
    unfold partL at hx
    split at hx
    · split at hx
      · obtain ⟨n, _, rfl⟩ := List.mem_map.1 hx
        unfold spotAt; simp only; omega
      · cases hx
    · cases hx
theorem walkIn {w h : Int} {cs : List Cp} {ps : List Pa} {f m : Nat} {x : Sp} (hx : x ∈ walkL w h cs ps f m) : 0 ≤ x.1 ∧ x.1 < ps.length := by
  obtain ⟨i, _, hx⟩ := cat_mem _ hx
  exact unit_in hx
noncomputable def jT (j : Jb) (TV : Nat → List Nat) (ps : List Pa) (p : Nat) : TB × TB := ((ps[p]?).map fun q => (tbl j TV q.dc.toNat, tbl j TV (4 + q.ac.toNat))).getD ((zInts 16, []), (zInts 16, []))
theorem jT_at {j : Jb} {TV : Nat → List Nat} {ps : List Pa} {p : Nat} {q : Pa} (h : ps[p]? = some q) : jT j TV ps p = (tbl j TV q.dc.toNat, tbl j TV (4 + q.ac.toNat)) := by unfold jT; rw [h]; rfl
noncomputable def jL (j : Jb) (cs : List Cp) (ps : List Pa) (u : Nat) : List Nat := (walkL j.w j.h cs ps (j.f.toNat + u) 1).map fun x => x.1.toNat
abbrev cBl (X : Ints 64) : List Value := c49 X
def TbM (lo hi : Nat) (H : Hp) (j : Jb) (TV : Nat → List Nat) (ps : List Pa) (f : Pa → Nat) (ts : List Nat) : Prop :=
  ∀ (i : Nat) (p : Pa) (t : Nat), ps[i]? = some p → ts[i]? = some t → TbOk (tbl j TV (f p)) ∧ ∃ sv, Tab H t sv (tbl j TV (f p)).1 (tbl j TV (f p)).2 ∧ ∀ b ∈ t :: fp sv, lo ≤ b ∧ b < hi
theorem TbM.ch {lo hi : Nat} {H H' : Hp} {j : Jb} {TV : Nat → List Nat} {ps : List Pa} {f : Pa → Nat} {ts F : List Nat} (a : TbM lo hi H j TV ps f ts) (c : Ch F H H') (hF : ∀ b ∈ F, b < lo ∨ hi ≤ b) : TbM lo hi H' j TV ps f ts := fun i p t hp ht => by
  obtain ⟨h0, sv, h1, h2⟩ := a i p t hp ht
  exact ⟨h0, sv, h1.ch c fun b hb hh => by have := h2 b hb; have := hF b hh; omega, h2⟩
section
variable {W H H' : Hp} {lo hi N : Nat} {j : Jb} {cs : List Cp} {ps : List Pa} {TV : Nat → List Nat} {dl al : Sl} {ts us : List Nat} {b1 b3 b8 k b16 b19 p b28 : Nat}
end
section
variable {H H' : Hp} {N k b19 p e np : Nat} {l0 : List (Bool × Nat)} {r : Rdg} {un : Int} {sl : Sl} {BL : List (Ints 64)}
end
theorem ints_get {l : List Int} {i : Nat} (h : i < l.length) : (ints .i16 l)[i]? = some (.int .i16 (l.getD i 0)) := by
  unfold ints
  rw [List.getElem?_map, List.getElem?_eq_getElem h, List.getD_eq_getElem?_getD, List.getElem?_eq_getElem h]
  rfl
theorem ints_set (l : List Int) (i : Nat) (v : Int) : (ints .i16 l).set i (.int .i16 v) = ints .i16 (l.set i v) := by
  unfold ints
  rw [List.map_set]
theorem made16 (n : Nat) : (madeCells z47.cells (n * 1)).toList = ints .i16 (List.replicate n 0) := by
  refine List.ext_getElem? fun i => ?_
  by_cases hi : i < n
  · rw [show (madeCells z47.cells (n * 1)).toList[i]? = some (.int .i16 0) from by simp [madeCells, hi, z47, Value.cells, Nat.mod_one]]
    rw [ints_get (by simpa using hi), List.getD_eq_getElem?_getD, List.getElem?_replicate, if_pos hi]; rfl
  · rw [List.getElem?_eq_none (by simp [madeCells]; omega), List.getElem?_eq_none (by simp [ints]; omega)]
def oneS (T : TB) (x : Sy) : List Bool := codB T.1 T.2 x.1 ++ bl x.2.1.toNat (low x.2.2 x.2.1.toNat)
def eC : List Cp := [⟨1, 1, 1, 0⟩]
def eP : List Pa := [⟨0, 0, 0⟩]
theorem eC_ok : ∀ c ∈ eC, c.ok := by simp [eC, Cp.ok]
theorem eP_ok : ∀ p ∈ eP, p.ok := by simp [eP, Pa.ok]
theorem eC_at {i : Nat} {c : Cp} (h : eC[i]? = some c) : i = 0 ∧ c = ⟨1, 1, 1, 0⟩ := by
  match i with
  | 0 => simp [eC] at h; simp [h]
  | i + 1 => simp [eC] at h
theorem eChk : Chk 8 8 eC = 0 := by
  refine chk0 ?_ ?_ ?_ ?_
  · simp [Emp]
  · rintro (h | h | ⟨i, c, h1, h2⟩)
    · simp [eC] at h
    · simp [eC] at h
    · obtain ⟨rfl, rfl⟩ := eC_at h1
      rcases h2 with h2 | ⟨k, d, hk, h2, h3⟩
      · simp at h2
      · omega
  · rintro ⟨c, h1, h2⟩
    simp [eC] at h1
    subst h1
    simp at h2
  · rintro ⟨c, h1, h2⟩
    have e1 : mxH eC = 1 := by decide
    have e2 : mxV eC = 1 := by decide
    rw [e1, e2] at h2
    simp [eC] at h1
    subst h1
    revert h2
    decide
theorem ePrt : Prt 8 8 eC eP = 0 := by
  refine prt5 eChk (by simp [eP]) ?_ ?_
  · rintro ⟨i, p, h1, h2⟩
    have hp : i = 0 ∧ p = ⟨0, 0, 0⟩ := by
      match i with
      | 0 => simp [eP] at h1; simp [h1]
      | i + 1 => simp [eP] at h1
    obtain ⟨rfl, rfl⟩ := hp
    rcases h2 with h2 | h2 | ⟨j, q, h, h2, h3⟩ | h2 | h2
    · simp at h2
    · simp [eC] at h2
    · omega
    · simp at h2
    · simp at h2
  · rintro ⟨h, _⟩
    revert h
    decide
theorem eUni : 1 ≤ (Uni 8 8 eC eP).1 * (Uni 8 8 eC eP).2 := by
  obtain ⟨h1, h2⟩ := uni_pos ePrt
  exact Int.mul_pos (by omega) (by omega)
def eD : Cn := mkI (n := 16) [1, 1, 0, 0, 0, 0, 0, 0, 0, 0, 0, 0, 0, 0, 0, 0] (by rfl)
def eA : Cn := mkI (n := 16) [1, 0, 0, 0, 0, 0, 0, 0, 0, 0, 0, 0, 0, 0, 0, 0] (by rfl)
def tD : TB := (eD, [0, 3])
def tA : TB := (eA, [0])
theorem eD_ok : cOk eD := by
  show ∀ v ∈ [1, 1, 0, 0, 0, 0, 0, 0, 0, 0, 0, 0, 0, 0, 0, (0 : Int)], 0 ≤ v ∧ v ≤ 255
  decide
theorem eA_ok : cOk eA := by
  show ∀ v ∈ [1, 0, 0, 0, 0, 0, 0, 0, 0, 0, 0, 0, 0, 0, 0, (0 : Int)], 0 ≤ v ∧ v ≤ 255
  decide
theorem tD_chk : Chk4 eD [0, 3] = 0 := by
  have e1 : wN eD 16 = 2 := by decide
  have e2 : wS eD 16 = 49152 := by decide
  unfold Chk4
  rw [e1, e2, if_neg (by decide), if_neg (by decide), if_pos (by decide)]
theorem tA_chk : Chk4 eA [0] = 0 := by
  have e1 : wN eA 16 = 1 := by decide
  have e2 : wS eA 16 = 32768 := by decide
  unfold Chk4
  rw [e1, e2, if_neg (by decide), if_neg (by decide), if_pos (by decide)]
def eJ (s t v w : Nat) : Jb := ⟨0, 8, 8, ⟨some ⟨s, 0, none⟩, 1, 1⟩, ⟨some ⟨t, 0, none⟩, 1, 1⟩, (eD, ⟨some ⟨v, 0, none⟩, 2, 2⟩), (zInts 16, ⟨none, 0, 0⟩), (zInts 16, ⟨none, 0, 0⟩), (zInts 16, ⟨none, 0, 0⟩), (eA, ⟨some ⟨w, 0, none⟩, 1, 1⟩), (zInts 16, ⟨none, 0, 0⟩), (zInts 16, ⟨none, 0, 0⟩), (zInts 16, ⟨none, 0, 0⟩), 0, 1⟩
def eT (k : Nat) : List Nat := if k = 0 then [0, 3] else if k = 4 then [0] else []
theorem zI_ok : cOk (zInts 16) := fun v hv => by
  have : v ∈ List.replicate 16 (0 : Int) := hv
  rw [List.mem_replicate] at this; omega
theorem e_tD {s t v w : Nat} : tbl (eJ s t v w) eT 0 = tD := rfl
theorem e_tA {s t v w : Nat} : tbl (eJ s t v w) eT 4 = tA := rfl
theorem e_rdE {s t v w : Nat} : rdE (eJ s t v w) eT eP = 0 := by
  show (if Chk4 (tbl (eJ s t v w) eT 0).1 (tbl (eJ s t v w) eT 0).2 ≠ 0 then _ else if Chk4 (tbl (eJ s t v w) eT 4).1 (tbl (eJ s t v w) eT 4).2 ≠ 0 then _ else (0 : Int)) = 0
  rw [e_tD, e_tA, if_neg (by show ¬ Chk4 eD [0, 3] ≠ 0; rw [tD_chk]; decide), if_neg (by show ¬ Chk4 eA [0] ≠ 0; rw [tA_chk]; decide)]
theorem e_L {s t v w : Nat} : jL (eJ s t v w) eC eP 0 = [0] := by
  unfold jL walkL
  rw [cat, cat, List.nil_append]
  unfold unitL
  rw [if_pos (by rfl)]
  rfl
section
variable {H : Hp}
theorem byV {s : Sl} {v : Nat} {vs : List Nat} {b : Nat} (hb : Bk H b 5 (vs.map fun (x : Nat) => Value.int .u8 (x : Int))) (hs : s = ⟨some ⟨b, 0, none⟩, vs.length, vs.length⟩) : SlV H s 1 cB vs := by
  subst hs
  refine ⟨rfl, Nat.le_refl _, fun i x hx => ⟨b, 0, rfl, ?_⟩⟩
  refine ldA_i hb fun j v hv => ?_
  have hj : j = 0 := by
    have := (List.getElem?_eq_some_iff.1 hv).1
    simp at this
    exact this
  subst hj
  simp at hv
  subst hv
  rw [show 0 + i * 1 + 0 = i from by omega, List.getElem?_map, hx]; rfl
theorem nilV7 : SlV H ⟨none, 0, 0⟩ 1 cB [] := ⟨rfl, Nat.le_refl _, fun i x hx => by simp at hx⟩
theorem ex_jv {s t v w : Nat} (hs : Bk H s 75 (c75 1 1 1 0)) (ht : Bk H t 69 (c69 0 0 0)) (hv : Bk H v 5 [.int .u8 0, .int .u8 3]) (hw : Bk H w 5 [.int .u8 0]) : JV H (eJ s t v w) eC eP eT := by
  refine ⟨⟨rfl, Nat.le_refl _, fun i x hx => ⟨s, 0, rfl, ?_⟩⟩, ⟨rfl, Nat.le_refl _, fun i x hx => ⟨t, 0, rfl, ?_⟩⟩, eC_ok, eP_ok, by decide, by decide, fun k x hx => ?_, show (-9223372036854775808 : Int) ≤ 0 ∧ (0 : Int) ≤ 9223372036854775807 from by decide, show (-9223372036854775808 : Int) ≤ 1 ∧ (1 : Int) ≤ 9223372036854775807 from by decide⟩
  · obtain ⟨rfl, rfl⟩ := eC_at hx
    exact ldA_full hs
  · have : i = 0 ∧ x = ⟨0, 0, 0⟩ := by
      match i with
      | 0 => simp [eP] at hx; simp [hx]
      | i + 1 => simp [eP] at hx
    obtain ⟨rfl, rfl⟩ := this
    exact ldA_full ht
  · have hk := (List.getElem?_eq_some_iff.1 hx).1
    match k, hx, hk with
    | 0, hx, _ => injection hx with hx; subst hx; exact ⟨byV (v := 0) hv rfl, by decide, eD_ok, by decide⟩
    | 1, hx, _ => injection hx with hx; subst hx; exact ⟨nilV7, by decide, zI_ok, by decide⟩
    | 2, hx, _ => injection hx with hx; subst hx; exact ⟨nilV7, by decide, zI_ok, by decide⟩
    | 3, hx, _ => injection hx with hx; subst hx; exact ⟨nilV7, by decide, zI_ok, by decide⟩
    | 4, hx, _ => injection hx with hx; subst hx; exact ⟨byV (v := 0) hw rfl, by decide, eA_ok, by decide⟩
    | 5, hx, _ => injection hx with hx; subst hx; exact ⟨nilV7, by decide, zI_ok, by decide⟩
    | 6, hx, _ => injection hx with hx; subst hx; exact ⟨nilV7, by decide, zI_ok, by decide⟩
    | 7, hx, _ => injection hx with hx; subst hx; exact ⟨nilV7, by decide, zI_ok, by decide⟩
    | k + 8, _, hk => exact absurd hk (by show ¬ k + 8 < 8; omega)
theorem job_len (j : Jb) : j.cells.length = 143 := by
  rw [Jb.cells_eq, List.length_append, List.length_append, fm_len cSc_len]; rfl
end
theorem snk_octs {H : Hp} {k : Nat} {s : Sl} {m : List Bool} (hs : Snk H k s m) (h8 : m.length % 8 = 0) : ∃ bs : List Nat, (∀ b ∈ bs, b < 256) ∧ m = bs.flatMap (bl 8) ∧ text m = bytesOf (stuff bs) := by
  obtain ⟨bs, v, n, R, hn, hmb⟩ := hs
  have hoc : octs m = bs := by rw [hmb]; exact octs_eq R.byte hn
  have hn0 : n = 0 := by
    have := congrArg List.length hmb
    rw [List.length_append, fm8, bl_len] at this
    omega
  subst hn0
  exact ⟨bs, R.byte, by rw [hmb]; simp [bl], by unfold text; rw [hoc]⟩
section
variable {H : Hp} {j : Jb} {cs : List Cp} {ps : List Pa} {TV : Nat → List Nat}
end
end Go.Proofs.Ytdekmgcdijnjiaa.G
