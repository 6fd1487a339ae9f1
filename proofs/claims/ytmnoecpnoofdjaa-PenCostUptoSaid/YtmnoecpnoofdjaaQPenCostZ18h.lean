/- Of this text what the row needs. -/
import Derived.Test.YtmnoecpnoofdjaaQPenCostZ18g
import Derived.Test.YtmnoecpnoofdjaaQPenCostKPenCost
import Derived.Test.YtmnoecpnoofdjaaQPenCostGT
namespace Go.Proofs.Ytmnoecpnoofdjaa.G
open Go.RowKit
set_option linter.unusedVariables false
set_option linter.unusedSimpArgs false
set_option maxRecDepth 20000
theorem vals_view8 {H : Hp} {s : Sl} (h : SlH H (some 1048576) 1 1 (X5 (some 1048576) H) s) : ∃ vs : List Nat, SlV H s 1 cB vs ∧ (∀ v ∈ vs, v < 256) ∧ vs.length ≤ 140737488351232 := by
  obtain ⟨xs, h1, h2, h3⟩ := h.view (f := cB) (B := fun v => v < 256) fun cs ⟨a, e, hb⟩ => ⟨a.toNat, by rw [e, cB, Int.toNat_of_nonneg hb.1], by omega⟩
  refine ⟨xs, h1, h2, ?_⟩
  have n0 := h1.n
  have c0 := h1.c
  rcases h3 with z | z
  · omega
  · have : s.c + 1 ≤ 1048576 := z
    omega
theorem job_view8 {H : Hp} {j : Jb} (hs : SlH H (some 1048576) 4 4 (X100 (some 1048576) H) j.s) (ht : SlH H (some 1048576) 16 3 (X76 (some 1048576) H) j.t)
    (all : ∀ x ∈ j.sp, cOk x.1 ∧ SlH H (some 1048576) 1 1 (X5 (some 1048576) H) x.2)
    (hf : -9223372036854775808 ≤ j.f ∧ j.f ≤ 9223372036854775807) (hu : -9223372036854775808 ≤ j.u ∧ j.u ≤ 9223372036854775807) : ∃ cs ps TV, JV H j cs ps TV := by
  obtain ⟨cs, v0, hok, hl4⟩ := hs.view fun _ => cp_ofv
  obtain ⟨ps, u0, hpk, hm4⟩ := ht.view fun _ => pa_ofv
  have n0 := v0.n
  have c0 := v0.c
  have n1 := u0.n
  have c1 := u0.c
  have hl : cs.length ≤ 1048576 := by
    rcases hl4 with z | z
    · omega
    · have : j.s.c + 1 ≤ 1048576 := z
      omega
  have hm : ps.length ≤ 1048576 := by
    rcases hm4 with z | z
    · omega
    · have : j.t.c + 1 ≤ 1048576 := z
      omega
  have each : ∀ k : Nat, ∃ vs : List Nat, ∀ x, j.sp[k]? = some x → SlV H x.2 1 cB vs ∧ (∀ v ∈ vs, v < 256) ∧ cOk x.1 ∧ vs.length ≤ 140737488351232 := fun k => by
    cases hx : j.sp[k]? with
    | none => exact ⟨[], fun x h => by cases h⟩
    | some x =>
      obtain ⟨a1, a2⟩ := all x (List.mem_of_getElem? hx)
      obtain ⟨vs, q1, q2, q3⟩ := vals_view8 a2
      exact ⟨vs, fun y h => by injection h with h; subst h; exact ⟨q1, q2, a1, q3⟩⟩
  obtain ⟨TV, hT⟩ := Classical.axiomOfChoice each
  exact ⟨cs, ps, TV, ⟨v0, u0, hok, hpk, by omega, by omega, hT, hf, hu⟩⟩
theorem blocks_view8 {H : Hp} {s : Sl} (h : SlH H (some 1048576) 128 64 (X57 (some 1048576) H) s) : ∃ BL : List (Ints 64), SlV H s 64 cBl BL ∧ (∀ X ∈ BL, ∀ v ∈ X.1, -32768 ≤ v ∧ v ≤ 32767) ∧ BL.length ≤ 1048576 := by
  obtain ⟨xs, h1, h2, h3⟩ := h.view (f := cBl) (B := fun X => ∀ v ∈ X.1, -32768 ≤ v ∧ v ≤ 32767) fun cs ⟨a, e, hb⟩ => ⟨a, e, hb⟩
  refine ⟨xs, h1, h2, ?_⟩
  have n0 := h1.n
  have c0 := h1.c
  rcases h3 with z | z
  · omega
  · have : s.c + 1 ≤ 1048576 := z
    omega
def padded8 (l : List Bool) : List Bool := l ++ List.replicate ((8 - l.length % 8) % 8) true
structure Good8 (j : Jb) (cs : List Cp) (ps : List Pa) (TV : Nat → List Nat) (BL : List (Ints 64)) : Prop where
  ck : oChk true j cs ps TV = 0
  ln : (walkL j.w j.h cs ps j.f.toNat j.u.toNat).length = BL.length
  er : (mJ j cs ps BL).2 = 0
def EncR (j : Jb) (cs : List Cp) (ps : List Pa) (TV : Nat → List Nat) (BL : List (Ints 64)) (r : ByteArray × Int) : Prop :=
  r.2 ≠ 0 ∨ (Good8 j cs ps TV BL ∧ (∀ m ∈ (mJ j cs ps BL).1, hasM j TV ps m) ∧ (bitsM j TV ps (mJ j cs ps BL).1).length ≤ 2147483648 ∧ r = (text (padded8 (bitsM j TV ps (mJ j cs ps BL).1)), 0) ∧
    ∃ bs : List Nat, (∀ b ∈ bs, b < 256) ∧ padded8 (bitsM j TV ps (mJ j cs ps BL).1) = bs.flatMap (bl 8) ∧ text (padded8 (bitsM j TV ps (mJ j cs ps BL).1)) = bytesOf (stuff bs))
abbrev CR8 := Ints 256 × Ints 256 × Ints 256 × Ints 256 × Ints 256 × Ints 256 × Ints 256 × Ints 256 × Int
def CntR (j : Jb) (cs : List Cp) (ps : List Pa) (TV : Nat → List Nat) (BL : List (Ints 64)) (r : CR8) : Prop :=
  (r.2.2.2.2.2.2.2.2 ≠ 0 ∧ ¬ Good8 j cs ps TV BL) ∨ r = (cnP (cnt18 (selD ps) (mJ j cs ps BL).1) 0, cnP (cnt18 (selD ps) (mJ j cs ps BL).1) 1, cnP (cnt18 (selD ps) (mJ j cs ps BL).1) 2, cnP (cnt18 (selD ps) (mJ j cs ps BL).1) 3, cnP (cnt18 (selA ps) (mJ j cs ps BL).1) 0, cnP (cnt18 (selA ps) (mJ j cs ps BL).1) 1, cnP (cnt18 (selA ps) (mJ j cs ps BL).1) 2, cnP (cnt18 (selA ps) (mJ j cs ps BL).1) 3, 0)
section
variable {H : Hp} {j k : Jb} {cs : List Cp} {ps : List Pa} {TV : Nat → List Nat} {a1 : Sl} {BL : List (Ints 64)}
theorem Encode_r {Q : ByteArray × Int → Hp → Prop} (sk : Sam8 j k) (J : JV H k cs ps TV) (hb : SlV H a1 64 cBl BL) (hbl : BL.length ≤ 1048576) (hbv : ∀ X ∈ BL, ∀ v ∈ X.1, -32768 ≤ v ∧ v ≤ 32767)
    (h : ∀ r H', EncR j cs ps TV BL r → Keep H H' → Q r H') :
    pen_Encode.s k.g k.w k.h k.s k.t k.d0.1 k.d0.2 k.d1.1 k.d1.2 k.d2.1 k.d2.2 k.d3.1 k.d3.2 k.a0.1 k.a0.2 k.a1.1 k.a1.2 k.a2.1 k.a2.2 k.a3.1 k.a3.2 k.f k.u a1 H Q := by
  refine Encode_ok J hb hbl hbv (fun hn H' q => h _ H' (.inl hn) q) (fun _ _ H' q => h _ H' (.inl (by decide)) q) (fun _ _ _ H' q => h _ H' (.inl (by decide)) q) (fun _ _ _ he H' q => h _ H' (.inl he) q) fun e1 e2 e3 e4 e5 e6 H' q => ?_
  rw [sk.oChk] at e1
  rw [sk.walk] at e2
  rw [sk.mJ] at e3 e4 e5 e6 ⊢
  rw [sk.bitsM] at e5 e6 ⊢
  exact h _ H' (.inr ⟨⟨e1, e2, e4⟩, fun m hm => (sk.hasM m).1 (e3 m hm), e5, rfl, e6⟩) q
theorem Count_r {Q : CR8 → Hp → Prop} (sk : Sam8 j k) (J : JV H k cs ps TV) (hb : SlV H a1 64 cBl BL) (hbl : BL.length ≤ 1048576) (hbv : ∀ X ∈ BL, ∀ v ∈ X.1, -32768 ≤ v ∧ v ≤ 32767)
    (h : ∀ r H', CntR j cs ps TV BL r → Keep H H' → Q r H') :
    pen_Count.s k.g k.w k.h k.s k.t k.d0.1 k.d0.2 k.d1.1 k.d1.2 k.d2.1 k.d2.2 k.d3.1 k.d3.2 k.a0.1 k.a0.2 k.a1.1 k.a1.2 k.a2.1 k.a2.2 k.a3.1 k.a3.2 k.f k.u a1 H Q := by
  refine Count_ok J hb hbl hbv (fun hc x0 x1 x2 x3 x4 x5 x6 x7 e H' he q => h _ H' (.inl ⟨he, fun g => ?_⟩) q) fun e1 e2 e3 H' q => ?_
  · rw [sk.oChk, sk.walk, sk.mJ] at hc
    rcases hc with hc | hc | hc
    · exact ochk_more hc g.ck
    · exact hc g.ln
    · exact hc g.er
  · rw [sk.mJ]
    exact h _ H' (.inr rfl) q
end
def anyN (f : Nat → Nat) : Nat → Bool
  | 0 => false
  | n + 1 => anyN f n || decide (0 < f n)
theorem anyN_t {f : Nat → Nat} : ∀ {n : Nat}, anyN f n = true → ∃ k, k < n ∧ f k ≠ 0
  | 0, h => by cases h
  | n + 1, h => by
    rw [anyN, Bool.or_eq_true] at h
    rcases h with h | h
    · obtain ⟨k, h1, h2⟩ := anyN_t h
      exact ⟨k, by omega, h2⟩
    · exact ⟨n, by omega, by have := of_decide_eq_true h; omega⟩
theorem anyN_f {f : Nat → Nat} : ∀ {n : Nat}, anyN f n = false → ∀ k, k < n → f k = 0
  | 0, _, k, hk => by omega
  | n + 1, h, k, hk => by
    rw [anyN, Bool.or_eq_false_iff] at h
    by_cases e : k = n
    · subst e; have := of_decide_eq_false h.2; omega
    · exact anyN_f h.1 k (by omega)
theorem ixI_cnP {F : Nat → Nat} {i k : Nat} (hk : k < 256) : ixI (cnP F i) (k : Int) = ((F (256 * i + k) : Nat) : Int) := by
  unfold ixI cnP
  show ((List.range 256).map fun s => ((F (256 * i + s) : Nat) : Int)).getD (Int.toNat (k : Int)) 0 = _
  rw [Int.toNat_natCast, List.getD_eq_getElem?_getD, List.getElem?_map, List.getElem?_range hk]; rfl
theorem ldA_cnP {H : Hp} {b i : Nat} {T : TypeId} {F : Nat → Nat} (hb : Bk H b T (ints .i64 (cntL F))) (hi : i < 4) : ldA H ((⟨b, 0, none⟩ : Addr).add (i * 256)) (c39 (cnP F i)) := by
  refine ldA_a hb fun jj v hv => ?_
  have hv' : (ints .i64 (cnP F i).1)[jj]? = some v := hv
  have hj : jj < 256 := by
    have := (List.getElem?_eq_some_iff.1 hv').1
    rw [ints_length, (cnP F i).2] at this
    exact this
  rw [cntL_get (by omega), ← hv']
  unfold ints cnP
  show _ = (((List.range 256).map fun s => ((F (256 * i + s) : Nat) : Int)).map (Value.int .i64))[jj]?
  rw [List.getElem?_map, List.getElem?_map, List.getElem?_range hj]
  show some (Value.int .i64 ((F (i * 256 + jj) : Nat) : Int)) = some (Value.int .i64 ((F (256 * i + jj) : Nat) : Int))
  rw [Nat.mul_comm i 256]
def row8 (F : Nat → Nat) (T : Nat → TB) (first : Bool) (i : Nat) : Nat := sumN (fun s => F (256 * i + s) * wgt (T i) first s) 256
theorem rows8 (F : Nat → Nat) (T : Nat → TB) (first : Bool) : sumN (fun k => F k * wgt (T (k / 256)) first (k % 256)) 1024 = sumN (row8 F T first) 4 := by
  have e : ∀ i, sumN (fun k => F (256 * i + k) * wgt (T ((256 * i + k) / 256)) first ((256 * i + k) % 256)) 256 = row8 F T first i := fun i => sumN_congr fun k hk => by
    rw [show (256 * i + k) / 256 = i from by omega, show (256 * i + k) % 256 = k from by omega]
  have e0 := e 0
  have e1 := e 1
  have e2 := e 2
  have e3 := e 3
  simp only [Nat.mul_zero, Nat.zero_add, Nat.mul_one] at e0 e1 e2 e3
  rw [show (1024 : Nat) = 256 + (256 + (256 + 256)) from rfl, sumN_split, sumN_split, sumN_split]
  show _ = 0 + row8 F T first 0 + row8 F T first 1 + row8 F T first 2 + row8 F T first 3
  rw [← e0, ← e1, ← e2, ← e3]
  simp only [← Nat.add_assoc, Nat.reduceAdd, Nat.reduceMul]
  omega
theorem sumN_add (f g : Nat → Nat) : ∀ n : Nat, sumN (fun i => f i + g i) n = sumN f n + sumN g n
  | 0 => rfl
  | n + 1 => by rw [sumN, sumN_add f g n, sumN, sumN]; omega
theorem row8_0 {F : Nat → Nat} {T : Nat → TB} {first : Bool} {i : Nat} (h : ∀ k, k < 256 → F (256 * i + k) = 0) : row8 F T first i = 0 := by
  unfold row8
  rw [← sumN_zero 256]
  exact sumN_congr fun k hk => by rw [h k hk, Nat.zero_mul]
theorem stuff_ex : ∀ l : List Nat, (stuff l).length = l.length + l.count 255 ∧ (stuff l).count 255 = l.count 255
  | [] => ⟨rfl, rfl⟩
  | b :: l => by
    obtain ⟨h1, h2⟩ := stuff_ex l
    have e : stuff (b :: l) = (if b = 255 then [255, 0] else [b]) ++ stuff l := by simp [stuff]
    rw [e, List.length_append, List.count_append, h1, h2]
    by_cases hb : b = 255
    · subst hb
      rw [if_pos rfl, List.count_cons_self]
      constructor
      · simp; omega
      · show List.count 255 [255, 0] + _ = _
        have : List.count 255 ([255, 0] : List Nat) = 1 := by decide
        omega
    · rw [if_neg hb, List.count_cons_of_ne (by simpa using hb)]
      constructor
      · simp; omega
      · rw [List.count_singleton, if_neg (by simpa using hb), Nat.zero_add]
theorem stuff_byte8 {l : List Nat} (h : ∀ b ∈ l, b < 256) : ∀ b ∈ stuff l, b < 256 := fun b hb => by
  obtain ⟨x, hx, hy⟩ := List.mem_flatMap.1 hb
  have := h x hx
  split at hy
  · simp at hy; omega
  · simp at hy; omega
theorem bt_of {l : List Nat} (hl : ∀ b ∈ l, b < 256) {i y : Nat} (h : l[i]? = some y) : bt (bytesOf l) (i : Int) = (y : Int) := by
  rw [byt_cast, byt_list (bytesOf_get hl h).1, (bytesOf_get hl h).2]
end Go.Proofs.Ytmnoecpnoofdjaa.G
