/- Walks over the blocks of units. -/
import Derived.Test.YtlonijlcddlhjaaZ14
import Derived.Test.YtlonijlcddlhjaaZSW
namespace Go.Proofs.Ytlonijlcddlhjaa.G
open Go.RowKit
set_option linter.unusedVariables false
set_option linter.unusedSimpArgs false

/-! ### lists one behind the other -/
def cat {α : Type} (f : Nat → List α) : Nat → List α
  | 0 => []
  | n + 1 => cat f n ++ f n
theorem cat_pre {α : Type} (f : Nat → List α) {i : Nat} : ∀ {m : Nat}, i < m → ∃ l, cat f m = cat f i ++ (f i ++ l)
  | 0, h => by omega
  | m + 1, h => by
    rcases Nat.lt_succ_iff_lt_or_eq.1 h with h1 | h1
    · obtain ⟨l, hl⟩ := cat_pre f h1
      exact ⟨l ++ f m, by rw [cat, hl]; simp⟩
    · subst h1; exact ⟨[], by simp [cat]⟩
theorem cat_get {α : Type} (f : Nat → List α) {i m n : Nat} {x : α} (h : i < m) (hx : (f i)[n]? = some x) : (cat f m)[(cat f i).length + n]? = some x := by
  obtain ⟨l, hl⟩ := cat_pre f h
  have hn := (List.getElem?_eq_some_iff.1 hx).1
  rw [hl, List.getElem?_append_right (by omega), show (cat f i).length + n - (cat f i).length = n from by omega, List.getElem?_append_left hn]
  exact hx
theorem cat_len {α : Type} (f : Nat → List α) (n : Nat) : (cat f (n + 1)).length = (cat f n).length + (f n).length := by simp [cat]

/-! ### the blocks of a unit -/
abbrev Sp := Int × Int × Int × Int × Bool
def cSp (s : Sp) : List Value := c50 s.1 s.2.1 s.2.2.1 s.2.2.2.1 s.2.2.2.2
theorem cSp_len (s : Sp) : (cSp s).length = 5 := rfl
theorem cSp_ones (s : Sp) : ∀ u ∈ cSp s, u.oneCell' = true := one50 _ _ _ _ _
open Classical in
noncomputable def spotAt (w h : Int) (cs : List Cp) (i : Nat) (p : Pa) (c : Cp) (col row : Int) (n : Nat) : Sp :=
  ((i : Int), p.comp, col * c.h + (n : Int) % c.h, row * c.v + (n : Int) / c.h, decide (col * c.h + (n : Int) % c.h < (Blo w h cs p.comp).1 ∧ row * c.v + (n : Int) / c.h < (Blo w h cs p.comp).2))
noncomputable def partL (w h : Int) (cs : List Cp) (ps : List Pa) (col row : Int) (i : Nat) : List Sp :=
  match ps[i]? with
  | some p => match cs[p.comp.toNat]? with
    | some c => (List.range (c.h * c.v).toNat).map (spotAt w h cs i p c col row)
    | none => []
  | none => []
noncomputable def unitL (w h : Int) (cs : List Cp) (ps : List Pa) (col row : Int) : List Sp :=
  if ps.length = 1 then [(0, (ps.map Pa.comp).headD 0, col, row, true)] else cat (partL w h cs ps col row) ps.length
/-- The blocks of m units from f on. -/
noncomputable def walkL (w h : Int) (cs : List Cp) (ps : List Pa) (f m : Nat) : List Sp := cat (fun k => unitL w h cs ps (((f + k : Nat) : Int) % (Uni w h cs ps).1) (((f + k : Nat) : Int) / (Uni w h cs ps).1)) m
theorem partL_eq {w h : Int} {cs : List Cp} {ps : List Pa} {col row : Int} {i : Nat} {p : Pa} {c : Cp} (hp : ps[i]? = some p) (hc : cs[p.comp.toNat]? = some c) : partL w h cs ps col row i = (List.range (c.h * c.v).toNat).map (spotAt w h cs i p c col row) := by
  unfold partL
  simp only [hp, hc]
theorem part_in {cs : List Cp} {ps : List Pa} (hB : ¬ PBad cs ps) {i : Nat} {p : Pa} (hi : ps[i]? = some p) : 0 ≤ p.comp ∧ p.comp < cs.length := by
  have : ¬ PtBad cs ps i p := fun hh => hB ⟨i, _, hi, hh⟩
  unfold PtBad at this
  omega
structure SB (H : Hp) (g w h : Int) (s t : Sl) (cs : List Cp) (ps : List Pa) (b1 b3 b5 b7 : Nat) (col row : Int) : Prop where
  f3 : Bk H b3 32 [.slice t.a t.n t.c]
  f5 : Bk H b5 3 [.int .i64 col]
  f7 : Bk H b7 3 [.int .i64 row]
  f1 : Bk H b1 26 (c26 g w h s)
  hs : Cs H s cs
  ht : Ps H t ps
  lt : ∀ b ∈ fp s ++ fp t, b < H.size
theorem SB.ch {H H' : Hp} {g w h : Int} {s t : Sl} {cs : List Cp} {ps : List Pa} {b1 b3 b5 b7 : Nat} {col row : Int} {F : List Nat} (a : SB H g w h s t cs ps b1 b3 b5 b7 col row) (k : Ch F H H') (hF : ∀ b ∈ b1 :: b3 :: b5 :: b7 :: (fp s ++ fp t), b ∉ F) : SB H' g w h s t cs ps b1 b3 b5 b7 col row :=
  ⟨a.f3.ch k (hF _ (by simp)), a.f5.ch k (hF _ (by simp)), a.f7.ch k (hF _ (by simp)), a.f1.ch k (hF _ (by simp)), a.hs.ch k fun b hb => hF b (by simp [hb]), a.ht.ch k fun b hb => hF b (by simp [hb]), fun b hb => by have := a.lt b hb; have := k.size; omega⟩
theorem SB.keep {H H' : Hp} {g w h : Int} {s t : Sl} {cs : List Cp} {ps : List Pa} {b1 b3 b5 b7 : Nat} {col row : Int} (a : SB H g w h s t cs ps b1 b3 b5 b7 col row) (k : Keep H H') : SB H' g w h s t cs ps b1 b3 b5 b7 col row := a.ch (k.ch (F := [])) (by simp)
theorem SB.lts {H : Hp} {g w h : Int} {s t : Sl} {cs : List Cp} {ps : List Pa} {b1 b3 b5 b7 : Nat} {col row : Int} (a : SB H g w h s t cs ps b1 b3 b5 b7 col row) : ∀ b ∈ b1 :: b3 :: b5 :: b7 :: (fp s ++ fp t), b < H.size := fun b hb => by
  rcases List.mem_cons.1 hb with rfl | hb
  · exact a.f1.lt
  rcases List.mem_cons.1 hb with rfl | hb
  · exact a.f3.lt
  rcases List.mem_cons.1 hb with rfl | hb
  · exact a.f5.lt
  rcases List.mem_cons.1 hb with rfl | hb
  · exact a.f7.lt
  exact a.lt b hb
section
variable {w h g : Int} {s t : Sl} {cs : List Cp} {ps : List Pa} {H : Hp}
open Classical in
theorem spots_seq {b1 b3 b5 b7 : Nat} {col row : Int} (sb : SB H g w h s t cs ps b1 b3 b5 b7 col row) (hok : ∀ c ∈ cs, c.ok) (hP : Prt w h cs ps = 0) (hcol : 0 ≤ col ∧ col ≤ 262140) (hrow : 0 ≤ row ∧ row ≤ 262140) :
    SeqG (fun Y H Q => geom_spots_1.s Y ⟨b3, 0, none⟩ ⟨b5, 0, none⟩ ⟨b7, 0, none⟩ ⟨b1, 0, none⟩ H Q) H (b1 :: b3 :: b5 :: b7 :: (fp s ++ fp t)) (unitL w h cs ps col row) := by
  intro Y Q I Z G0 hG h0 hk hlt hY hQ hZ
  obtain ⟨hC, fr, hL, hB, hU⟩ := prt_fr hP
  have hm := sb.ht.n
  have hn := sb.hs.n
  have hlc : cs.length ≤ 140737488355328 := by have := fr.n; omega
  unfold geom_spots_1.s
  refine ldL_i sb.f3 rfl ?_
  by_cases h1 : ps.length = 1
  · obtain ⟨b, o, ha, hl4⟩ := sb.ht.get (get_some (show 0 < ps.length by omega))
    have e : (ps.map Pa.comp).headD 0 = ps[0].comp := by
      cases ps with
      | nil => simp at h1
      | cons p r => rfl
    have hu : unitL w h cs ps col row = [((0, ps[0].comp, col, row, true) : Sp)] := by unfold unitL; rw [if_pos h1, e]
    refine ite_t (beqi (by omega)) (ldL_i sb.f3 rfl ⟨by omega, by omega, _, ha, ldI_of hl4 (j := 0) rfl (ldI_i sb.f5 rfl (ldI_i sb.f7 rfl ?_))⟩)
    exact hY 0 G0 _ _ _ (by rw [hu]; rfl) h0 (fun G' H' hI c g => hQ G' _ (by rw [hu]; exact hI)) fun H' hz c => hZ _ hz
  refine ite_f (beqf (by omega)) (ldL_i sb.f3 rfl ?_)
  have hu : unitL w h cs ps col row = cat (partL w h cs ps col row) ps.length := by unfold unitL; rw [if_neg h1]
  refine Fix.intro (fun (x : Int) H' => ∃ i : Nat, x = (i : Int) ∧ i ≤ ps.length ∧ SB H' g w h s t cs ps b1 b3 b5 b7 col row ∧ ∃ G, I (cat (partL w h cs ps col row) i).length G H' ∧ ∀ b ∈ b1 :: b3 :: b5 :: b7 :: (fp s ++ fp t), b ∉ G) (fun (x : Int) _ => ps.length - x.toNat) ⟨0, rfl, by omega, sb, G0, h0, fun b hb hh => hG b hh hb⟩ ?_
  rintro _ H23 ⟨i, rfl, hi, sb23, G, hI, hGP⟩ rec hrec
  by_cases hil : i < ps.length
  rotate_left
  · refine ite_f (decf (by omega)) (hQ G _ ?_)
    rw [hu]
    obtain rfl : i = ps.length := by omega
    exact hI
  obtain ⟨p, hp⟩ : ∃ p, ps[i]? = some p := ⟨_, get_some hil⟩
  obtain ⟨pc0, pc1⟩ := part_in hB hp
  obtain ⟨c, hc⟩ : ∃ c, cs[p.comp.toNat]? = some c := ⟨_, get_some (by omega)⟩
  obtain ⟨⟨ch1, ch4⟩, cv1, cv4⟩ := fr.fac c (List.mem_of_getElem? hc)
  obtain ⟨m1, m16⟩ := mul16 ⟨ch1, ch4⟩ ⟨cv1, cv4⟩
  have hpl := partL_eq (w := w) (h := h) (col := col) (row := row) hp hc
  obtain ⟨b, o, ha, hA⟩ := sb23.ht.get hp
  refine ite_t (dect (by omega)) ⟨by omega, by omega, _, ha, ?_⟩
  rw [Int.toNat_natCast]
  refine ⟨_, _, _, hA, ?_⟩
  intro b34 H36 c36 f36 f36'
  have k36 : Keep H23 H36 := c36.keep (by simp)
  have sb36 := sb23.keep k36
  refine ⟨_, _, _, _, ldA_full sb36.f1, gBlocks_ok sb36.hs hok hlc fun H43 k43 => ⟨Pv.keep k43 (by simp; omega), ?_⟩⟩
  have y43 := k43.size
  have sb43 := sb36.keep k43
  have hlG := hlt _ _ _ hI
  obtain ⟨bc, oc, hac, hAc⟩ := sb43.hs.get hc
  refine ldL_a sb43.f1 rfl ⟨pc0, by omega, _, hac, ldI_of hAc (j := 1) rfl (ldL_a sb43.f1 rfl ⟨pc0, by omega, _, hac, ldI_of hAc (j := 2) rfl ?_⟩)⟩
  rw [wu (x := c.h) (by omega), wu (x := c.v) (by omega), w64 (x := c.h * c.v) (by omega)]
  refine Fix.intro (fun (x : Int) H' => ∃ n : Nat, x = (n : Int) ∧ n ≤ (c.h * c.v).toNat ∧ SB H' g w h s t cs ps b1 b3 b5 b7 col row ∧ ∃ G, I ((cat (partL w h cs ps col row) i).length + n) G H' ∧ (∀ b ∈ b1 :: b3 :: b5 :: b7 :: (fp s ++ fp t), b ∉ G) ∧ b34 ∉ G ∧ b34 < H'.size) (fun (x : Int) _ => (c.h * c.v).toNat - x.toNat) ⟨0, rfl, by omega, sb43, G, hk _ _ _ _ hI (k36.trans k43), hGP, fun hh => by have := hlG _ hh; omega, by omega⟩ ?_
  rintro _ H65 ⟨n, rfl, hn', sb65, G', hI65, hGP', h34, l34⟩ rec2 hrec2
  by_cases hnm : n < (c.h * c.v).toNat
  rotate_left
  · refine ite_f (decf (by omega)) ?_
    rw [show (i : Int) + 1 = ((i + 1 : Nat) : Int) from by omega, w64 (by omega)]
    refine hrec _ _ ⟨i + 1, rfl, by omega, sb65, G', ?_, hGP'⟩ (by simp; omega)
    rw [cat_len, hpl, List.length_map, List.length_range, show (c.h * c.v).toNat = n from by omega]
    exact hI65
  refine ite_t (dect (by omega)) ⟨by omega, by omega, ldI_i sb65.f5 rfl (ldI_i sb65.f7 rfl ?_)⟩
  intro b76 H77 c77 f76 f76'
  have k77 : Keep H65 H77 := c77.keep (by simp)
  have sb77 := sb65.keep k77
  refine ⟨by rw [sb77.f7.cell]; rfl, by rw [sb77.f5.cell]; rfl, fun H80 c80 hb76 => ?_⟩
  have y65 := k77.size
  have k80 : Keep H65 H80 := (k77.ch (F := [])).trans c80 (by simp; omega) |>.keep (by simp)
  have y80 := k80.size
  have hx : col * c.h ≤ 262140 * 4 ∧ 0 ≤ col * c.h := ⟨Int.mul_le_mul hcol.2 ch4 (by omega) (by omega), Int.mul_nonneg hcol.1 (by omega)⟩
  have hy : row * c.v ≤ 262140 * 4 ∧ 0 ≤ row * c.v := ⟨Int.mul_le_mul hrow.2 cv4 (by omega) (by omega), Int.mul_nonneg hrow.1 (by omega)⟩
  have em : Int.tmod (n : Int) c.h = (n : Int) % c.h := Int.tmod_eq_emod_of_nonneg (by omega)
  have ed : Int.tdiv (n : Int) c.h = (n : Int) / c.h := Int.tdiv_eq_ediv_of_nonneg (by omega)
  have hm0 := Int.emod_nonneg (n : Int) (b := c.h) (by omega)
  have hm1 := Int.emod_lt_of_pos (n : Int) (b := c.h) (by omega)
  have hd0 : 0 ≤ (n : Int) / c.h := Int.ediv_nonneg (by omega) (by omega)
  have hd1 : (n : Int) / c.h ≤ n := Int.ediv_le_self _ (by omega)
  rw [em, ed, w64 (x := col * c.h) (by omega), w64 (x := row * c.v) (by omega), w64 (x := (n : Int) / c.h) (by omega), w64 (x := col * c.h + (n : Int) % c.h) (by omega), w64 (x := row * c.v + (n : Int) / c.h) (by omega)] at hb76
  refine Join.intro (fun (_ : Unit) H' => Bk H' b76 50 (cSp (spotAt w h cs i p c col row n)) ∧ Keep H65 H') ?_ fun J hJ => ?_
  rotate_left
  · have hpv : ∀ {A B : Hp}, Same A B b76 → H65.size ≤ A.size → Pv [b34] A B := fun {A B} ss hA => Pv.ch ss.ch (by simp; omega)
    refine ldI_i hb76 rfl ?_
    by_cases g1 : col * c.h + (n : Int) % c.h < (Blo w h cs p.comp).1
    · refine ite_t (dect g1) (ldI_i hb76 rfl (st_i hb76 (by show 4 < 5; omega) fun H97 b97 s97 => ⟨hpv s97 (by omega), hJ _ _ ⟨?_, k80.same s97 f76⟩⟩))
      have e : cSp (spotAt w h cs i p c col row n) = c50 (i : Int) p.comp (col * c.h + (n : Int) % c.h) (row * c.v + (n : Int) / c.h) (decide (row * c.v + (n : Int) / c.h < (Blo w h cs p.comp).2)) := by
        unfold cSp spotAt
        simp only [g1, true_and]
      rw [e]
      exact b97
    · refine ite_f (decf g1) (st_i hb76 (by show 4 < 5; omega) fun H99 b99 s99 => ⟨hpv s99 (by omega), hJ _ _ ⟨?_, k80.same s99 f76⟩⟩)
      have e : cSp (spotAt w h cs i p c col row n) = c50 (i : Int) p.comp (col * c.h + (n : Int) % c.h) (row * c.v + (n : Int) / c.h) false := by
        unfold cSp spotAt
        simp only [g1, false_and, decide_false]
      rw [e]
      exact b99
  rintro ⟨⟩ H83 ⟨b83, k83⟩
  have y83 := k83.size
  have sb83 := sb65.keep k83
  refine ⟨_, _, _, _, _, ldA_full b83, hY ((cat (partL w h cs ps col row) i).length + n) G' _ H83 _ ?_ (hk _ _ _ _ hI65 k83) ?_ ?_⟩
  · rw [hu]
    refine cat_get _ hil ?_
    rw [hpl, List.getElem?_map, List.getElem?_range hnm]
    rfl
  · intro G'' H91 hI91 c91 g91
    have y91 := c91.size
    refine ⟨Pv.ch c91 (by simp; exact ⟨by omega, h34⟩), ite_f rfl ?_⟩
    rw [show (n : Int) + 1 = ((n + 1 : Nat) : Int) from by omega, w64 (by omega)]
    refine hrec2 _ _ ⟨n + 1, rfl, by omega, sb83.ch c91 hGP', G'', by rw [← Nat.add_assoc]; exact hI91, fun b hb hh => ?_, fun hh => ?_, by omega⟩ (by simp; omega)
    · rcases g91 b hh with q | q
      · exact hGP' b hb q
      · have := sb83.lts b hb; omega
    · rcases g91 _ hh with q | q
      · exact h34 q
      · omega
  · intro H91 hz c91
    exact ⟨Pv.ch c91 (by simp; exact ⟨by omega, h34⟩), ite_t rfl (hZ _ hz)⟩
end

/-! ### the blocks of some units -/
structure WB (H : Hp) (g w h : Int) (s t : Sl) (cs : List Cp) (ps : List Pa) (b5 b40 b1 b3 b26 : Nat) (f e : Nat) : Prop where
  f5 : Bk H b5 3 [.int .i64 (f : Int)]
  f40 : Bk H b40 3 [.int .i64 (e : Int)]
  f1 : Bk H b1 26 (c26 g w h s)
  f3 : Bk H b3 32 [.slice t.a t.n t.c]
  f26 : Bk H b26 3 [.int .i64 (Uni w h cs ps).1]
  hs : Cs H s cs
  ht : Ps H t ps
  lt : ∀ b ∈ fp s ++ fp t, b < H.size
theorem WB.ch {H H' : Hp} {g w h : Int} {s t : Sl} {cs : List Cp} {ps : List Pa} {b5 b40 b1 b3 b26 f e : Nat} {F : List Nat} (a : WB H g w h s t cs ps b5 b40 b1 b3 b26 f e) (k : Ch F H H') (hF : ∀ b ∈ b5 :: b40 :: b1 :: b3 :: b26 :: (fp s ++ fp t), b ∉ F) : WB H' g w h s t cs ps b5 b40 b1 b3 b26 f e :=
  ⟨a.f5.ch k (hF _ (by simp)), a.f40.ch k (hF _ (by simp)), a.f1.ch k (hF _ (by simp)), a.f3.ch k (hF _ (by simp)), a.f26.ch k (hF _ (by simp)), a.hs.ch k fun b hb => hF b (by simp [hb]), a.ht.ch k fun b hb => hF b (by simp [hb]), fun b hb => by have := a.lt b hb; have := k.size; omega⟩
theorem WB.keep {H H' : Hp} {g w h : Int} {s t : Sl} {cs : List Cp} {ps : List Pa} {b5 b40 b1 b3 b26 f e : Nat} (a : WB H g w h s t cs ps b5 b40 b1 b3 b26 f e) (k : Keep H H') : WB H' g w h s t cs ps b5 b40 b1 b3 b26 f e := a.ch (k.ch (F := [])) (by simp)
theorem WB.lts {H : Hp} {g w h : Int} {s t : Sl} {cs : List Cp} {ps : List Pa} {b5 b40 b1 b3 b26 f e : Nat} (a : WB H g w h s t cs ps b5 b40 b1 b3 b26 f e) : ∀ b ∈ b5 :: b40 :: b1 :: b3 :: b26 :: (fp s ++ fp t), b < H.size := fun b hb => by
  rcases List.mem_cons.1 hb with rfl | hb
  · exact a.f5.lt
  rcases List.mem_cons.1 hb with rfl | hb
  · exact a.f40.lt
  rcases List.mem_cons.1 hb with rfl | hb
  · exact a.f1.lt
  rcases List.mem_cons.1 hb with rfl | hb
  · exact a.f3.lt
  rcases List.mem_cons.1 hb with rfl | hb
  · exact a.f26.lt
  exact a.lt b hb
/-- What a walk holds of its own while its asker's blocks are G. -/
structure WC (H0 H : Hp) (g w h : Int) (s t : Sl) (cs : List Cp) (ps : List Pa) (b5 b40 b1 b3 b26 f e : Nat) (yv : Value) (bY : Nat) (Ds : List Nat) (G : List Nat) : Prop where
  wb : WB H g w h s t cs ps b5 b40 b1 b3 b26 f e
  by_ : Bk H bY 60 [yv]
  dfr : Dfr Ds H
  nP : ∀ b ∈ b5 :: b40 :: b1 :: b3 :: b26 :: (fp s ++ fp t), b ∉ G
  nY : bY ∉ G
  nD : ∀ D ∈ Ds, D ∉ G
  lY : H0.size ≤ bY
  lD : ∀ D ∈ Ds, H0.size ≤ D
  lP : ∀ b ∈ b5 :: b40 :: b1 :: b3 :: b26 :: (fp s ++ fp t), b < H0.size
section
variable {H0 H H' : Hp} {g w h : Int} {s t : Sl} {cs : List Cp} {ps : List Pa} {b5 b40 b1 b3 b26 f e : Nat} {yv : Value} {bY : Nat} {Ds G F : List Nat}
theorem WC.keep (a : WC H0 H g w h s t cs ps b5 b40 b1 b3 b26 f e yv bY Ds G) (k : Keep H H') : WC H0 H' g w h s t cs ps b5 b40 b1 b3 b26 f e yv bY Ds G :=
  ⟨a.wb.keep k, a.by_.keep k, a.dfr.keep k, a.nP, a.nY, a.nD, a.lY, a.lD, a.lP⟩
/-- A block of the walk's own turns. -/
theorem WC.one {L : Nat} (a : WC H0 H g w h s t cs ps b5 b40 b1 b3 b26 f e yv bY Ds G) (k : Same H H' L) (h0 : H0.size ≤ L) (h1 : L ≠ bY) (h2 : L ∉ Ds) : WC H0 H' g w h s t cs ps b5 b40 b1 b3 b26 f e yv bY Ds G :=
  ⟨a.wb.ch k.ch (fun b hb hh => by have := a.lP b hb; simp at hh; omega), a.by_.same k h1.symm, Dfr.ch k.ch a.dfr (fun D hD hh => by simp at hh; subst hh; exact h2 hD), a.nP, a.nY, a.nD, a.lY, a.lD, a.lP⟩
/-- The asker's blocks have turned. -/
theorem WC.step {G' : List Nat} (a : WC H0 H g w h s t cs ps b5 b40 b1 b3 b26 f e yv bY Ds G) (k : Ch G H H') (hG : ∀ b ∈ G', b ∈ G ∨ H.size ≤ b) : WC H0 H' g w h s t cs ps b5 b40 b1 b3 b26 f e yv bY Ds G' :=
  ⟨a.wb.ch k a.nP, a.by_.ch k a.nY, Dfr.ch k a.dfr a.nD, fun b hb hh => (hG b hh).elim (a.nP b hb) fun q => by have := a.wb.lts b hb; omega, fun hh => (hG _ hh).elim a.nY fun q => by have := a.by_.lt; omega,
    fun D hD hh => (hG D hh).elim (a.nD D hD) fun q => by have := a.dfr.lt D hD; omega, a.lY, a.lD, a.lP⟩
theorem uni_has (hU : (Uni w h cs ps).1 ≠ 0) : Prt w h cs ps = 0 := by
  by_cases hP : Prt w h cs ps = 0
  · exact hP
  · rw [uni_no hP] at hU
    exact absurd rfl hU
set_option maxHeartbeats 1000000 in
theorem walk_seq (wb : WB H g w h s t cs ps b5 b40 b1 b3 b26 f e) (hok : ∀ c ∈ cs, c.ok) (hfe : f ≤ e) (he : (e : Int) ≤ (Uni w h cs ps).1 * (Uni w h cs ps).2) (yv : Value) :
    SeqW (fun Y H Q => geom_Walk_1.s yv Y ⟨b5, 0, none⟩ ⟨b40, 0, none⟩ ⟨b1, 0, none⟩ ⟨b3, 0, none⟩ ⟨b26, 0, none⟩ H Q) H (b5 :: b40 :: b1 :: b3 :: b26 :: (fp s ++ fp t)) (walkL w h cs ps f (e - f)) := by
  intro Y Q I Z G0 hG h0 hk hkz hlt hY hQ hZ
  obtain ⟨⟨x0, x1⟩, y0, y1⟩ := uni_le (w := w) (h := h) (cs := cs) (ps := ps)
  obtain ⟨a0, a1⟩ := uni_area (w := w) (h := h) (cs := cs) (ps := ps)
  unfold geom_Walk_1.s
  intro bY H2 c2 g2 g2'
  have k2 : Keep H H2 := c2.keep (by simp)
  have y2 := k2.size
  refine ldI_i (wb.f5.keep k2) rfl fun hbY => ?_
  unfold walkL at hY hQ
  generalize hUL : (fun k : Nat => unitL w h cs ps (((f + k : Nat) : Int) % (Uni w h cs ps).1) (((f + k : Nat) : Int) / (Uni w h cs ps).1)) = UL at hY hQ
  have hkk : ∀ {i G H1 H'}, I i G H1 → Keep H1 H' → I i G H' := fun {i G H1 H'} hi k => hk i G H1 H' [] hi k.ch (by simp)
  refine Fix.intro (fun (x : Int × List Nat) H' => ∃ (k : Nat) (G : List Nat), x.1 = ((f + k : Nat) : Int) ∧ f + k ≤ e ∧ WC H H' g w h s t cs ps b5 b40 b1 b3 b26 f e yv bY x.2 G ∧ I (cat UL k).length G H') (fun x _ => e - x.1.toNat)
    ⟨0, G0, rfl, by omega, ⟨wb.keep k2, hbY, trivial, fun b hb hh => hG b hh hb, fun hh => by have := hlt _ _ _ h0 _ hh; omega, by simp, g2, by simp, wb.lts⟩, hkk h0 k2⟩ ?_
  rintro ⟨_, Ds⟩ H8 ⟨k, G, rfl, hk', wc, hI⟩ rec hrec
  simp only at wc ⊢
  have w8 := wc.wb
  refine ldI_i w8.f40 rfl ?_
  by_cases hke : f + k < e
  rotate_left
  · refine ite_f (decf (by omega)) (tkD_ok wc.dfr fun H' c' z => hQ G _ ?_)
    rw [show e - f = k from by omega]
    exact hk _ _ _ _ Ds hI c' fun D hD => ⟨wc.lD D hD, wc.nD D hD⟩
  have hU0 : (Uni w h cs ps).1 ≠ 0 := fun hh => by rw [hh] at he; omega
  have hP := uni_has hU0
  refine ite_t (dect (by omega)) ⟨_, _, _, _, ldA_full w8.f1, ldL_i w8.f3 rfl (ldI_i w8.f26 rfl ⟨hU0, ldI_i w8.f26 rfl ⟨hU0, ?_⟩⟩)⟩
  unfold geom_spots.s
  intro p1 A1 d1 e1 e1' p3 A2 d2 e2 e2' p5 A3 d3 e3 e3' p7 H28 d4 e4 e4' j3 j5 j7 j1
  have k28 : Keep H8 H28 := (((d1.keep (by simp)).trans (d2.keep (by simp))).trans (d3.keep (by simp))).trans (d4.keep (by simp))
  have z1 := d1.size
  have z2 := d2.size
  have z3 := d3.size
  have z4 := d4.size
  have em : Int.tmod ((f + k : Nat) : Int) (Uni w h cs ps).1 = ((f + k : Nat) : Int) % (Uni w h cs ps).1 := Int.tmod_eq_emod_of_nonneg (by omega)
  have ed : Int.tdiv ((f + k : Nat) : Int) (Uni w h cs ps).1 = ((f + k : Nat) : Int) / (Uni w h cs ps).1 := Int.tdiv_eq_ediv_of_nonneg (by omega)
  have m0 := Int.emod_nonneg ((f + k : Nat) : Int) hU0
  have m1 := Int.emod_lt_of_pos ((f + k : Nat) : Int) (b := (Uni w h cs ps).1) (by omega)
  have q0 : 0 ≤ ((f + k : Nat) : Int) / (Uni w h cs ps).1 := Int.ediv_nonneg (by omega) (by omega)
  have q1 : ((f + k : Nat) : Int) / (Uni w h cs ps).1 < (Uni w h cs ps).2 := Int.ediv_lt_of_lt_mul (by omega) (by rw [Int.mul_comm]; omega)
  rw [em] at j5
  rw [ed, w64 (by omega)] at j7
  have w28 := w8.keep k28
  have sb : SB H28 g w h s t cs ps p1 p3 p5 p7 _ _ := ⟨j3, j5, j7, j1, w28.hs, w28.ht, w28.lt⟩
  have hGl := hlt _ _ _ hI
  have y8 := wc.by_.lt
  have lB := wc.lY
  refine Rg_i fun r H32 hr k32 z32 hD hl => ?_
  have wc32 := wc.keep (k28.trans k32)
  have hul : UL k = unitL w h cs ps (((f + k : Nat) : Int) % (Uni w h cs ps).1) (((f + k : Nat) : Int) / (Uni w h cs ps).1) := by rw [← hUL]
  have DL := wc.dfr.lt
  refine spots_seq (sb.keep k32) hok hP (by omega) (by omega) _ _ (fun i G' H' => ∃ G, G' = (H28.size + 1) :: G ∧ WC H H' g w h s t cs ps b5 b40 b1 b3 b26 f e yv bY (H28.size :: Ds) G ∧ H28.size + 1 ∉ G ∧ I ((cat UL k).length + i) G H' ∧ Lp H' (H28.size + 1) r)
    (fun H' => ∃ G, WC H H' g w h s t cs ps b5 b40 b1 b3 b26 f e yv bY (H28.size :: Ds) G ∧ H28.size + 1 ∉ G ∧ Z G H' ∧ Lp H' (H28.size + 1) (dn r .ret)) ((H28.size + 1) :: G) ?_ ?_ ?_ ?_ ?_ ?_ ?_
  · intro b hb hh
    have l1 := sb.lts b hh
    rcases List.mem_cons.1 hb with rfl | hb
    · omega
    have := hGl b hb
    rcases List.mem_cons.1 hh with rfl | hh
    · omega
    rcases List.mem_cons.1 hh with rfl | hh
    · omega
    rcases List.mem_cons.1 hh with rfl | hh
    · omega
    rcases List.mem_cons.1 hh with rfl | hh
    · omega
    exact wc.nP b (by simp [List.mem_append.1 hh]) hb
  · refine ⟨G, rfl, ⟨wc32.wb, wc32.by_, ⟨hD, fun hh => by have := DL _ hh; omega, wc32.dfr⟩, wc.nP, wc.nY, fun D hD => ?_, wc.lY, fun D hD => ?_, wc.lP⟩, fun hh => by have := hGl _ hh; omega, hkk hI (k28.trans k32), hl⟩
    · rcases List.mem_cons.1 hD with rfl | hD
      · exact fun hh => by have := hGl _ hh; omega
      · exact wc.nD D hD
    · rcases List.mem_cons.1 hD with rfl | hD
      · omega
      · exact wc.lD D hD
  · rintro i _ A B ⟨G, rfl, a1, a2, a3, a4⟩ kk
    exact ⟨G, rfl, a1.keep kk, a2, hkk a3 kk, a4.ch (kk.ch (F := [])) (by simp)⟩
  · rintro i _ A ⟨G, rfl, a1, a2, a3, a4⟩ b hb
    rcases List.mem_cons.1 hb with rfl | hb
    · exact a4.lt
    · exact hlt _ _ _ a3 b hb
  · rintro i _ x H35 K hx ⟨G, rfl, a1, a2, a3, a4⟩ hT hF
    refine ⟨a4, ?_⟩
    intro b38 H40 c40 g38 g38'
    have k40 : Keep H35 H40 := c40.keep (by simp)
    have y40 := k40.size
    have l40 := a4.ch c40 (by simp)
    have zL := a4.lt
    have bL := a1.by_.lt
    refine ⟨l40, Up_s l40 fun H41 s41 l41 => ⟨Pv.ch s41.ch (by simp; omega), ?_⟩⟩
    have y41 := s41.size
    have nY : H28.size + 1 ≠ bY := by omega
    have nDs : H28.size + 1 ∉ H28.size :: Ds := fun hh => by
      rcases List.mem_cons.1 hh with q | q
      · omega
      · have := DL _ q; omega
    have wc41 := (a1.keep k40).one s41 (by omega) nY nDs
    have I41 : I ((cat UL k).length + i) G H41 := hk _ _ _ _ [H28.size + 1] (hkk a3 k40) s41.ch (by simp; exact ⟨by omega, a2⟩)
    refine ⟨yv, by rw [wc41.by_.cell]; rfl, rfl, hY ((cat UL k).length + i) G (x.1, x.2.1, x.2.2.1, x.2.2.2.1, x.2.2.2.2) H41 _ ?_ I41 ?_ ?_⟩
    · exact cat_get UL (by omega) (by rw [hul]; exact hx)
    · intro G' H46 hI46 c46 g46
      have y46 := c46.size
      have nL : H28.size + 1 ∉ G' := fun hh => (g46 _ hh).elim a2 fun q => by omega
      have wc46 := wc41.step c46 g46
      have l46 := l41.ch c46 a2
      refine ite_f rfl ⟨l46, hT ((H28.size + 1) :: G') _ ⟨G', rfl, wc46.one putL_same (by omega) nY nDs, nL, hk _ _ _ _ [H28.size + 1] hI46 putL_same.ch (by simp; exact ⟨by omega, nL⟩), putL_lp l46⟩ ?_ fun b hb => ?_⟩
      · exact (((k40.ch (F := (H28.size + 1) :: G)).trans s41.ch (by simp)).trans c46 (fun b hb => .inl (by simp [hb]))).trans putL_same.ch (by simp)
      · rcases List.mem_cons.1 hb with rfl | hb
        · exact .inl (by simp)
        · rcases g46 b hb with q | q
          · exact .inl (by simp [q])
          · exact .inr (by omega)
    · intro G' H46 hz46 c46 g46
      have y46 := c46.size
      have nL : H28.size + 1 ∉ G' := fun hh => (g46 _ hh).elim a2 fun q => by omega
      have wc46 := wc41.step c46 g46
      have l46 := l41.ch c46 a2
      refine ite_t rfl ⟨l46, hF _ ⟨G', wc46.one putL_same (by omega) nY nDs, nL, hkz _ _ _ [H28.size + 1] hz46 putL_same.ch (by simp; exact ⟨by omega, nL⟩), putL_lp l46⟩ ?_⟩
      exact (((k40.ch (F := (H28.size + 1) :: G)).trans s41.ch (by simp)).trans c46 (fun b hb => .inl (by simp [hb]))).trans putL_same.ch (by simp)
  · rintro _ H36 ⟨G, rfl, a1, a2, a3, a4⟩
    refine .inl ⟨a4, Up_s a4 fun H49 s49 l49 => ?_⟩
    have nDs : H28.size + 1 ∉ H28.size :: Ds := fun hh => by
      rcases List.mem_cons.1 hh with q | q
      · omega
      · have := DL _ q; omega
    rw [show ((f + k : Nat) : Int) + 1 = ((f + (k + 1) : Nat) : Int) from by omega, w64 (by omega)]
    refine hrec _ _ ⟨k + 1, G, rfl, by omega, a1.one s49 (by omega) (by omega) nDs, ?_⟩ (by simp; omega)
    rw [cat_len, hul]
    exact hk _ _ _ _ [H28.size + 1] a3 s49.ch (by simp; exact ⟨by omega, a2⟩)
  · rintro H36 ⟨G, a1, a2, a3, a4⟩
    refine .inr ⟨a4, Up_s a4 fun H50 s50 _ => ?_⟩
    have nDs : H28.size + 1 ∉ H28.size :: Ds := fun hh => by
      rcases List.mem_cons.1 hh with q | q
      · omega
      · have := DL _ q; omega
    have wc50 := a1.one s50 (by omega) (by omega) nDs
    refine tkD_ok wc50.dfr fun H51 c51 z51 => hZ G _ ?_
    exact hkz _ _ _ _ (hkz _ _ _ [H28.size + 1] a3 s50.ch (by simp; exact ⟨by omega, a2⟩)) c51 fun D hD => ⟨a1.lD D hD, a1.nD D hD⟩
end
end Go.Proofs.Ytlonijlcddlhjaa.G
