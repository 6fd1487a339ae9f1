/- Lists of lists: written over, gone on with. -/
import Derived.Test.YtlfdfikgbdgfdaaZW
namespace Go.Proofs.Ytlfdfikgbdgfdaa.G
open Go.RowKit
set_option linter.unusedVariables false
set_option linter.unusedSimpArgs false
set_option maxRecDepth 20000

def cL (s : Sl) : List Value := [.slice s.a s.n s.c]
theorem cL_len (s : Sl) : (cL s).length = 1 := rfl
theorem cL_ones (s : Sl) : ∀ u ∈ cL s, u.oneCell' = true := ones_cons rfl ones_nil
theorem ldL_of0 {H : Hp} {p : Addr} {s : Sl} {K : Sl → Prop} (h : ldA H p (cL s)) (hK : K s) : ldL H p K := ⟨s, by have := h.2 0 _ rfl; rwa [Addr.add, if_pos rfl] at this, hK⟩
theorem apS_two {H : Hp} {s : Sl} {T : TypeId} {sz bytes m : Nat} {z : Array Value} {cs xs : List Value} {K : Sl → Hp → Prop} (h : Own H T sz s cs) (h1 : ∀ u ∈ cs, u.oneCell' = true) (hx : xs.length = m * sz) (hz : z.size = sz) (hm : 0 < m) (hsz : 0 < sz)
    (hb : (s.n + m) * bytes ≤ 140737488355328) (hb' : 0 < bytes)
    (hK : ∀ s' H', Own H' T sz s' (cs ++ xs) → (s'.a = s.a ∧ Ch (fp s) H H') ∨ (Keep H H' ∧ ∀ k ∈ fp s', H.size ≤ k) → K s' H') : apS H s T sz bytes z m xs K := by
  refine ⟨fun hc => ?_, fun hc => ?_⟩
  · rcases h with ⟨rfl, rfl⟩ | ⟨b, sp, ha, hB, hl, hsp, hn⟩
    · simp at hc; omega
    · have hsl : xs.length ≤ sp.length := by
        rw [hsp, hx]
        exact Nat.mul_le_mul_right _ (by omega)
      obtain ⟨g1, g2⟩ := setsAt_own hB hsl
      rw [hl] at g1 g2
      refine .inr ⟨b, 0, ha, ⟨rfl, fun j hj => ?_⟩, hK _ _ ?_ (.inl ⟨ha.symm, ?_⟩)⟩
      · rw [add_mk, hB.cell, hB.unfrozen]
        exact ⟨⟨_, List.getElem?_eq_getElem (by simp; omega)⟩, rfl⟩
      · rw [Nat.zero_add]
        refine .inr ⟨b, sp.drop xs.length, rfl, g1, by simp [hl, hx, Nat.add_mul], ?_, hc⟩
        simp [hsp, hx, ← Nat.sub_mul]
        congr 1
        omega
      · rw [Nat.zero_add]
        simpa [fp, ha] using g2.ch
  · refine ⟨cs, h.length, h.read h1, hb, ?_, fun cap hcap => hK _ _ ?_ (.inr ⟨?_, ?_⟩)⟩
    · have : (s.n + m) * 1 ≤ (s.n + m) * bytes := Nat.mul_le_mul_left _ hb'
      omega
    · refine .inr ⟨H.size, (Builtin.zeroCells z (cap - (s.n + m))).toList, rfl, ?_, by simp [h.length, hx, Nat.add_mul], ?_, hcap⟩
      · unfold Bk
        simp
      · rw [Array.length_toList, size_zeroCells, hz]
    · refine ⟨by simp, fun k hk => ?_⟩
      rw [Array.getElem?_push, if_neg (by omega)]
    · intro k hk
      simp [fp] at hk
      omega
section
variable {α : Type} {f : α → List Value} {T TL : TypeId} {sz bytes : Nat}
theorem push2 {H : Hp} {z : Array Value} {l : Sl} {xs : List α} {x : α} {K : Sl → Hp → Prop} (o : Own H T sz l (xs.flatMap f)) (hf : ∀ x, (f x).length = sz) (h1 : ∀ x, ∀ u ∈ f x, u.oneCell' = true) (hz : z.size = sz) (hsz : 0 < sz) (hb' : 0 < bytes) (hb : (xs.length + 1) * bytes ≤ 140737488355328)
    (h : ∀ l' H', Own H' T sz l' ((xs ++ [x]).flatMap f) → (l'.a = l.a ∧ Ch (fp l) H H') ∨ (Keep H H' ∧ ∀ k ∈ fp l', H.size ≤ k) → K l' H') : nw H T (f x) fun p H1 => apS H1 l T sz bytes z 1 (f x) K := by
  refine nw_i fun H1 b1 k1 z1 => apS_two (o.kp k1) (fun u hu => ?_) (by rw [hf]; omega) hz (by omega) hsz (by rw [o.count hf hsz]; exact hb) hb' fun l' H' o' d => h l' H' ?_ ?_
  · obtain ⟨y, _, hy⟩ := List.mem_flatMap.1 hu
    exact h1 y u hy
  · rw [List.flatMap_append]
    simpa using o'
  · have := k1.size
    rcases d with ⟨d1, d2⟩ | ⟨d1, d2⟩
    · exact .inl ⟨d1, (k1.ch (F := fp l)).trans d2 fun i hi => .inl hi⟩
    · exact .inr ⟨k1.trans d1, fun k hk => by have := d2 k hk; omega⟩
/-- A slice that begins where a longer one does. -/
theorem share {H : Hp} {l g : Sl} {Y M : List α} (o : SlV H l sz f (Y ++ M)) (ha : l.a = g.a) (hn : g.n = Y.length) (hc : g.n ≤ g.c) : SlV H g sz f Y :=
  ⟨hn, hc, fun i x hx => by
    rw [← ha]
    exact o.at_ i x (by rw [List.getElem?_append_left (List.getElem?_eq_some_iff.1 hx).1]; exact hx)⟩
theorem fp_eq {l g : Sl} (h : l.a = g.a) : fp l = fp g := by unfold fp; rw [h]
theorem mem_all {gs : List Sl} {i : Nat} {s : Sl} (h : gs[i]? = some s) : ∀ b ∈ fp s, b ∈ gs.flatMap fp := fun b hb => List.mem_flatMap.2 ⟨s, List.mem_of_getElem? h, hb⟩
/-- The lists of even number are written full of marks. -/
theorem over2 {a0 : Sl} {gs : List Sl} {X : Nat → List α} {m1 : Nat → α} {MARK : Int → List Value} {NX : Hp → Prop} {H : Hp} (hf : ∀ x, (f x).length = sz) (hsz : 0 < sz)
    (hM : ∀ i : Nat, i < gs.length → MARK (i : Int) = f (m1 i)) (hg : SlV H a0 1 cL gs) (hX : ∀ (i : Nat) (s : Sl), gs[i]? = some s → Own H T sz s ((X i).flatMap f))
    (dj : ∀ (i j : Nat) (s t : Sl), i ≠ j → gs[i]? = some s → gs[j]? = some t → ∀ b ∈ fp s, b ∉ fp t) (da : ∀ b ∈ gs.flatMap fp, b ∉ fp a0) (hN : gs.length ≤ 100) (hL : ∀ i, i < gs.length → (X i).length ≤ 1000000000)
    (hQ : ∀ H', (∀ (i : Nat) (s : Sl), gs[i]? = some s → Own H' T sz s ((if i % 2 = 0 then List.replicate (X i).length (m1 i) else X i).flatMap f)) → Ch (gs.flatMap fp) H H' → NX H') :
    ∃ k22, Fix (fun (rec27 : Int → Hp → Prop) (s24 : Int) (H25 : Hp) => if decide (s24 < (a0.n : Int)) = true then (∃ k28, Fix (fun (rec33 : Int → Hp → Prop) (s30 : Int) (H31 : Hp) => 0 ≤ s24 ∧ s24 < (a0.n : Int) ∧ someA a0.a (fun p36 => ldL H31 (p36.add (Int.toNat s24 * 1)) (fun x38 => if decide (s30 < (x38.n : Int)) = true then (0 ≤ s24 ∧ s24 < (a0.n : Int) ∧ (ldL H31 (p36.add (Int.toNat s24 * 1)) (fun x42 => 0 ≤ s30 ∧ s30 < (x42.n : Int) ∧ someA x42.a (fun p46 => stA H31 (p46.add (Int.toNat s30 * sz)) (MARK s24) (fun H48 => rec33 ((IntKind.wrap .i64 (s30 + 1))) H48))))) else (rec27 ((IntKind.wrap .i64 (s24 + 2))) H31)))) k28 (0) H25) else NX H25) k22 (0) H := by
  have gn := hg.n
  refine Fix.intro (fun (x : Int) H' => ∃ i : Nat, x = (i : Int) ∧ i % 2 = 0 ∧ i ≤ gs.length + 1 ∧ (∀ (j : Nat) (s : Sl), gs[j]? = some s → Own H' T sz s ((if j < i ∧ j % 2 = 0 then List.replicate (X j).length (m1 j) else X j).flatMap f)) ∧ Ch (gs.flatMap fp) H H') (fun x _ => gs.length + 2 - x.toNat)
    ⟨0, rfl, rfl, by omega, fun j s h => by rw [if_neg (by omega)]; exact hX j s h, Ch.refl _ _⟩ ?_
  rintro _ H25 ⟨i, rfl, he, hi, hO, c25⟩ rec hrec
  by_cases hil : i < gs.length
  · obtain ⟨s, hs⟩ : ∃ s, gs[i]? = some s := ⟨_, List.getElem?_eq_getElem hil⟩
    refine ite_t (dect (by omega)) ?_
    refine Fix.intro (fun (x : Int) H' => ∃ k : Nat, x = (k : Int) ∧ k ≤ (X i).length ∧ Own H' T sz s ((List.replicate k (m1 i) ++ (X i).drop k).flatMap f) ∧ Ch (fp s) H25 H') (fun x _ => (X i).length - x.toNat)
      ⟨0, rfl, by omega, by have := hO i s hs; rw [if_neg (by omega)] at this; simpa using this, Ch.refl _ _⟩ ?_
    rintro _ H31 ⟨k, rfl, hk, o31, c31⟩ rec2 hrec2
    have c31' : Ch (gs.flatMap fp) H H31 := c25.trans c31 fun b hb => .inl (mem_all hs b hb)
    obtain ⟨b, o, ha, hA⟩ := (hg.ch c31' fun b hb hh => da b hh hb).get hs
    have sn := (o31.view hf hsz).n
    simp at sn
    have hLi := hL i hil
    refine ⟨by omega, by omega, _, ha, ?_⟩
    rw [Int.toNat_natCast]
    refine ldL_of0 hA ?_
    by_cases hkl : k < (X i).length
    · refine ite_t (dect (by omega)) ⟨by omega, by omega, ldL_of0 hA ⟨by omega, by omega, ?_⟩⟩
      rw [Int.toNat_natCast, hM i hil]
      refine o31.setE (f := f) (i := k) (y := m1 i) hf hsz (by simp; omega) fun H48 o48 c48 _ => ?_
      rw [show (k : Int) + 1 = ((k + 1 : Nat) : Int) from by omega, w64n (by omega)]
      refine hrec2 _ _ ⟨k + 1, rfl, by omega, ?_, c31.same c48⟩ (by simp; omega)
      have e : (List.replicate k (m1 i) ++ (X i).drop k).set k (m1 i) = List.replicate (k + 1) (m1 i) ++ (X i).drop (k + 1) := by
        rw [List.set_append_right _ _ (by simp), List.length_replicate, Nat.sub_self, List.drop_eq_getElem_cons hkl, List.set_cons_zero, List.replicate_succ', List.append_assoc]
        rfl
      rw [← e]
      exact o48
    · obtain rfl : k = (X i).length := by omega
      refine ite_f (decf (by omega)) ?_
      rw [show (i : Int) + 2 = ((i + 2 : Nat) : Int) from by omega, w64n (by omega)]
      refine hrec _ _ ⟨i + 2, rfl, by omega, by omega, fun j t ht => ?_, c31'⟩ (by simp; omega)
      by_cases hji : j = i
      · subst hji
        rw [hs] at ht
        injection ht with ht
        subst ht
        rw [if_pos ⟨by omega, he⟩]
        simpa using o31
      · have := (hO j t ht).ch c31 fun b hb hh => dj j i t s hji ht hs b hb hh
        by_cases hj2 : j % 2 = 0
        · by_cases hlt : j < i
          · rw [if_pos ⟨hlt, hj2⟩] at this
            rw [if_pos ⟨by omega, hj2⟩]; exact this
          · rw [if_neg (by omega)] at this
            rw [if_neg (by omega)]; exact this
        · rw [if_neg (fun x => hj2 x.2)] at this ⊢
          exact this
  · refine ite_f (decf (by omega)) (hQ H25 (fun j s hs => ?_) c25)
    have hj := (List.getElem?_eq_some_iff.1 hs).1
    have := hO j s hs
    by_cases h2 : j % 2 = 0
    · rw [if_pos h2]
      rw [if_pos ⟨by omega, h2⟩] at this
      exact this
    · rw [if_neg h2]
      rw [if_neg (fun x => h2 x.2)] at this
      exact this
/-- The lists of even number are gone on with. -/
theorem long3 {a0 : Sl} {gs : List Sl} {Y : Nat → List α} {m2 : Nat → α} {MARK : Int → List Value} {NX : Sl × Int → Hp → Prop} {H : Hp} {z zL : Array Value} {CNT : Nat} {cnt : Int} (hf : ∀ x, (f x).length = sz) (h1 : ∀ x, ∀ u ∈ f x, u.oneCell' = true) (hsz : 0 < sz) (hz : z.size = sz) (hzL : zL.size = 1) (hb' : 0 < bytes ∧ bytes ≤ 100) (hcnt : cnt = (CNT : Int)) (hC : CNT ≤ 100)
    (hM : ∀ i : Nat, i < gs.length → MARK (i : Int) = f (m2 i)) (hg : SlV H a0 1 cL gs) (hY : ∀ (i : Nat) (s : Sl), gs[i]? = some s → Own H T sz s ((Y i).flatMap f))
    (dj : ∀ (i j : Nat) (s t : Sl), i ≠ j → gs[i]? = some s → gs[j]? = some t → ∀ b ∈ fp s, b ∉ fp t) (da : ∀ b ∈ gs.flatMap fp, b ∉ fp a0) (hal : ∀ b ∈ fp a0, b < H.size) (hN : gs.length ≤ 100) (hL : ∀ i, i < gs.length → (Y i).length ≤ 1000000000)
    (hQ : ∀ long ls H', SlV H' long 1 cL ls → ls.length = gs.length → (∀ (i : Nat) (g : Sl), gs[i]? = some g → i % 2 = 0 → ∃ l, ls[i]? = some l ∧ SlV H' l sz f (Y i ++ List.replicate CNT (m2 i)) ∧ SlV H' g sz f (Y i)) → (∀ (i : Nat) (g : Sl), gs[i]? = some g → i % 2 = 1 → SlV H' g sz f (Y i)) → Ch (gs.flatMap fp) H H' → NX (long, (gs.length : Int)) H') :
    ∃ k49, Fix (fun (rec54 : (Sl × Int) → Hp → Prop) (s51 : Sl × Int) (H52 : Hp) => if decide (s51.2 < (a0.n : Int)) = true then (0 ≤ s51.2 ∧ s51.2 < (a0.n : Int) ∧ someA a0.a (fun p57 => ldL H52 (p57.add (Int.toNat s51.2 * 1)) (fun x59 => ∃ k61, Fix (fun (rec66 : (Sl × Int) → Hp → Prop) (s63 : Sl × Int) (H64 : Hp) => Join (fun (s68 : Bool) (H69 : Hp) => if s68 = true then (nw H69 T (MARK s51.2) (fun p70 H71 => apS H71 s63.1 T sz bytes z 1 (MARK s51.2) (fun l75 H76 => rec66 (l75, (IntKind.wrap .i64 (s63.2 + 1))) H76))) else (nw H69 TL [.slice s63.1.a s63.1.n s63.1.c] (fun p77 H78 => apS H78 s51.1 TL 1 24 zL 1 [.slice s63.1.a s63.1.n s63.1.c] (fun l82 H83 => rec54 (l82, (IntKind.wrap .i64 (s51.2 + 1))) H83)))) (fun (J67 : Bool → Hp → Prop) => if decide (s63.2 < cnt) = true then (J67 (((Int.tmod s51.2 2) == 0)) H64) else (J67 (false) H64))) k61 (x59, 0) H52))) else NX s51 H52) k49 (⟨none, 0, 0⟩, 0) H := by
  subst hcnt
  have gn := hg.n
  have hGl : ∀ {i : Nat} {s : Sl}, gs[i]? = some s → ∀ b ∈ fp s, b < H.size := fun {i s} h b hb => (hY i s h).fp_lt b hb
  refine Fix.intro (fun (x : Sl × Int) H' => ∃ (i : Nat) (ls : List Sl), x.2 = (i : Int) ∧ i ≤ gs.length ∧ ls.length = i ∧ Own H' TL 1 x.1 (ls.flatMap cL) ∧ (∀ b ∈ fp x.1, H.size ≤ b) ∧ Ch (gs.flatMap fp) H H' ∧
      (∀ (j : Nat) (g : Sl), j < i → j % 2 = 0 → gs[j]? = some g → ∃ l, ls[j]? = some l ∧ SlV H' l sz f (Y j ++ List.replicate CNT (m2 j)) ∧ SlV H' g sz f (Y j) ∧ ∀ b ∈ fp l, (b ∈ fp g ∨ H.size ≤ b) ∧ b < H'.size ∧ b ∉ fp x.1) ∧
      (∀ (j : Nat) (g : Sl), i ≤ j ∨ j % 2 = 1 → gs[j]? = some g → Own H' T sz g ((Y j).flatMap f))) (fun x _ => gs.length - x.2.toNat)
    ⟨0, [], rfl, by omega, rfl, Own.nil _ _ _, by simp [fp], Ch.refl _ _, fun j g h => by omega, fun j g _ h => hY j g h⟩ ?_
  rintro ⟨long, _⟩ H52 ⟨i, ls, rfl, hi, hls, oL, fL, c52, A, B⟩ rec hrec
  simp only at oL fL A ⊢
  have y52 := c52.size
  have lL := oL.fp_lt
  by_cases hil : i < gs.length
  rotate_left
  · obtain rfl : i = gs.length := by omega
    refine ite_f (decf (by omega)) (hQ long ls H52 (oL.view cL_len (by omega)) hls (fun j g hg' h2 => ?_) (fun j g hg' h2 => (B j g (.inr h2) hg').view hf hsz) c52)
    obtain ⟨l, q1, q2, q3, _⟩ := A j g (List.getElem?_eq_some_iff.1 hg').1 h2 hg'
    exact ⟨l, q1, q2, q3⟩
  obtain ⟨g, hgi⟩ : ∃ s, gs[i]? = some s := ⟨_, List.getElem?_eq_getElem hil⟩
  obtain ⟨b, o, ha, hA⟩ := (hg.ch c52 fun b hb hh => da b hh hb).get hgi
  have og := B i g (.inl (Nat.le_refl _)) hgi
  have vg := og.view hf hsz
  have vgn := vg.n
  have vgc := vg.c
  have hYi := hL i hil
  refine ite_t (dect (by omega)) ⟨by omega, by omega, _, ha, ?_⟩
  rw [Int.toNat_natCast]
  refine ldL_of0 hA ?_
  -- what goes to the list of lists
  have fin : ∀ (l : Sl) (H69 : Hp), Ch (fp g) H52 H69 → SlV H69 g sz f (Y i) → (i % 2 = 0 → SlV H69 l sz f (Y i ++ List.replicate CNT (m2 i))) → (i % 2 = 1 → Own H69 T sz g ((Y i).flatMap f)) → (∀ b ∈ fp l, (b ∈ fp g ∨ H52.size ≤ b) ∧ b < H69.size) →
      nw H69 TL [.slice l.a l.n l.c] (fun p77 H78 => apS H78 long TL 1 24 zL 1 [.slice l.a l.n l.c] (fun l82 H83 => rec (l82, (IntKind.wrap .i64 ((i : Int) + 1))) H83)) := by
    intro l H69 c69 vg69 vl ho hfl
    have y69 := c69.size
    have dL : ∀ b ∈ fp long, b ∉ fp g := fun b hb hh => by have := fL b hb; have := hGl hgi b hh; omega
    refine push1 (f := cL) (x := l) (oL.ch c69 dL) cL_len cL_ones hzL (by omega) (by omega) (by rw [hls]; omega) fun long' H83 oL' cL' fL' => ?_
    have y83 := cL'.size
    have lo' : ∀ b ∈ fp long', H.size ≤ b := fun b hb => by
      rcases fL' b hb with h | h
      · exact fL b h
      · omega
    have c83 : Ch (gs.flatMap fp) H H83 := (c52.trans c69 fun b hb => .inl (mem_all hgi b hb)).trans cL' fun b hb => .inr (fL b hb)
    rw [show (i : Int) + 1 = ((i + 1 : Nat) : Int) from by omega, w64n (by omega)]
    refine hrec _ _ ⟨i + 1, ls ++ [l], rfl, by omega, by simp [hls], oL', lo', c83, fun j g' hj h2 hgj => ?_, fun j g' hj hgj => ?_⟩ (by simp; omega)
    · by_cases hji : j < i
      · obtain ⟨l', q1, q2, q3, q4⟩ := A j g' hji h2 hgj
        have n1 : ∀ b ∈ fp l', b ∉ fp g := fun b hb hh => by
          rcases (q4 b hb).1 with h | h
          · exact dj j i g' g (by omega) hgj hgi b h hh
          · have := hGl hgi b hh; omega
        have n2 : ∀ b ∈ fp g', b ∉ fp long := fun b hb hh => by have := fL b hh; have := hGl hgj b hb; omega
        refine ⟨l', by rw [List.getElem?_append_left (by omega)]; exact q1, (q2.ch c69 n1).ch cL' fun b hb => (q4 b hb).2.2, (q3.ch c69 fun b hb => dj j i g' g (by omega) hgj hgi b hb).ch cL' n2, fun b hb => ⟨(q4 b hb).1, by have := (q4 b hb).2.1; omega, fun hh => ?_⟩⟩
        rcases fL' b hh with h | h
        · exact (q4 b hb).2.2 h
        · have := (q4 b hb).2.1; omega
      · obtain rfl : j = i := by omega
        rw [hgi] at hgj
        injection hgj with hgj
        subst hgj
        have n2 : ∀ b ∈ fp g, b ∉ fp long := fun b hb hh => dL b hh hb
        have n3 : ∀ b ∈ fp l, b ∉ fp long := fun b hb hh => by
          rcases (hfl b hb).1 with h | h
          · exact dL b hh h
          · have := lL b hh; omega
        refine ⟨l, by rw [List.getElem?_append_right (by omega), hls, Nat.sub_self]; rfl, (vl h2).ch cL' n3, vg69.ch cL' n2, fun b hb => ⟨?_, by have := (hfl b hb).2; omega, fun hh => ?_⟩⟩
        · rcases (hfl b hb).1 with h | h
          · exact .inl h
          · exact .inr (by omega)
        · rcases fL' b hh with h | h
          · exact n3 b hb h
          · have := (hfl b hb).2; omega
    · have n2 : ∀ b ∈ fp g', b ∉ fp long := fun b hb hh => by have := fL b hh; have := hGl hgj b hb; omega
      by_cases hji : j = i
      · subst hji
        rw [hgi] at hgj
        injection hgj with hgj
        subst hgj
        exact (ho (by omega)).ch cL' n2
      · exact ((B j g' (by omega) hgj).ch c69 fun b hb => dj j i g' g hji hgj hgi b hb).ch cL' n2
  have et : (Int.tmod (i : Int) 2 == 0) = decide (i % 2 = 0) := by
    rw [show Int.tmod (i : Int) 2 = ((i % 2 : Nat) : Int) from rfl]
    by_cases h : i % 2 = 0
    · rw [dect h]; exact beqi (by omega)
    · rw [decf h]; exact beqf (by omega)
  refine Fix.intro (fun (x : Sl × Int) H' => ∃ k : Nat, x.2 = (k : Int) ∧ k ≤ CNT ∧ (i % 2 = 1 → k = 0 ∧ x.1 = g ∧ H' = H52) ∧ Own H' T sz x.1 ((Y i ++ List.replicate k (m2 i)).flatMap f) ∧ SlV H' g sz f (Y i) ∧ (x.1.a = g.a ∨ ∀ b ∈ fp x.1, H52.size ≤ b) ∧ Ch (fp g) H52 H') (fun x _ => CNT - x.2.toNat)
    ⟨0, rfl, by omega, fun _ => ⟨rfl, rfl, rfl⟩, by simpa using og, vg, .inl rfl, Ch.refl _ _⟩ ?_
  rintro ⟨l, _⟩ H64 ⟨k, rfl, hk, hodd, ol, vg64, hla, c64⟩ rec2 hrec2
  simp only at hodd ol hla ⊢
  have y64 := c64.size
  have ll := ol.fp_lt
  refine Join.intro (fun b H' => b = decide (k < CNT ∧ i % 2 = 0) ∧ H64 = H') ?_ fun J hJ => ?_
  rotate_left
  · by_cases h : k < CNT
    · refine ite_t (dect (by omega)) (hJ _ _ ⟨?_, rfl⟩)
      rw [et]
      by_cases h2 : i % 2 = 0
      · exact (dect h2).trans (dect ⟨h, h2⟩).symm
      · exact (decf h2).trans (decf fun x => h2 x.2).symm
    · exact ite_f (decf (by omega)) (hJ _ _ ⟨(decf fun x => h x.1).symm, rfl⟩)
  rintro _ _ ⟨rfl, rfl⟩
  by_cases hc : k < CNT ∧ i % 2 = 0
  · refine ite_t (dect hc) ?_
    rw [hM i hil]
    refine push2 (f := f) (x := m2 i) ol hf h1 hz hsz hb'.1 ?_ fun l' H76 o76 d76 => ?_
    · have : ((Y i ++ List.replicate k (m2 i)).length + 1) * bytes ≤ 1000000200 * 100 := Nat.mul_le_mul (by simp; omega) hb'.2
      omega
    · rw [show (k : Int) + 1 = ((k + 1 : Nat) : Int) from by omega, w64n (by omega)]
      rw [List.append_assoc, ← List.replicate_succ'] at o76
      have v76 := o76.view hf hsz
      refine hrec2 _ _ ⟨k + 1, rfl, by omega, fun h => by omega, o76, ?_, ?_, ?_⟩ (by simp; omega)
      · rcases d76 with ⟨d1, d2⟩ | ⟨d1, d2⟩
        · rcases hla with h | h
          · exact share v76 (d1.trans h) vgn vgc
          · exact vg64.ch d2 fun b hb hh => by have := h b hh; have := hGl hgi b hb; omega
        · exact vg64.keep d1
      · rcases d76 with ⟨d1, d2⟩ | ⟨d1, d2⟩
        · rcases hla with h | h
          · exact .inl (d1.trans h)
          · exact .inr fun b hb => h b (by rw [fp_eq d1] at hb; exact hb)
        · exact .inr fun b hb => by have := d2 b hb; omega
      · rcases d76 with ⟨d1, d2⟩ | ⟨d1, d2⟩
        · refine c64.trans d2 fun b hb => ?_
          rcases hla with h | h
          · exact .inl (by rw [fp_eq h] at hb; exact hb)
          · exact .inr (h b hb)
        · exact c64.trans (d1.ch (F := [])) (by simp)
  · refine ite_f (decf hc) (fin l H64 c64 vg64 (fun h2 => ?_) (fun h2 => ?_) fun b hb => ⟨?_, ll b hb⟩)
    · obtain rfl : k = CNT := by omega
      exact ol.view hf hsz
    · obtain ⟨_, _, rfl⟩ := hodd h2
      exact og
    · rcases hla with h | h
      · exact .inl (by rw [fp_eq h] at hb; exact hb)
      · exact .inr (h b hb)
end
end Go.Proofs.Ytlfdfikgbdgfdaa.G
