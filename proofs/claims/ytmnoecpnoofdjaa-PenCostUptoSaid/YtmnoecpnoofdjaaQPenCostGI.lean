/- Of this text what the row needs. -/
import Derived.Test.YtmnoecpnoofdjaaQPenCostGH
import Derived.Test.YtmnoecpnoofdjaaQPenCostGR
namespace Go.Proofs.Ytmnoecpnoofdjaa.G
open Go.RowKit
set_option linter.unusedVariables false
set_option linter.unusedSimpArgs false
structure Ch (F : List Nat) (H H' : Hp) : Prop where
  size : H.size ≤ H'.size
  block : ∀ k, k < H.size → k ∉ F → H'[k]? = H[k]?
theorem Ch.refl (F : List Nat) (H : Hp) : Ch F H H := ⟨Nat.le_refl _, fun _ _ _ => rfl⟩
theorem Ch.trans {F G : List Nat} {A B C : Hp} (h : Ch F A B) (k : Ch G B C) (hs : ∀ i ∈ G, i ∈ F ∨ A.size ≤ i) : Ch F A C :=
  ⟨Nat.le_trans h.size k.size, fun i hi hF => (k.block i (Nat.lt_of_lt_of_le hi h.size) fun hG => by rcases hs i hG with h1 | h1; exact hF h1; omega).trans (h.block i hi hF)⟩
theorem Ch.same {F : List Nat} {A B C : Hp} (h : Ch F A B) (k : Ch F B C) : Ch F A C := h.trans k fun i hi => .inl hi
theorem Ch.mono {F G : List Nat} {A B : Hp} (h : Ch F A B) (hs : ∀ i ∈ F, i ∈ G ∨ A.size ≤ i) : Ch G A B :=
  ⟨h.size, fun i hi hG => h.block i hi fun hF => by rcases hs i hF with h1 | h1; exact hG h1; omega⟩
theorem Ch.nil {F : List Nat} {A B : Hp} (h : Ch [] A B) : Ch F A B := h.mono fun i hi => by cases hi
theorem Ch.keep {F : List Nat} {A B : Hp} (h : Ch F A B) (hs : ∀ i ∈ F, A.size ≤ i) : Keep A B := ⟨h.size, fun i hi => h.block i hi fun hF => by have := hs i hF; omega⟩
theorem Keep.ch {F : List Nat} {A B : Hp} (h : Keep A B) : Ch F A B := ⟨h.size, fun i hi _ => h.block i hi⟩
theorem Same.ch {b : Nat} {A B : Hp} (h : Same A B b) : Ch [b] A B := ⟨by rw [h.size]; exact Nat.le_refl _, fun i hi hb => h.block i (by simpa using hb)⟩
theorem Bk.ch {H H' : Hp} {b : Nat} {T : TypeId} {cs : List Value} {F : List Nat} (h : Bk H b T cs) (c : Ch F H H') (hb : b ∉ F) : Bk H' b T cs := (c.block b h.lt hb).trans h
theorem at_ch {H H' : Hp} {b : Nat} {o : Obj} {F : List Nat} (h : H[b]? = some o) (c : Ch F H H') (hb : b ∉ F) : H'[b]? = some o := (c.block b (Array.getElem?_eq_some_iff.1 h).1 hb).trans h
theorem Lp.ch {H H' : Hp} {b : Nat} {r : Loop} {F : List Nat} (h : Lp H b r) (c : Ch F H H') (hb : b ∉ F) : Lp H' b r := at_ch h c hb
theorem Lp.lt {H : Hp} {l : Nat} {r : Loop} (h : Lp H l r) : l < H.size := (Array.getElem?_eq_some_iff.1 h).1
theorem put_same {H : Hp} {l : Nat} {o : Obj} : Same H (H.setIfInBounds l o) l := ⟨by simp, fun k hk => by rw [Array.getElem?_setIfInBounds_ne (Ne.symm hk)]⟩
theorem putL_same {H : Hp} {l : Nat} {r : Loop} : Same H (putL H l r) l := put_same
theorem putL_lp {H : Hp} {l : Nat} {r q : Loop} (h : Lp H l r) : Lp (putL H l q) l q := by
  unfold Lp putL
  rw [Array.getElem?_setIfInBounds, if_pos rfl, if_pos h.lt]
theorem Up_s {H : Hp} {l : Nat} {r q : Loop} {K : Hp → Prop} (h : Lp H l r) (k : ∀ H', Same H H' l → Lp H' l q → K H') : Up (putL H l q) K := k _ putL_same (putL_lp h)
theorem tkD_cons {H : Hp} {D : Nat} {Ds : List Nat} {K : Hp → Prop} (h : H[D]? = some (.deferred (some []))) (k : ∀ H', Same H H' D → tkD Ds H' K) : tkD (D :: Ds) H K := ⟨h, k _ put_same⟩
def Dfr : List Nat → Hp → Prop
  | [], _ => True
  | D :: Ds, H => H[D]? = some (.deferred (some [])) ∧ D ∉ Ds ∧ Dfr Ds H
theorem Dfr.ch {F : List Nat} {H H' : Hp} (c : Ch F H H') : ∀ {Ds : List Nat}, Dfr Ds H → (∀ D ∈ Ds, D ∉ F) → Dfr Ds H'
  | [], _, _ => trivial
  | D :: Ds, h, hd => ⟨at_ch h.1 c (hd D (by simp)), h.2.1, Dfr.ch c h.2.2 fun D' h' => hd D' (by simp [h'])⟩
theorem Dfr.keep {H H' : Hp} {Ds : List Nat} (h : Dfr Ds H) (k : Keep H H') : Dfr Ds H' := Dfr.ch (k.ch (F := [])) h (by simp)
theorem Dfr.lt {H : Hp} : ∀ {Ds : List Nat}, Dfr Ds H → ∀ D ∈ Ds, D < H.size
  | [], _, _, h => by cases h
  | D :: Ds, h, D', h' => by
    rcases List.mem_cons.1 h' with rfl | h'
    · exact (Array.getElem?_eq_some_iff.1 h.1).1
    · exact Dfr.lt h.2.2 D' h'
theorem tkD_ok {K : Hp → Prop} : ∀ {Ds : List Nat} {H : Hp}, Dfr Ds H → (∀ H', Ch Ds H H' → H'.size = H.size → K H') → tkD Ds H K
  | [], H, _, h => h H (Ch.refl _ _) rfl
  | D :: Ds, H, hd, h => tkD_cons hd.1 fun H' s => tkD_ok (Dfr.ch s.ch hd.2.2 fun D' h' => by simp; exact fun e => hd.2.1 (e ▸ h')) fun H'' c z => h H'' ((s.ch.mono (fun i hi => .inl (by simp at hi; simp [hi]))).trans c fun i hi => .inl (by simp [hi])) (z.trans s.size)
theorem Rg_i {H : Hp} {K : Loop → Nat → Hp → Prop} (h : ∀ r H', Rdy r → Keep H H' → H'.size = H.size + 2 → H'[H.size]? = some (.deferred (some [])) → Lp H' (H.size + 1) r → K r H.size H') : Rg H K := fun r hr => by
  refine h r _ hr ⟨by simp; omega, fun k hk => ?_⟩ (by simp) ?_ ?_
  · rw [Array.getElem?_push, if_neg (by simp; omega), Array.getElem?_push, if_neg (by omega)]
  · rw [Array.getElem?_push, if_neg (by simp), Array.getElem?_push, if_pos rfl]
  · unfold Lp; rw [Array.getElem?_push, if_pos (by simp)]
def fp (s : Sl) : List Nat := match s.a with | some p => [p.block] | none => []
def Own (H : Hp) (T : TypeId) (sz : Nat) (s : Sl) (cs : List Value) : Prop :=
  (s = ⟨none, 0, 0⟩ ∧ cs = []) ∨ ∃ b sp, s.a = some ⟨b, 0, none⟩ ∧ Bk H b T (cs ++ sp) ∧ cs.length = s.n * sz ∧ sp.length = (s.c - s.n) * sz ∧ s.n ≤ s.c
theorem Own.nil (H : Hp) (T : TypeId) (sz : Nat) : Own H T sz ⟨none, 0, 0⟩ [] := .inl ⟨rfl, rfl⟩
theorem Own.length {H : Hp} {T : TypeId} {sz : Nat} {s : Sl} {cs : List Value} (h : Own H T sz s cs) : cs.length = s.n * sz := by
  rcases h with ⟨rfl, rfl⟩ | ⟨b, sp, _, _, h, _⟩
  · simp
  · exact h
theorem Own.fp_lt {H : Hp} {T : TypeId} {sz : Nat} {s : Sl} {cs : List Value} (h : Own H T sz s cs) : ∀ k ∈ fp s, k < H.size := by
  rcases h with ⟨rfl, rfl⟩ | ⟨b, sp, ha, hb, _⟩
  · simp [fp]
  · simp [fp, ha, hb.lt]
theorem Own.ch {H H' : Hp} {T : TypeId} {sz : Nat} {s : Sl} {cs : List Value} {F : List Nat} (h : Own H T sz s cs) (c : Ch F H H') (hd : ∀ k ∈ fp s, k ∉ F) : Own H' T sz s cs := by
  rcases h with ⟨rfl, rfl⟩ | ⟨b, sp, ha, hb, h1, h2, h3⟩
  · exact .inl ⟨rfl, rfl⟩
  · exact .inr ⟨b, sp, ha, hb.ch c (hd b (by simp [fp, ha])), h1, h2, h3⟩
theorem Own.read {H : Hp} {T : TypeId} {sz : Nat} {s : Sl} {cs : List Value} (h : Own H T sz s cs) (h1 : ∀ u ∈ cs, u.oneCell' = true) : rdS H s.a cs := by
  refine ⟨h1, fun j v hv => ?_⟩
  rcases h with ⟨rfl, rfl⟩ | ⟨b, sp, ha, hb, _⟩
  · simp at hv
  · refine ⟨_, ha, ?_⟩
    rw [add_mk, Nat.zero_add, hb.cell]
    rw [List.getElem?_append_left (Array.getElem?_eq_some_iff.1 (by simpa using hv : cs.toArray[j]? = some v)).1]
    exact hv
theorem setsAt_own {H : Hp} {b : Nat} {T : TypeId} {cs sp xs : List Value} (hb : Bk H b T (cs ++ sp)) (hx : xs.length ≤ sp.length) :
    Bk (setsAt H b cs.length xs) b T ((cs ++ xs) ++ sp.drop xs.length) ∧ Same H (setsAt H b cs.length xs) b := by
  obtain ⟨h1, h2⟩ := setsAt_bk xs H cs.length (cs ++ sp) hb (by simp; omega)
  refine ⟨?_, h2⟩
  have e : List.take cs.length (cs ++ sp) ++ xs ++ List.drop (cs.length + xs.length) (cs ++ sp) = (cs ++ xs) ++ sp.drop xs.length := by
    rw [List.take_left' rfl, List.drop_append, List.drop_eq_nil_of_le (by omega)]
    simp
  rw [e] at h1
  exact h1
theorem apS_own {H : Hp} {s : Sl} {T : TypeId} {sz bytes m : Nat} {z : Array Value} {cs xs : List Value} {K : Sl → Hp → Prop} (h : Own H T sz s cs) (h1 : ∀ u ∈ cs, u.oneCell' = true) (hx : xs.length = m * sz) (hz : z.size = sz) (hm : 0 < m) (hsz : 0 < sz)
    (hb : (s.n + m) * bytes ≤ 140737488355328) (hb' : 0 < bytes)
    (hK : ∀ s' H', Own H' T sz s' (cs ++ xs) → Ch (fp s) H H' → (∀ k ∈ fp s', k ∈ fp s ∨ H.size ≤ k) → s'.n = s.n + m → K s' H') : apS H s T sz bytes z m xs K := by
  refine ⟨fun hc => ?_, fun hc => ?_⟩
  · rcases h with ⟨rfl, rfl⟩ | ⟨b, sp, ha, hB, hl, hsp, hn⟩
    · simp at hc; omega
    · have hsl : xs.length ≤ sp.length := by
        rw [hsp, hx]
        exact Nat.mul_le_mul_right _ (by omega)
      obtain ⟨g1, g2⟩ := setsAt_own hB hsl
      rw [hl] at g1 g2
      refine .inr ⟨b, 0, ha, ⟨rfl, fun j hj => ?_⟩, hK _ _ ?_ ?_ ?_ rfl⟩
      · rw [add_mk, hB.cell, hB.unfrozen]
        exact ⟨⟨_, List.getElem?_eq_getElem (by simp; omega)⟩, rfl⟩
      · rw [Nat.zero_add]
        refine .inr ⟨b, sp.drop xs.length, rfl, g1, by simp [hl, hx, Nat.add_mul], ?_, hc⟩
        simp [hsp, hx, ← Nat.sub_mul]
        congr 1
        omega
      · rw [Nat.zero_add]
        simpa [fp, ha] using g2.ch
      · intro k hk
        simp [fp] at hk
        subst hk
        exact .inl (by simp [fp, ha])
  · refine ⟨cs, h.length, h.read h1, hb, ?_, fun cap hcap => hK _ _ ?_ ?_ ?_ rfl⟩
    · have : (s.n + m) * 1 ≤ (s.n + m) * bytes := Nat.mul_le_mul_left _ hb'
      omega
    · refine .inr ⟨H.size, (Builtin.zeroCells z (cap - (s.n + m))).toList, rfl, ?_, by simp [h.length, hx, Nat.add_mul], ?_, hcap⟩
      · unfold Bk
        simp
      · rw [Array.length_toList, size_zeroCells, hz]
    · refine ⟨by simp, fun k hk _ => ?_⟩
      rw [Array.getElem?_push, if_neg (by omega)]
    · intro k hk
      simp [fp] at hk
      exact .inr (by omega)
theorem fm_len {α : Type} {f : α → List Value} {sz : Nat} (hf : ∀ x, (f x).length = sz) : ∀ xs : List α, (xs.flatMap f).length = xs.length * sz
  | [] => by simp
  | x :: xs => by simp [fm_len hf xs, hf, Nat.add_mul]; omega
theorem fm_at {α : Type} {f : α → List Value} {sz : Nat} (hf : ∀ x, (f x).length = sz) : ∀ (xs : List α) (k : Nat) (x : α), xs[k]? = some x → ∀ j v, (f x)[j]? = some v → (xs.flatMap f)[k * sz + j]? = some v
  | [], k, x, h, _, _, _ => by simp at h
  | y :: xs, 0, x, h, j, v, hv => by
    simp at h
    subst h
    have : j < (f y).length := by
      rcases Nat.lt_or_ge j (f y).length with h | h
      · exact h
      · simp [List.getElem?_eq_none h] at hv
    rw [List.flatMap_cons, Nat.zero_mul, Nat.zero_add, List.getElem?_append_left this]
    exact hv
  | y :: xs, k + 1, x, h, j, v, hv => by
    rw [List.flatMap_cons, List.getElem?_append_right (by rw [hf, Nat.add_mul]; omega), hf]
    rw [show (k + 1) * sz + j - sz = k * sz + j from by rw [Nat.add_mul]; omega]
    exact fm_at hf xs k x (by simpa using h) j v hv
theorem Own.count {H : Hp} {α : Type} {f : α → List Value} {T : TypeId} {sz : Nat} {s : Sl} {xs : List α} (h : Own H T sz s (xs.flatMap f)) (hf : ∀ x, (f x).length = sz) (hp : 0 < sz) : s.n = xs.length := by
  have := h.length
  rw [fm_len hf] at this
  exact (Nat.eq_of_mul_eq_mul_right hp this).symm
theorem Own.at {H : Hp} {α : Type} {f : α → List Value} {T : TypeId} {sz : Nat} {s : Sl} {xs : List α} {k : Nat} {x : α} (h : Own H T sz s (xs.flatMap f)) (hf : ∀ x, (f x).length = sz) (hp : 0 < sz) (hk : xs[k]? = some x) : ∃ b, s.a = some ⟨b, 0, none⟩ ∧ ldA H (Addr.add ⟨b, 0, none⟩ (k * sz)) (f x) := by
  rcases h with ⟨rfl, h⟩ | ⟨b, sp, ha, hb, _⟩
  · have h2 : xs.length * sz = 0 := by
      have := congrArg List.length h
      rwa [fm_len hf] at this
    have hl := (List.getElem?_eq_some_iff.1 hk).1
    rcases Nat.mul_eq_zero.1 h2 with h1 | h1 <;> omega
  · refine ⟨b, ha, ?_⟩
    rw [add_mk, Nat.zero_add]
    exact ldA_i hb fun j v hv => by
      rw [List.getElem?_append_left (List.getElem?_eq_some_iff.1 (fm_at hf xs k x hk j v hv)).1]
      exact fm_at hf xs k x hk j v hv
def SeqOk {α : Type} (it : (α → Hp → (Bool → Hp → Prop) → Prop) → Hp → (Unit → Hp → Prop) → Prop) (H0 : Hp) (P : List Nat) (xs : List α) : Prop :=
  ∀ (Y : α → Hp → (Bool → Hp → Prop) → Prop) (Q : Unit → Hp → Prop) (F : List Nat) (I : Nat → Hp → Prop) (Z : Hp → Prop), (∀ k ∈ F, k < H0.size ∧ k ∉ P) → I 0 H0 → (∀ i H H', I i H → Keep H H' → I i H') →
    (∀ i x H K, xs[i]? = some x → I i H → Ch F H0 H → (∀ H', I (i + 1) H' → Ch F H H' → K true H') → (∀ H', Z H' → Ch F H H' → K false H') → Y x H K) →
    (∀ H', I xs.length H' → Ch F H0 H' → Q () H') → (∀ H', Z H' → Ch F H0 H' → Q () H') → it Y H0 Q
end Go.Proofs.Ytmnoecpnoofdjaa.G
