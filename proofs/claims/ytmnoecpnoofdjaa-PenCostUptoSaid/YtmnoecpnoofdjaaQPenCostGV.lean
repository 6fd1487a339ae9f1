/- Of this text what the row needs. -/
import Derived.Test.YtmnoecpnoofdjaaQPenCostGM
import Derived.Test.YtmnoecpnoofdjaaQPenCostGP
namespace Go.Proofs.Ytmnoecpnoofdjaa.G
open Go.RowKit
set_option linter.unusedVariables false
set_option linter.unusedSimpArgs false
structure SlV {α : Type} (H : Hp) (s : Sl) (sz : Nat) (f : α → List Value) (xs : List α) : Prop where
  n : s.n = xs.length
  c : s.n ≤ s.c
  at_ : ∀ i x, xs[i]? = some x → ∃ b o, s.a = some ⟨b, o, none⟩ ∧ ldA H ⟨b, o + i * sz, none⟩ (f x)
theorem ldA_lt {H : Hp} {b o : Nat} {cs : List Value} (h : ldA H ⟨b, o, none⟩ cs) (hc : cs ≠ []) : b < H.size := by
  cases cs with
  | nil => exact absurd rfl hc
  | cons v r =>
    have := h.2 0 v rfl
    rw [add_mk] at this
    unfold cellAt at this
    rcases Nat.lt_or_ge b H.size with h1 | h1
    · exact h1
    · simp [Array.getElem?_eq_none h1] at this
theorem ldA_block {H H' : Hp} {b o : Nat} {cs : List Value} (h : ldA H ⟨b, o, none⟩ cs) (hb : b < H.size → H'[b]? = H[b]?) : ldA H' ⟨b, o, none⟩ cs := by
  refine ⟨rfl, fun j v hv => ?_⟩
  have h1 := h.2 j v hv
  have hl := ldA_lt h (by intro e; rw [e] at hv; simp at hv)
  rw [add_mk] at h1 ⊢
  unfold cellAt at h1 ⊢
  rw [hb hl]
  exact h1
theorem SlV.keep {α : Type} {H H' : Hp} {s : Sl} {sz : Nat} {f : α → List Value} {xs : List α} (h : SlV H s sz f xs) (k : Keep H H') : SlV H' s sz f xs :=
  ⟨h.n, h.c, fun i x hx => let ⟨b, o, ha, hl⟩ := h.at_ i x hx; ⟨b, o, ha, ldA_block hl fun hb => k.block b hb⟩⟩
theorem SlV.ch {α : Type} {H H' : Hp} {s : Sl} {sz : Nat} {f : α → List Value} {xs : List α} {F : List Nat} (h : SlV H s sz f xs) (k : Ch F H H') (hF : ∀ b ∈ fp s, b ∉ F) : SlV H' s sz f xs :=
  ⟨h.n, h.c, fun i x hx => let ⟨b, o, ha, hl⟩ := h.at_ i x hx; ⟨b, o, ha, ldA_block hl fun hb => k.block b hb (hF b (by simp [fp, ha]))⟩⟩
theorem SlV.get {α : Type} {H : Hp} {s : Sl} {sz : Nat} {f : α → List Value} {xs : List α} {i : Nat} {x : α} (h : SlV H s sz f xs) (hx : xs[i]? = some x) : ∃ b o, s.a = some ⟨b, o, none⟩ ∧ ldA H (Addr.add ⟨b, o, none⟩ (i * sz)) (f x) := by
  obtain ⟨b, o, ha, hl⟩ := h.at_ i x hx
  exact ⟨b, o, ha, by rw [add_mk]; exact hl⟩
theorem ldI_of {k : IntKind} {H : Hp} {p : Addr} {cs : List Value} {j : Nat} {v : Int} {K : Int → Prop} (h : ldA H p cs) (hv : cs[j]? = some (.int k v)) (hK : K v) : ldI k H (p.add j) K := ⟨v, h.2 j _ hv, hK⟩
theorem ldI_of0 {k : IntKind} {H : Hp} {p : Addr} {cs : List Value} {v : Int} {K : Int → Prop} (h : ldA H p cs) (hv : cs[0]? = some (.int k v)) (hK : K v) : ldI k H p K := ⟨v, by have := h.2 0 _ hv; rwa [Addr.add, if_pos rfl] at this, hK⟩
theorem SlV.take {α : Type} {H : Hp} {s : Sl} {sz : Nat} {f : α → List Value} {xs : List α} {i : Nat} (h : SlV H s sz f xs) (hi : i ≤ xs.length) : SlV H (slS s sz 0 (i : Int)) sz f (xs.take i) := by
  have h0 : (slS s sz 0 (i : Int)).a = s.a := by
    unfold slS
    simp only [Int.toNat_zero, Nat.zero_mul]
    split
    · rfl
    · cases s.a with
      | none => rfl
      | some p => simp [Addr.add]
  refine ⟨by simp [slS]; omega, by have := h.n; have := h.c; simp [slS]; omega, fun j x hx => ?_⟩
  rw [h0]
  exact h.at_ j x (by rw [List.getElem?_take] at hx; split at hx; exact hx; cases hx)
theorem Own.view {α : Type} {H : Hp} {f : α → List Value} {T : TypeId} {sz : Nat} {s : Sl} {xs : List α} (h : Own H T sz s (xs.flatMap f)) (hf : ∀ x, (f x).length = sz) (hp : 0 < sz) : SlV H s sz f xs := by
  refine ⟨h.count hf hp, ?_, fun i x hx => ?_⟩
  · rcases h with ⟨rfl, _⟩ | ⟨b, sp, _, _, _, _, h⟩
    · simp
    · exact h
  · obtain ⟨b, ha, hl⟩ := h.at hf hp hx
    rw [add_mk] at hl
    exact ⟨b, 0, ha, hl⟩
theorem SlV.cells {α : Type} {H : Hp} {s : Sl} {sz : Nat} {f : α → List Value} {xs : List α} (h : SlV H s sz f xs) (hf : ∀ x, (f x).length = sz) (h1 : ∀ x, ∀ u ∈ f x, u.oneCell' = true) : (xs.flatMap f).length = s.n * sz ∧ rdS H s.a (xs.flatMap f) := by
  refine ⟨by rw [fm_len hf, h.n], fun u hu => ?_, fun j v hv => ?_⟩
  · obtain ⟨x, _, hx⟩ := List.mem_flatMap.1 hu
    exact h1 x u hx
  · have hj := (List.getElem?_eq_some_iff.1 hv).1
    rw [fm_len hf] at hj
    have hz : 0 < sz := by
      rcases Nat.eq_zero_or_pos sz with h0 | h0
      · rw [h0] at hj; simp at hj
      · exact h0
    have hq : j / sz < xs.length := Nat.div_lt_of_lt_mul (by rw [Nat.mul_comm]; exact hj)
    have hr : j % sz < sz := Nat.mod_lt _ hz
    have hx : xs[j / sz]? = some xs[j / sz] := List.getElem?_eq_getElem hq
    have hv' : (f xs[j / sz])[j % sz]? = some v := by
      have hl : j % sz < (f xs[j / sz]).length := by rw [hf]; exact hr
      have := fm_at hf xs _ _ hx (j % sz) _ (List.getElem?_eq_getElem hl)
      rw [show j / sz * sz + j % sz = j from by rw [Nat.mul_comm]; exact Nat.div_add_mod j sz, hv] at this
      rw [List.getElem?_eq_getElem hl]
      exact this.symm
    obtain ⟨b, o, ha, hl⟩ := h.at_ _ _ hx
    refine ⟨_, ha, ?_⟩
    have := hl.2 _ v hv'
    rw [add_mk] at this ⊢
    rw [show o + j / sz * sz + j % sz = o + j from by rw [Nat.add_assoc, Nat.mul_comm, Nat.div_add_mod]] at this
    exact this
theorem SlH.view {α : Type} {H : Hp} {m : Option Nat} {by_ sz : Nat} {X : List Value → Prop} {s : Sl} {f : α → List Value} {B : α → Prop} (h : SlH H m by_ sz X s) (hX : ∀ cs, X cs → ∃ x, cs = f x ∧ B x) :
    ∃ xs : List α, SlV H s sz f xs ∧ (∀ x ∈ xs, B x) ∧ (s.c = 0 ∨ szL m by_ s.c) := by
  rcases h with ⟨h1, h2⟩ | ⟨b, o, ha, h0, hn, hs, he⟩
  · exact ⟨[], ⟨by simpa using h1, by omega, fun i x hx => by simp at hx⟩, by simp, .inl h2⟩
  · have key : ∀ k, k ≤ s.c → ∃ xs : List α, xs.length = k ∧ (∀ x ∈ xs, B x) ∧ ∀ i x, xs[i]? = some x → ldA H ⟨b, o + i * sz, none⟩ (f x) := by
      intro k
      induction k with
      | zero => exact fun _ => ⟨[], rfl, by simp, fun i x hx => by simp at hx⟩
      | succ k ih =>
        intro hk
        obtain ⟨xs, h1, h2, h3⟩ := ih (by omega)
        obtain ⟨cs, hx, hl, hd⟩ := he k (by omega)
        obtain ⟨x, rfl, hB⟩ := hX cs hx
        refine ⟨xs ++ [x], by simp [h1], fun y hy => ?_, fun i y hy => ?_⟩
        · rcases List.mem_append.1 hy with hy | hy
          · exact h2 y hy
          · simp at hy; subst hy; exact hB
        · rcases Nat.lt_trichotomy i k with hi | hi | hi
          · rw [List.getElem?_append_left (by omega)] at hy; exact h3 i y hy
          · subst hi
            rw [List.getElem?_append_right (by omega), h1] at hy
            simp at hy; subst hy; exact hd
          · rw [List.getElem?_eq_none (by simp; omega)] at hy; cases hy
    obtain ⟨xs, h1, h2, h3⟩ := key s.n hn
    exact ⟨xs, ⟨h1.symm, hn, fun i x hx => ⟨b, o, ha, h3 i x hx⟩⟩, h2, .inr hs⟩
theorem SlH.fp {H : Hp} {m : Option Nat} {by_ sz : Nat} {X : List Value → Prop} {s : Sl} (h : SlH H m by_ sz X s) (hp : 0 < sz) : ∀ b ∈ fp s, s.c ≠ 0 → b < H.size := by
  intro b hb hc
  rcases h with ⟨h1, h2⟩ | ⟨b', o, ha, h0, hn, hs, he⟩
  · exact absurd h2 hc
  · obtain ⟨cs, _, hl, hd⟩ := he 0 h0
    simp [G.fp, ha] at hb
    subst hb
    exact ldA_lt hd (by intro e; rw [e] at hl; simp at hl; omega)
theorem apS_own0 {H : Hp} {s : Sl} {T : TypeId} {sz bytes : Nat} {z : Array Value} {cs : List Value} {K : Sl → Hp → Prop} (h : Own H T sz s cs) (hK : K s H) : apS H s T sz bytes z 0 [] K := by
  refine ⟨fun hc => ?_, fun hc => ?_⟩
  · rcases h with ⟨rfl, rfl⟩ | ⟨b, sp, ha, hB, hl, hsp, hn⟩
    · exact .inl ⟨rfl, rfl, hK⟩
    · refine .inr ⟨b, 0, ha, ⟨rfl, fun j hj => by simp at hj⟩, ?_⟩
      have : (⟨some ⟨b, 0, none⟩, s.n + 0, s.c⟩ : Sl) = s := by cases s; simp_all
      rw [this]
      exact hK
  · rcases h with ⟨rfl, rfl⟩ | ⟨b, sp, ha, hB, hl, hsp, hn⟩
    · simp at hc
    · omega
theorem apS_list {α : Type} {H : Hp} {s : Sl} {f : α → List Value} {T : TypeId} {sz bytes m : Nat} {z : Array Value} {xs ys : List α} {K : Sl → Hp → Prop} (h : Own H T sz s (xs.flatMap f)) (hf : ∀ x, (f x).length = sz) (h1 : ∀ x, ∀ u ∈ f x, u.oneCell' = true) (hz : z.size = sz) (hsz : 0 < sz) (hm : m = ys.length)
    (hb : (xs.length + ys.length) * bytes ≤ 140737488355328) (hb' : 0 < bytes)
    (hK : ∀ s' H', Own H' T sz s' ((xs ++ ys).flatMap f) → Ch (fp s) H H' → (∀ k ∈ fp s', k ∈ fp s ∨ H.size ≤ k) → K s' H') : apS H s T sz bytes z m (ys.flatMap f) K := by
  subst hm
  cases ys with
  | nil =>
    exact apS_own0 h (hK _ _ (by simpa using h) (Ch.refl _ _) fun k hk => .inl hk)
  | cons y ys =>
    refine apS_own h ?_ (by rw [fm_len hf]) hz (by simp) hsz (by rw [h.count hf hsz]; exact hb) hb' fun s' H' h' c k _ => hK s' H' (by rw [List.flatMap_append]; exact h') c k
    intro u hu
    obtain ⟨x, _, hx⟩ := List.mem_flatMap.1 hu
    exact h1 x u hx
theorem Keep.fp {F : List Nat} {A B : Hp} (h : Ch F A B) (hF : ∀ b ∈ F, A.size ≤ b) : Keep A B := h.keep hF
end Go.Proofs.Ytmnoecpnoofdjaa.G
