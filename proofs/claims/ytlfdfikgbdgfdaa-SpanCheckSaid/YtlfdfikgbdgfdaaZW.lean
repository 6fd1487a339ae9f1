/- Slices of one's own: appended to, written over. -/
import Derived.Test.YtlfdfikgbdgfdaaZS
namespace Go.Proofs.Ytlfdfikgbdgfdaa.G
open Go.RowKit
set_option linter.unusedVariables false
set_option linter.unusedSimpArgs false

theorem ni {k : Nat} {l : List Nat} (h : k ∉ l) : ∀ b ∈ l, b ∉ [k] := fun b hb => by
  simp only [List.mem_singleton]
  exact fun e => h (e ▸ hb)
theorem take_snoc' {α : Type} {l : List α} {i : Nat} {x : α} (h : l[i]? = some x) : l.take (i + 1) = l.take i ++ [x] := by
  rw [List.take_add_one, h]; rfl
theorem Own.kp {H H' : Hp} {T : TypeId} {sz : Nat} {s : Sl} {cs : List Value} (h : Own H T sz s cs) (k : Keep H H') : Own H' T sz s cs := h.ch (k.ch (F := [])) (by simp)
theorem Lp.kp {H H' : Hp} {l : Nat} {r : Loop} (h : Lp H l r) (k : Keep H H') : Lp H' l r := h.ch (k.ch (F := [])) (by simp)
theorem push1 {α : Type} {H : Hp} {f : α → List Value} {T : TypeId} {sz bytes : Nat} {z : Array Value} {l : Sl} {xs : List α} {x : α} {K : Sl → Hp → Prop} (o : Own H T sz l (xs.flatMap f)) (hf : ∀ x, (f x).length = sz) (h1 : ∀ x, ∀ u ∈ f x, u.oneCell' = true) (hz : z.size = sz) (hsz : 0 < sz) (hb' : 0 < bytes) (hb : (xs.length + 1) * bytes ≤ 140737488355328)
    (h : ∀ l' H', Own H' T sz l' ((xs ++ [x]).flatMap f) → Ch (fp l) H H' → (∀ b ∈ fp l', b ∈ fp l ∨ H.size ≤ b) → K l' H') : nw H T (f x) fun p H1 => apS H1 l T sz bytes z 1 (f x) K := by
  refine nw_i fun H1 b1 k1 z1 => ?_
  have := apS_list (ys := [x]) (m := 1) (bytes := bytes) (z := z) (K := K) (o.ch (k1.ch (F := [])) (by simp)) hf h1 hz hsz rfl (by simpa using hb) hb' fun l' H' o' c' f' => h l' H' o' ((k1.ch (F := fp l)).trans c' fun i hi => .inl hi) fun b hb => by
    have := k1.size
    rcases f' b hb with h | h
    · exact .inl h
    · exact .inr (by omega)
  simpa using this
theorem slS_zero (s : Sl) (sz : Nat) (k : Int) : slS s sz 0 k = ⟨s.a, k.toNat, s.c⟩ := by
  unfold slS
  have : ∀ a : Option Addr, a.map (·.add ((0 : Int).toNat * sz)) = a := fun a => by
    cases a with
    | none => rfl
    | some p => simp [Addr.add]
  simp only [this]
  simp
theorem fm_set {α : Type} {f : α → List Value} {sz : Nat} (hf : ∀ x, (f x).length = sz) (y : α) : ∀ (xs : List α) (i : Nat), i < xs.length → (xs.flatMap f).take (i * sz) ++ f y ++ (xs.flatMap f).drop (i * sz + sz) = (xs.set i y).flatMap f
  | [], i, h => by simp at h
  | x :: xs, 0, h => by
    rw [Nat.zero_mul, List.take_zero, List.nil_append, Nat.zero_add, List.flatMap_cons, List.drop_append, List.drop_eq_nil_of_le (by rw [hf]; exact Nat.le_refl _), hf, Nat.sub_self, List.drop_zero, List.nil_append, List.set_cons_zero, List.flatMap_cons]
  | x :: xs, i + 1, h => by
    have ih := fm_set hf y xs i (by simpa using h)
    rw [List.set_cons_succ, List.flatMap_cons, List.flatMap_cons, ← ih, List.take_append, List.drop_append, List.take_of_length_le (by rw [hf, Nat.add_mul]; omega), List.drop_eq_nil_of_le (by rw [hf, Nat.add_mul]; omega), hf, show (i + 1) * sz - sz = i * sz from by rw [Nat.add_mul]; omega, show (i + 1) * sz + sz - sz = i * sz + sz from by rw [Nat.add_mul]; omega]
    simp
/-- An element is written over. -/
theorem Own.setE {α : Type} {H : Hp} {s : Sl} {T : TypeId} {sz : Nat} {f : α → List Value} {xs : List α} {i : Nat} {y : α} {K : Hp → Prop} (o : Own H T sz s (xs.flatMap f)) (hf : ∀ x, (f x).length = sz) (hsz : 0 < sz) (hi : i < xs.length)
    (hK : ∀ H', Own H' T sz s ((xs.set i y).flatMap f) → Ch (fp s) H H' → H'.size = H.size → K H') : ∃ p, s.a = some p ∧ stA H (p.add (i * sz)) (f y) K := by
  have hil : i * sz + sz ≤ (xs.flatMap f).length := by
    rw [fm_len hf]
    have := Nat.mul_le_mul_right sz (show i + 1 ≤ xs.length by omega)
    rw [Nat.add_mul] at this
    omega
  rcases o with ⟨rfl, h2⟩ | ⟨b, sp, ha, hb, hl, hsp, hle⟩
  · rw [h2] at hil; simp at hil; omega
  · refine ⟨_, ha, ?_⟩
    rw [add_mk, Nat.zero_add]
    refine stA_i hb (by rw [hf, List.length_append]; omega) fun H' b' s' => hK H' (.inr ⟨b, sp, ha, ?_, ?_, hsp, hle⟩) (s'.ch.mono (by simp [fp, ha])) s'.size
    · rw [hf, List.take_append_of_le_length (by omega), List.drop_append_of_le_length (by omega), ← List.append_assoc, fm_set hf y xs i hi] at b'
      exact b'
    · rw [← hl, fm_len hf, fm_len hf, List.length_set]
end Go.Proofs.Ytlfdfikgbdgfdaa.G
