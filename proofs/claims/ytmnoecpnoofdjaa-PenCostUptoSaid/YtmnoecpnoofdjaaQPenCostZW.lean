/- Of this text what the row needs. -/
import Derived.Test.YtmnoecpnoofdjaaQPenCostZS
namespace Go.Proofs.Ytmnoecpnoofdjaa.G
open Go.RowKit
set_option linter.unusedVariables false
set_option linter.unusedSimpArgs false
theorem ni {k : Nat} {l : List Nat} (h : k ∉ l) : ∀ b ∈ l, b ∉ [k] := fun b hb => by
  simp only [List.mem_singleton]
  exact fun e => h (e ▸ hb)
theorem take_snoc' {α : Type} {l : List α} {i : Nat} {x : α} (h : l[i]? = some x) : l.take (i + 1) = l.take i ++ [x] := by
  rw [List.take_add_one, h]; rfl
theorem Own.kp {H H' : Hp} {T : TypeId} {sz : Nat} {s : Sl} {cs : List Value} (h : Own H T sz s cs) (k : Keep H H') : Own H' T sz s cs := h.ch (k.ch (F := [])) (by simp)
theorem Lp.kp {H H' : Hp} {l : Nat} {r : Loop} (h : Lp H l r) (k : Keep H H') : Lp H' l r := h.ch (k.ch (F := [])) (by simp)
theorem push1 {α : Type} {H : Hp} {f : α → List Value} {T : TypeId} {sz bytes : Nat} {z : Array Value} {l : Sl} {xs : List α} {x : α} {K : Sl → Hp → Prop} (o : Own H T sz l (xs.flatMap f)) (hf : ∀ x, (f x).length = sz) (h1 : ∀ x, ∀ u ∈ f x, u.oneCell' = true) (hz : z.size = sz) (hsz : 0 < sz) (hb' : 0 < bytes) (hb : (xs.length + 1) * bytes ≤ 140737488355328)
    (h : ∀ l' H', Own H' T sz l' ((xs ++ [x]).flatMap f) → Ch (fp l) H H' → (∀ b ∈ fp l', b ∈ fp l ∨ H.size ≤ b) → K l' H') : nw H T (f x) fun p H1 => apS H1 l T sz bytes z 1 (f x) K := by
  refine nw_i fun H1 b1 k1 z1 => ?_
  have := apS_list (ys := [x]) (m := 1) (bytes := bytes) (z := z) (K := K) (o.ch (k1.ch (F := [])) (by simp)) hf h1 hz hsz rfl (by simpa using hb) hb' fun l' H' o' c' f' => h l' H' o' ((k1.ch (F := fp l)).trans c' fun i hi => .inl hi) fun b hb => by
    have := k1.size
    rcases f' b hb with h | h
    · exact .inl h
    · exact .inr (by omega)
  simpa using this
end Go.Proofs.Ytmnoecpnoofdjaa.G
