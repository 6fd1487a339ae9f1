/- Layer 19: alive; CutsCover. -/
import Derived.Test.YtdcjjoihlnjpnaaZ19c
import Derived.Test.YtdcjjoihlnjpnaaKCutsCover
namespace Go.Proofs.Ytdcjjoihlnjpnaa.G
open Go.RowKit
set_option linter.unusedVariables false
set_option linter.unusedSimpArgs false
set_option maxRecDepth 20000

instance (s : ByteArray) (k : Nat) : Decidable (isMark s k) := by unfold isMark; infer_instance
def liveS : ByteArray := ⟨#[18, 255, 208, 52, 255, 0, 255, 209, 255, 217]⟩
theorem live_pcs : Pcs liveS 0 [(0, 1, 0, 3), (3, 6, 1, 8), (8, 8, -1, 8)] := by
  have key : ∀ k, k < 9 → (isMark liveS k ↔ (k = 1 ∨ k = 6 ∨ k = 8)) := by decide
  refine .inl ⟨1, by omega, (key 1 (by omega)).2 (by omega), fun k h1 h2 h3 => by have := (key k (by omega)).1 h3; omega, .inl ⟨by decide, by decide, by decide, ?_⟩⟩
  refine .inl ⟨6, by omega, (key 6 (by omega)).2 (by omega), fun k h1 h2 h3 => by have := (key k (by omega)).1 h3; omega, .inl ⟨by decide, by decide, by decide, ?_⟩⟩
  exact .inl ⟨8, by omega, (key 8 (by omega)).2 (by omega), fun k h1 h2 h3 => by omega, .inr ⟨by decide, by decide, rfl⟩⟩
theorem alive_ok {H : Hp} {Q : Bool → Hp → Prop} (h : ∀ H', Keep H H' → Q true H') : mosaiclaw19_alive.s H Q := by
  unfold mosaiclaw19_alive.s
  have hp : Pcs liveS (fromOf liveS.size 0) [(0, 1, 0, 3), (3, 6, 1, 8), (8, 8, -1, 8)] := live_pcs
  refine Pieces_ok (s := liveS) (by have : liveS.size = 10 := rfl; omega) (by simp) hp (fun h => by simp at h) fun _ t H2 o2 k2 _ => ite_t rfl (ite_t rfl ?_)
  have v := o2.view cP_len (by omega)
  have n := v.n
  simp at n
  obtain ⟨b0, p0, a0, A0⟩ := v.get (i := 0) rfl
  obtain ⟨b1, p1, a1, A1⟩ := v.get (i := 1) rfl
  obtain ⟨b2, p2, a2, A2⟩ := v.get (i := 2) rfl
  rw [a0] at a1 a2
  injection a1 with a1
  injection a1 with e1 e2
  injection a2 with a2
  injection a2 with e3 e4
  subst e1 e2 e3 e4
  refine ite_t (beqi (by show ((t.n : Nat) : Int) = 3; omega)) ⟨by omega, by show (0 : Int) < ((t.n : Nat) : Int); omega, _, a0, _, _, _, _, A0, ite_t rfl ⟨by omega, by show (1 : Int) < ((t.n : Nat) : Int); omega, _, _, _, _, A1, ite_t rfl ⟨by omega, by show (2 : Int) < ((t.n : Nat) : Int); omega, _, _, _, _, A2, ?_⟩⟩⟩
  exact h _ k2

/-! ### what a piece is -/
theorem bkw_ff (s : ByteArray) (a : Nat) : ∀ t k, bkw s a t ≤ k → k < t → bt s (k : Int) = 255
  | 0, k, _, h => by omega
  | t + 1, k, h1, h2 => by
    rw [bkw] at h1
    split at h1
    · rename_i h
      by_cases e : k = t
      · subst e; exact h.2
      · exact bkw_ff s a t k h1 (by omega)
    · omega
theorem bkw_stop (s : ByteArray) (a : Nat) : ∀ t, a < bkw s a t → bt s ((bkw s a t - 1 : Nat) : Int) ≠ 255
  | 0, h => by rw [bkw] at h; omega
  | t + 1, h => by
    rw [bkw] at h ⊢
    split at h
    · rename_i h1
      rw [if_pos h1]
      exact bkw_stop s a t h
    · rename_i h1
      rw [if_neg h1]
      intro e
      exact h1 ⟨h, by simpa using e⟩
structure PF (s : ByteArray) (a : Nat) (p : Pc) (r : List Pc) (T N : Nat) : Prop where
  f : p.1 = (a : Int)
  t : p.2.1 = (T : Int)
  n : p.2.2.2 = (N : Int)
  o : a ≤ T ∧ T ≤ N ∧ N ≤ s.size
  free : ∀ k, a ≤ k → k + 1 < T → ¬ isMark s k
  stop : a < T → bt s ((T - 1 : Nat) : Int) ≠ 255
  kind : (r ≠ [] ∧ 0 ≤ p.2.2.1 ∧ p.2.2.1 ≤ 7 ∧ T + 2 ≤ N ∧ bt s ((N - 1 : Nat) : Int) = 208 + p.2.2.1 ∧ (∀ k, T ≤ k → k < N - 1 → bt s (k : Int) = 255) ∧ Pcs s N r) ∨
    (r = [] ∧ p.2.2.1 = -2 ∧ N = s.size ∧ ∀ k, T ≤ k → k < N → bt s (k : Int) = 255) ∨
    (r = [] ∧ p.2.2.1 = -1 ∧ isMark s N ∧ ¬ (208 ≤ bt s ((N + 1 : Nat) : Int) ∧ bt s ((N + 1 : Nat) : Int) ≤ 215) ∧ ∀ k, T ≤ k → k < N → bt s (k : Int) = 255)
theorem Pcs.fact {s : ByteArray} {a : Nat} {p : Pc} {r : List Pc} (h : Pcs s a (p :: r)) (ha : a ≤ s.size) : ∃ T N, PF s a p r T N := by
  rcases h with ⟨j, h1, h2, h3, ⟨h4, h5, rfl, h7⟩ | ⟨h4, rfl, rfl⟩⟩ | ⟨h1, rfl, rfl⟩
  · have g1 := bkw_ge s a j h1
    have g2 := bkw_le s a j
    have g3 := h2.1
    refine ⟨bkw s a j, j + 2, rfl, rfl, rfl, by omega, fun k q1 q2 => h3 k q1 (by omega), fun q => bkw_stop s a j q, .inl ⟨fun e => ?_, ?_, ?_, by omega, ?_, fun k q1 q2 => ?_, h7⟩⟩
    · subst e; exact h7
    · show 0 ≤ bt s ((j + 1 : Nat) : Int) - 208
      omega
    · show bt s ((j + 1 : Nat) : Int) - 208 ≤ 7
      omega
    · show bt s ((j + 2 - 1 : Nat) : Int) = 208 + (bt s ((j + 1 : Nat) : Int) - 208)
      rw [show j + 2 - 1 = j + 1 from by omega]
      omega
    · by_cases e : k = j
      · subst e; exact h2.2.1
      · exact bkw_ff s a j k q1 (by omega)
  · have g1 := bkw_ge s a j h1
    have g2 := bkw_le s a j
    have g3 := h2.1
    exact ⟨bkw s a j, j, rfl, rfl, rfl, by omega, fun k q1 q2 => h3 k q1 (by omega), fun q => bkw_stop s a j q, .inr (.inr ⟨rfl, rfl, h2, h4, fun k q1 q2 => bkw_ff s a j k q1 q2⟩)⟩
  · have g1 := bkw_ge s a s.size ha
    have g2 := bkw_le s a s.size
    exact ⟨bkw s a s.size, s.size, rfl, rfl, rfl, by omega, fun k q1 q2 => h1 k q1, fun q => bkw_stop s a s.size q, .inr (.inl ⟨rfl, rfl, rfl, fun k q1 q2 => bkw_ff s a s.size k q1 q2⟩)⟩
theorem CutsCover_row (s : ByteArray) (a : Int) (W : World) (hs : s.size ≤ 1048576) (ha : -9223372036854775808 ≤ a ∧ a ≤ 9223372036854775807) :
    mosaiclaw19_CutsCover.s s a W.heap (fun r H' => r = true ∧ Keep W.heap H') := by
  obtain ⟨l, hl⟩ := Pcs.ex s s.size (fromOf s.size a) (by omega)
  have hll := hl.len (fromOf_le _ _)
  have hfl := fromOf_le s.size a
  unfold mosaiclaw19_CutsCover.s
  refine alive_ok fun H2 k2 => ?_
  rw [w64 (x := (s.size : Int) + 1) (by omega)]
  refine Pieces_ok (by omega) (by omega) hl (fun h => by omega) fun _ t H4 o4 k4 _ => ?_
  have kk := k2.trans k4
  have v := o4.view cP_len (by omega)
  have n := v.n
  refine Join.intro (fun b H' => b = false ∧ H4 = H') ?_ fun J hJ => ite_f rfl (ite_f rfl (hJ _ _ ⟨beqf (by show ((t.n : Nat) : Int) ≠ 0; omega), rfl⟩))
  rintro _ _ ⟨rfl, rfl⟩
  refine ite_f rfl (Join.intro (fun x H' => x = max a 0 ∧ H4 = H') ?_ fun J hJ => ?_)
  rotate_left
  · by_cases h0 : a < 0
    · exact ite_t (dect h0) (hJ _ _ ⟨by omega, rfl⟩)
    · exact ite_f (decf h0) (hJ _ _ ⟨by omega, rfl⟩)
  rintro _ _ ⟨rfl, rfl⟩
  refine Join.intro (fun x H' => x = (fromOf s.size a : Int) ∧ H4 = H') ?_ fun J hJ => ?_
  rotate_left
  · by_cases h0 : (s.size : Int) < max a 0
    · exact ite_t (dect h0) (hJ _ _ ⟨by unfold fromOf; omega, rfl⟩)
    · exact ite_f (decf h0) (hJ _ _ ⟨by unfold fromOf; omega, rfl⟩)
  rintro _ _ ⟨rfl, rfl⟩
  show ∃ k14, Fix _ k14 ((fromOf s.size a : Int), 0) H4
  refine Fix.intro (fun (x : Int × Int) H' => ∃ i b : Nat, x = ((b : Int), (i : Int)) ∧ i ≤ l.length ∧ b ≤ s.size ∧ (i < l.length → Pcs s b (l.drop i)) ∧ Keep H4 H') (fun x _ => l.length - x.2.toNat) ⟨0, _, rfl, by omega, hfl, fun _ => hl, Keep.refl _⟩ ?_
  rintro _ H17 ⟨i, b, rfl, hi, hb, hp, k17⟩ rec hrec
  have v17 := v.keep k17
  simp only
  by_cases hil : i < l.length
  · obtain ⟨p, r, e⟩ : ∃ p r, l.drop i = p :: r := by
      cases e : l.drop i with
      | nil => have := congrArg List.length e; simp at this; omega
      | cons p r => exact ⟨p, r, rfl⟩
    have hp := hp hil
    rw [e] at hp
    have hget : l[i]? = some p := by
      have := congrArg (fun x => x[0]?) e
      simpa [List.getElem?_drop] using this
    have hdr : l.drop (i + 1) = r := by
      have := congrArg (List.drop 1) e
      simpa [List.drop_drop] using this
    have hrl : i + 1 + r.length = l.length := by
      have := congrArg List.length e
      simp at this; omega
    obtain ⟨T, N, F⟩ := hp.fact hb
    obtain ⟨o1, o2, o3⟩ := F.o
    obtain ⟨b1, q1, a1, A1⟩ := v17.get hget
    refine ite_t (dect (by show (i : Int) < ((t.n : Nat) : Int); omega)) ⟨by omega, by show (i : Int) < ((t.n : Nat) : Int); omega, _, a1, ?_⟩
    rw [Int.toNat_natCast]
    refine ⟨_, _, _, _, A1, ?_⟩
    intro b29 H31 c31 g31 g31'
    have k31 := k17.trans (c31.keep (by simp))
    have ew : IntKind.wrap .i64 ((t.n : Int) - 1) = (l.length : Int) - 1 := by rw [w64 (by omega), n]
    refine Join.intro (fun x H' => x = false ∧ H31 = H') ?_ fun J hJ => ?_
    rotate_left
    · refine ite_f (bnei F.f) (ite_f (decf (by rw [F.f, F.t]; omega)) (ite_f (decf (by rw [F.n, F.t]; omega)) (ite_f (decf (by rw [F.n]; omega)) (ite_f ?_ (ite_f (decf ?_) (hJ _ _ ⟨decf ?_, rfl⟩))))))
      · show (!(decide (p.2.2.1 < 0) == ((i : Int) == IntKind.wrap .i64 ((t.n : Int) - 1)))) = false
        rw [ew]
        rcases F.kind with ⟨h1, h2, h3, _⟩ | ⟨h1, h2, _⟩ | ⟨h1, h2, _⟩
        · have : r.length ≠ 0 := fun e => h1 (List.length_eq_zero_iff.1 e)
          rw [decf (by omega), beqf (by omega)]; rfl
        · subst h1; simp at hrl; rw [dect (by omega), beqi (by omega)]; rfl
        · subst h1; simp at hrl; rw [dect (by omega), beqi (by omega)]; rfl
      · rcases F.kind with ⟨h1, h2, h3, _⟩ | ⟨h1, h2, _⟩ | ⟨h1, h2, _⟩ <;> omega
      · rcases F.kind with ⟨h1, h2, h3, _⟩ | ⟨h1, h2, _⟩ | ⟨h1, h2, _⟩ <;> omega
    rintro _ _ ⟨rfl, rfl⟩
    refine ite_f rfl ?_
    rw [F.f, F.t, F.n]
    refine Fix.intro (fun (x : Int) H' => ∃ k : Nat, x = (k : Int) ∧ b ≤ k ∧ k ≤ T ∧ H31 = H') (fun x _ => T - x.toNat) ⟨b, rfl, Nat.le_refl _, o1, rfl⟩ ?_
    rintro _ _ ⟨k, rfl, hk1, hk2, rfl⟩ rec2 hrec2
    rw [show (k : Int) + 1 = ((k + 1 : Nat) : Int) from by omega, w64n (by omega)]
    by_cases hkt : k + 1 < T
    · refine ite_t (dect (by omega)) (Join.intro (fun x H' => x = false ∧ H31 = H') ?_ fun J hJ => ?_)
      · rintro _ _ ⟨rfl, rfl⟩
        exact ite_f rfl (hrec2 _ _ ⟨k + 1, rfl, by omega, by omega, rfl⟩ (by simp; omega))
      · refine ⟨by omega, by omega, ?_⟩
        by_cases g1 : bt s (k : Int) = 255
        · refine ite_t (beqi g1) ⟨by omega, by omega, ?_⟩
          by_cases g2 : bt s ((k + 1 : Nat) : Int) = 0
          · exact ite_f (bnei g2) (hJ _ _ ⟨rfl, rfl⟩)
          · refine ite_t (bnet g2) ⟨by omega, by omega, hJ _ _ ⟨bnei ?_, rfl⟩⟩
            by_cases g3 : bt s ((k + 1 : Nat) : Int) = 255
            · exact g3
            · exact absurd ⟨by omega, g1, g2, g3⟩ (F.free k hk1 hkt)
        · exact ite_f (beqf g1) (hJ _ _ ⟨rfl, rfl⟩)
    refine ite_f (decf (by omega)) ?_
    refine Join.intro (fun x H' => x = false ∧ H31 = H') ?_ fun J hJ => ?_
    rotate_left
    · by_cases g : b < T
      · have e1 : IntKind.wrap .i64 ((T : Int) - 1) = ((T - 1 : Nat) : Int) := by rw [w64 (by omega)]; omega
        rw [e1]
        exact ite_t (dect (by omega)) ⟨by omega, by omega, hJ _ _ ⟨beqf (F.stop g), rfl⟩⟩
      · exact ite_f (decf (by omega)) (hJ _ _ ⟨rfl, rfl⟩)
    rintro _ _ ⟨rfl, rfl⟩
    refine ite_f rfl (Join.intro (fun x H' => (∃ M : Nat, x = (M : Int) ∧ M ≤ s.size ∧ ∀ k, T ≤ k → k < M → bt s (k : Int) = 255) ∧ H31 = H') ?_ fun J hJ => ?_)
    rotate_left
    · rcases F.kind with ⟨h1, h2, h3, h4, h5, h6, h7⟩ | ⟨h1, h2, h3, h4⟩ | ⟨h1, h2, h3, h4, h5⟩
      · have e1 : IntKind.wrap .i64 ((N : Int) - 1) = ((N - 1 : Nat) : Int) := by rw [w64 (by omega)]; omega
        rw [e1]
        refine ite_t (dect h2) (Join.intro (fun x H' => x = false ∧ H31 = H') ?_ fun J2 hJ2 => ?_)
        · rintro _ _ ⟨rfl, rfl⟩
          exact ite_f rfl (hJ _ _ ⟨⟨N - 1, rfl, by omega, h6⟩, rfl⟩)
        · refine ite_f (decf (by rw [w64 (by omega)]; omega)) ⟨by omega, by omega, hJ2 _ _ ⟨bnei ?_, rfl⟩⟩
          rw [w64 (x := p.2.2.1) (by omega), w64 (x := 208 + p.2.2.1) (by omega), wu8 (by omega)]
          exact h5
      · exact ite_f (decf (by omega)) (hJ _ _ ⟨⟨N, rfl, o3, h4⟩, rfl⟩)
      · exact ite_f (decf (by omega)) (hJ _ _ ⟨⟨N, rfl, o3, h5⟩, rfl⟩)
    rintro _ _ ⟨⟨M, rfl, hM, hff⟩, rfl⟩
    refine Fix.intro (fun (x : Int) H' => ∃ k : Nat, x = (k : Int) ∧ T ≤ k ∧ (k ≤ M ∨ M < T) ∧ H31 = H') (fun x _ => M - x.toNat) ⟨T, rfl, Nat.le_refl _, by omega, rfl⟩ ?_
    rintro _ _ ⟨k, rfl, hk1, hk2, rfl⟩ rec3 hrec3
    by_cases hkm : k < M
    · refine ite_t (dect (by omega)) ⟨by omega, by omega, ite_f (bnei (hff k hk1 hkm)) ?_⟩
      rw [show (k : Int) + 1 = ((k + 1 : Nat) : Int) from by omega, w64n (by omega)]
      exact hrec3 _ _ ⟨k + 1, rfl, by omega, by omega, rfl⟩ (by simp; omega)
    · refine ite_f (decf (by omega)) ?_
      rw [show (i : Int) + 1 = ((i + 1 : Nat) : Int) from by omega, w64n (by omega)]
      refine hrec _ _ ⟨i + 1, N, rfl, by omega, o3, fun hlt => ?_, k31⟩ (by simp; omega)
      rw [hdr]
      rcases F.kind with ⟨h1, h2, h3, h4, h5, h6, h7⟩ | ⟨h1, _⟩ | ⟨h1, _⟩
      · exact h7
      · subst h1; simp at hrl; omega
      · subst h1; simp at hrl; omega
  · have ew : IntKind.wrap .i64 ((t.n : Int) - 1) = ((l.length - 1 : Nat) : Int) := by rw [w64 (by omega)]; omega
    refine ite_f (decf (by show ¬ (i : Int) < ((t.n : Nat) : Int); omega)) ?_
    obtain ⟨p, hpl⟩ : ∃ p, l[l.length - 1]? = some p := ⟨_, List.getElem?_eq_getElem (by omega)⟩
    have hlast : lastN l = p.2.2.2 := by
      have := lastN_take hpl
      rwa [List.take_of_length_le (by omega)] at this
    obtain ⟨b1, q1, a1, A1⟩ := v17.get hpl
    show 0 ≤ IntKind.wrap .i64 ((t.n : Int) - 1) ∧ IntKind.wrap .i64 ((t.n : Int) - 1) < (t.n : Int) ∧ _
    rw [ew]
    refine ⟨by omega, by omega, _, a1, ?_⟩
    refine ⟨_, _, _, _, A1, ?_⟩
    intro b83 H85 c85 g85 g85'
    have kE := kk.trans (k17.trans (c85.keep (by simp)))
    -- the last piece, as Pcs tells it
    have lastF : ∀ (m : Nat) (l : List Pc) (a : Nat), l.length = m + 1 → a ≤ s.size → Pcs s a l → ∀ p, l[m]? = some p → ∃ a' T N, PF s a' p [] T N := by
      intro m
      induction m with
      | zero =>
        intro l a h1 h2 h3 p h4
        cases l with
        | nil => simp at h1
        | cons x r =>
          simp at h1 h4
          subst h1 h4
          obtain ⟨T, N, F⟩ := h3.fact h2
          exact ⟨a, T, N, F⟩
      | succ m ih =>
        intro l a h1 h2 h3 p h4
        cases l with
        | nil => simp at h1
        | cons x r =>
          simp at h1 h4
          obtain ⟨T, N, F⟩ := h3.fact h2
          rcases F.kind with ⟨_, _, _, _, _, _, h7⟩ | ⟨h7, _⟩ | ⟨h7, _⟩
          · exact ih r N h1 F.o.2.2 h7 p h4
          · subst h7; simp at h1
          · subst h7; simp at h1
    obtain ⟨a', T, N, F⟩ := lastF (l.length - 1) l _ (by omega) hfl hl p hpl
    obtain ⟨o1, o2, o3⟩ := F.o
    rw [hlast]
    refine ite_f (bnei rfl) ?_
    rw [F.n]
    rcases F.kind with ⟨h1, _⟩ | ⟨h1, h2, h3, h4⟩ | ⟨h1, h2, h3, h4, h5⟩
    · exact absurd rfl h1
    · refine ite_t (beqi h2) ⟨beqi (by omega), kE⟩
    · have g := h3.1
      rw [show (N : Int) + 1 = ((N + 1 : Nat) : Int) from by omega, w64n (by omega)]
      refine ite_f (beqf (by omega)) (ite_t (dect (by omega)) ⟨by omega, by omega, ite_t (beqi h3.2.1) ⟨by omega, by omega, ite_t (bnet h3.2.2.1) ⟨by omega, by omega, ite_t (bnet h3.2.2.2) ⟨by omega, by omega, ?_⟩⟩⟩⟩)
      by_cases g2 : bt s ((N + 1 : Nat) : Int) < 208
      · exact ite_t (dect g2) ⟨trivial, kE⟩
      · exact ite_f (decf g2) ⟨by omega, by omega, dect (by omega), kE⟩
end Go.Proofs.Ytdcjjoihlnjpnaa.G
