/- Of this text what the row needs. -/
import Derived.Test.YtlfdfikgbdgfdaaQSpanBackM14
import Derived.Test.YtlfdfikgbdgfdaaQSpanBackM04
import Derived.Test.YtlfdfikgbdgfdaaQSpanBackM07
import Derived.Test.YtlfdfikgbdgfdaaQSpanBackKspan
namespace Go.Proofs.Ytlfdfikgbdgfdaa.G
open Go.RowKit
set_option linter.unusedVariables false
set_option linter.unusedSimpArgs false
abbrev TB := Cn × List Nat
structure TbOk (D : TB) : Prop where
  may : May4 D.1 D.2
  val : ∀ v ∈ D.2, v < 256
open Classical in
noncomputable def rdB (A : TB) (pred : Int) : Nat → TB → List Int → Nat → List Bool → Nat → Nat × List Int × List Bool × Nat
  | 0, _, X, _, B, t => (4, X, B, t)
  | k + 1, D, X, n, B, t =>
    if n = 64 then (0, X, B, t) else
    if (rd4 D.1 D.2 (B.take 16)).2.1 = 44 then (2, X, B, t) else if (rd4 D.1 D.2 (B.take 16)).2.1 ≠ 0 then (4, X, B, t) else
    if (wF n (rd4 D.1 D.2 (B.take 16)).1).2 ≠ 0 then (4, X, B, t) else
    if (B.drop (rd4 D.1 D.2 (B.take 16)).2.2).length < (wF n (rd4 D.1 D.2 (B.take 16)).1).1 then (2, X, B, t) else
    if (tF pred X n (rd4 D.1 D.2 (B.take 16)).1 ((wF n (rd4 D.1 D.2 (B.take 16)).1).1 : Int) (num ((B.drop (rd4 D.1 D.2 (B.take 16)).2.2).take (wF n (rd4 D.1 D.2 (B.take 16)).1).1))).1 ≠ 0 then (4, X, B, t) else
    rdB A pred k A (tF pred X n (rd4 D.1 D.2 (B.take 16)).1 ((wF n (rd4 D.1 D.2 (B.take 16)).1).1 : Int) (num ((B.drop (rd4 D.1 D.2 (B.take 16)).2.2).take (wF n (rd4 D.1 D.2 (B.take 16)).1).1))).2.1
      (tF pred X n (rd4 D.1 D.2 (B.take 16)).1 ((wF n (rd4 D.1 D.2 (B.take 16)).1).1 : Int) (num ((B.drop (rd4 D.1 D.2 (B.take 16)).2.2).take (wF n (rd4 D.1 D.2 (B.take 16)).1).1))).2.2
      ((B.drop (rd4 D.1 D.2 (B.take 16)).2.2).drop (wF n (rd4 D.1 D.2 (B.take 16)).1).1) (t + ((rd4 D.1 D.2 (B.take 16)).2.2 + (wF n (rd4 D.1 D.2 (B.take 16)).1).1))
noncomputable def rdb (D A : TB) (pred : Int) (B : List Bool) : Nat × List Int × List Bool × Nat := rdB A pred 65 D zB 0 B 0
theorem rd4_v {D : TB} (h : TbOk D) (B : List Bool) : (rd4 D.1 D.2 B).1 < 256 ∧ ((rd4 D.1 D.2 B).2.1 = 0 ∨ (rd4 D.1 D.2 B).2.1 = 44 ∨ (rd4 D.1 D.2 B).2.1 = 43) ∧ (rd4 D.1 D.2 B).2.2 ≤ B.length ∧ ((rd4 D.1 D.2 B).2.1 ≠ 0 → (rd4 D.1 D.2 B).2.2 = 0) ∧ ((rd4 D.1 D.2 B).2.1 = 0 → 1 ≤ (rd4 D.1 D.2 B).2.2) := by
  by_cases hh : ∃ x : Nat × Nat × Nat, Hit (cnt D.1) B x.1 x.2.1 x.2.2
  · obtain ⟨⟨i, n, v⟩, hx⟩ := hh
    obtain ⟨y, hy⟩ := hit_val h.may hx
    rw [rd4_hit h.may hx hy]
    have := cds_fit h.may.fit hx.1
    exact ⟨h.val y (List.mem_of_getElem? hy), .inl rfl, hx.2.1, fun q => absurd rfl q, fun _ => this.1⟩
  · have hno : ∀ i n v, ¬ Hit (cnt D.1) B i n v := fun i n v q => hh ⟨(i, n, v), q⟩
    by_cases ho : B.length < 16 ∧ Opn (cnt D.1) B
    · rw [rd4_open hno ho]
      exact ⟨by decide, .inr (.inl rfl), Nat.zero_le _, fun _ => rfl, fun q => by cases q⟩
    · rw [rd4_none hno ho]
      exact ⟨by decide, .inr (.inr rfl), Nat.zero_le _, fun _ => rfl, fun q => by cases q⟩
theorem tF_up {pred : Int} {X : List Int} {n y b : Nat} {z : Int} (hn : n < 64) (h : (tF pred X n y z b).1 = 0) : n + 1 ≤ (tF pred X n y z b).2.2 := by
  unfold tF at h ⊢
  by_cases h1 : (wF n y).2 ≠ 0
  · rw [if_pos h1] at h; exact absurd h h1
  rw [if_neg h1] at h ⊢
  by_cases h2 : z ≠ (wF n y).1 ∨ 2 ^ (wF n y).1 ≤ b
  · rw [if_pos h2] at h; cases h
  rw [if_neg h2] at h ⊢
  split
  · rename_i h3
    rw [if_pos h3] at h
    split
    · rename_i h4; rw [if_pos h4] at h; cases h
    · simp only; omega
  split
  · simp only; omega
  split
  · simp only; omega
  · simp only; omega
theorem Bld7.cell65 {H : Hp} {k : Nat} {pred : Int} {B : List Int} {n : Nat} (h : Bld7 H k pred B n) : cellAt H (⟨k, 65, none⟩ : Addr) = some (.int .i64 (n : Int)) := by
  rw [h.bk.cell]
  exact (tail_get h.len (j := 1) rfl).trans rfl
def cur7 (kb : Nat) (H : Hp) : Nat := match cellAt H (⟨kb, 65, none⟩ : Addr) with | some (.int _ v) => (64 - v).toNat | _ => 0
theorem cur7_eq {H : Hp} {k : Nat} {pred : Int} {B : List Int} {n : Nat} (h : Bld7 H k pred B n) : cur7 k H = 64 - n := by
  unfold cur7
  rw [h.cell65]
  simp only
  omega
section
variable {H : Hp}
set_option maxHeartbeats 1000000 in
theorem block_ok {k t t' bF : Nat} {sv sv' : Sl} {D A : TB} {pred : Int} {l : List (Bool × Nat)} {e u : Nat} {st un bi : Int} {sl : Sl} {Q : Ints 64 × Int → Hp → Prop} (S : Src H k l e u) (T : Tab H t sv D.1 D.2) (T' : Tab H t' sv' A.1 A.2) (hD : TbOk D) (hA : TbOk A) (hp : -32768 ≤ pred ∧ pred ≤ 32767)
    (F : Bk H bF 40 (c40 st un bi sl)) (hbi : 0 ≤ bi ∧ bi + (l.length : Int) ≤ 4611686018427387904) (hkF : k ≠ bF) (hk : k ∉ t :: fp sv) (hk' : k ∉ t' :: fp sv') (hF : bF ∉ t :: fp sv) (hF' : bF ∉ t' :: fp sv') (hlu : l.length + u ≤ 4611686018427387904)
    (h : ∀ (X : Ints 64) H', ((rdb D A pred (l.map (·.1))).1 = 0 → X.1 = (rdb D A pred (l.map (·.1))).2.1 ∧ Src H' k (l.drop (rdb D A pred (l.map (·.1))).2.2.2) e (u + (rdb D A pred (l.map (·.1))).2.2.2) ∧ (l.drop (rdb D A pred (l.map (·.1))).2.2.2).map (·.1) = (rdb D A pred (l.map (·.1))).2.2.1) →
      (rdb D A pred (l.map (·.1))).2.2.2 ≤ l.length → ((rdb D A pred (l.map (·.1))).1 = 0 ∨ (rdb D A pred (l.map (·.1))).1 = 2 ∨ (rdb D A pred (l.map (·.1))).1 = 4) →
      Bk H' bF 40 (c40 st un (bi + ((rdb D A pred (l.map (·.1))).2.2.2 : Nat)) sl) → Ch [k, bF] H H' → Q (X, ((rdb D A pred (l.map (·.1))).1 : Int)) H') :
    span_block.s (some ⟨k, 0, none⟩) (some ⟨t, 0, none⟩) (some ⟨t', 0, none⟩) pred (some ⟨bF, 2, none⟩) H Q := by
  unfold span_block.s
  intro b1 H2 c2 g1 g1'
  have k2 : Keep H H2 := c2.keep (by simp)
  have y2 := k2.size
  have kl := S.lt
  have fl := F.lt
  have tl := T.lts
  have tl' := T'.lts
  refine Begin_ok hp fun kb H4 B4 k4 g4 => ⟨Pv.keep k4 (by simp; omega), fun hb1 => ?_⟩
  have y4 := k4.size
  have k24 := k2.trans k4
  have e4 := B4.bk.lt
  generalize hR : rdb D A pred (l.map (·.1)) = R at h
  refine Fix.intro (fun (x : Option Addr) H' => ∃ (kf : Nat) (dc : Bool) (X : List Int) (n m : Nat), x = some ⟨if dc then t else t', 0, none⟩ ∧ rdB A pred kf (if dc then D else A) X n ((l.drop m).map (·.1)) m = R ∧ 65 ≤ kf + n ∧ m ≤ l.length ∧ Bld7 H' kb pred X n ∧ Src H' k (l.drop m) e (u + m) ∧ Bk H' bF 40 (c40 st un (bi + (m : Nat)) sl) ∧ Bk H' b1 54 (c54 (zInts 64)) ∧ Ch [k, bF] H H' ∧ H4.size ≤ H'.size)
    (fun _ H' => cur7 kb H') ⟨65, true, zB, 0, 0, rfl, by rw [List.drop_zero]; exact hR, by omega, by omega, B4, by simpa using S.keep k24, by simpa using F.keep k24, hb1, k24.ch, Nat.le_refl _⟩ ?_
  rintro _ H9 ⟨kf, dc, X, n, m, rfl, hr, hkn, hm, B9, S9, F9, z9, c9, y9⟩ rec hrec
  have n64 := B9.le
  have y49 := c9.size
  have hfin : ∀ (s : Nat) (X' : Ints 64) H', R.1 = s → (R.1 = 0 → X'.1 = R.2.1 ∧ Src H' k (l.drop R.2.2.2) e (u + R.2.2.2) ∧ (l.drop R.2.2.2).map (·.1) = R.2.2.1) → R.2.2.2 ≤ l.length → (s = 0 ∨ s = 2 ∨ s = 4) → Bk H' bF 40 (c40 st un (bi + (R.2.2.2 : Nat)) sl) → Ch [k, bF] H H' → Q (X', (s : Int)) H' := fun s X' H' hs h1 h2 h3 h4 h5 => by
    have := h X' H' h1 h2 (by rw [hs]; exact h3) h4 h5
    rwa [hs] at this
  have hkb : kb ≠ k := by omega
  have hkbF : kb ≠ bF := by omega
  refine Done_ok B9 ?_
  obtain ⟨kf, rfl⟩ : ∃ q, kf = q + 1 := ⟨kf - 1, by omega⟩
  rw [rdB] at hr
  by_cases hn : n = 64
  · rw [if_pos hn] at hr
    refine ite_f (by rw [dect hn]; rfl) (Block_ok B9 fun X48 H49 hX k49 => ?_)
    have z49 := z9.keep k49
    refine stA_full z49 (by rw [ints_length, ints_length, (zInts 64).2, X48.2]) fun H50 b50 s50 => ⟨X48, ldA_full b50, ?_⟩
    have y50 := k49.size
    refine hfin 0 X48 H50 (by rw [← hr]) (fun _ => ?_) (by rw [← hr]; exact hm) (.inl rfl) ?_ ?_
    · rw [← hr]
      exact ⟨hX, (S9.keep k49).ch s50.ch (by simp; omega), rfl⟩
    · rw [← hr]
      exact (F9.keep k49).same s50 (by omega)
    · exact (c9.trans (k49.ch (F := [])) (by simp)).trans s50.ch (by simp; omega)
  rw [if_neg hn] at hr
  refine ite_t (by rw [decf hn]; rfl) (Used_ok S9 ?_)
  -- a failure
  have fail : ∀ (s : Nat) H', R.1 = s → R.2.2.2 = m → (s = 2 ∨ s = 4) → Bk H' b1 54 (c54 (zInts 64)) → Bk H' bF 40 (c40 st un (bi + (m : Nat)) sl) → Ch [k, bF] H H' →
      stA H' (⟨b1, 0, none⟩ : Addr) (c54 (zInts 64)) (fun H20 => ∃ x22 : Ints 64, ldA H20 (⟨b1, 0, none⟩ : Addr) (c54 x22) ∧ (Q (x22, (s : Int)) H20)) := fun s H' hs ht hs2 hz hf hc => by
    refine stA_full hz rfl fun H20 b20 s20 => ⟨zInts 64, ldA_full b20, hfin s _ H20 hs (fun q => by omega) (by omega) (by omega) ?_ ?_⟩
    · rw [ht]
      exact hf.same s20 (by omega)
    · exact hc.trans s20.ch (by simp; omega)
  have hTk : ∀ q : Bool, Tab H (if q then t else t') (if q then sv else sv') (if q then D else A).1 (if q then D else A).2 := fun q => by cases q <;> assumption
  have hTO : ∀ q : Bool, TbOk (if q then D else A) := fun q => by cases q <;> assumption
  have hTn : ∀ q : Bool, k ∉ (if q then t else t') :: fp (if q then sv else sv') ∧ bF ∉ (if q then t else t') :: fp (if q then sv else sv') := fun q => by cases q <;> exact ⟨by assumption, by assumption⟩
  have hTl : ∀ q : Bool, ∀ b ∈ (if q then t else t') :: fp (if q then sv else sv'), b < H.size := fun q => by cases q <;> assumption
  generalize hDq : (if dc = true then D else A) = Dq at hr
  have hTq := hTk dc
  have hOq := hTO dc
  have hNq := hTn dc
  have hLq := hTl dc
  rw [hDq] at hTq hOq
  generalize (if dc = true then t else t') = tq at *
  generalize (if dc = true then sv else sv') = sq at *
  have T9 : Tab H9 tq sq Dq.1 Dq.2 := hTq.ch c9 fun b hb hh => by
    simp at hh
    rcases hh with rfl | rfl
    · exact hNq.1 hb
    · exact hNq.2 hb
  obtain ⟨r1, r2, r3, r4, r5⟩ := rd4_v hOq (((l.drop m).map (·.1)).take 16)
  have hl9 : (l.drop m).length = l.length - m := List.length_drop
  have hb16 : bts (l.drop m) = ((l.drop m).map (·.1)).take 16 := rfl
  refine Read_ok4 T9 hOq.may S9 hNq.1 fun H17 S17 c17 => ?_
  rw [hb16] at S17 ⊢
  generalize hrd : rd4 Dq.1 Dq.2 (((l.drop m).map (·.1)).take 16) = r at *
  have y17 := c17.size
  have B17 := B9.ch c17 (by simp; omega)
  have F17 := F9.ch c17 (by simp; omega)
  have z17 := z9.ch c17 (by simp; omega)
  have cc17 : Ch [k, bF] H H17 := c9.trans c17 (by simp)
  rcases r2 with r2 | r2 | r2
  rotate_left
  · rw [if_pos r2] at hr
    refine ite_f (beqf (by omega)) (ite_t (beqi (by omega)) ?_)
    have := fail 2 H17 (by rw [← hr]) (by rw [← hr]) (.inl rfl) z17 F17 cc17
    exact this
  · rw [if_neg (by omega), if_pos (by omega)] at hr
    refine ite_f (beqf (by omega)) (ite_f (beqf (by omega)) ?_)
    exact fail 4 H17 (by rw [← hr]) (by rw [← hr]) (.inr rfl) z17 F17 cc17
  rw [if_neg (by omega), if_neg (by omega)] at hr
  refine ite_t (beqi (by omega)) (Wants_ok B17 r1 ?_)
  by_cases hw : (wF n r.1).2 = 0
  rotate_left
  · rw [if_pos hw] at hr
    refine ite_t (bnet (by omega)) ?_
    exact fail 4 H17 (by rw [← hr]) (by rw [← hr]) (.inr rfl) z17 F17 cc17
  rw [if_neg (by omega)] at hr
  obtain ⟨w1, w2, w3, w4, w5, w6⟩ := wF_ok (y := r.1) (by omega) hw
  refine ite_f (bnei (by omega)) ?_
  rw [w64n (x := (wF n r.1).1) (by omega)]
  have hlen2 : (((l.drop m).map (·.1)).drop r.2.2).length = ((l.drop m).drop r.2.2).length := by simp
  have hr3 : r.2.2 ≤ l.length - m := by
    rw [List.length_take, List.length_map, hl9] at r3
    omega
  have hl3 : ((l.drop m).drop r.2.2).length = l.length - m - r.2.2 := by rw [List.length_drop, hl9]
  refine Next_x S17 (by omega) fun H24 S24 c24 => ?_
  have y24 := c24.size
  have B24 := B17.ch c24 (by simp; omega)
  have F24 := F17.ch c24 (by simp; omega)
  have z24 := z17.ch c24 (by simp; omega)
  have cc24 : Ch [k, bF] H H24 := cc17.trans c24 (by simp)
  by_cases hsh : ((l.drop m).drop r.2.2).length < (wF n r.1).1
  · rw [if_pos (by omega)] at hr
    rw [decf (show ¬ (wF n r.1).1 ≤ ((l.drop m).drop r.2.2).length by omega)]
    refine ite_t rfl ?_
    exact fail 2 H24 (by rw [← hr]) (by rw [← hr]) (.inl rfl) z24 F24 cc24
  rw [if_neg (by omega)] at hr
  have htk : tk ((l.drop m).drop r.2.2) ((wF n r.1).1 : Int) = (wF n r.1).1 := by unfold tk; rw [if_pos (by omega)]; omega
  rw [htk] at S24
  rw [dect (show (wF n r.1).1 ≤ ((l.drop m).drop r.2.2).length by omega), if_pos (show (wF n r.1).1 ≤ ((l.drop m).drop r.2.2).length by omega)]
  refine ite_f rfl ?_
  have hext : num (ext ((l.drop m).drop r.2.2) (wF n r.1).1) = num ((((l.drop m).map (·.1)).drop r.2.2).take (wF n r.1).1) := by
    rw [ext_bts (by omega) (by omega)]
    unfold bts
    rw [List.take_take, Nat.min_eq_left (by omega), List.map_drop]
  have hnl := num_lt ((((l.drop m).map (·.1)).drop r.2.2).take (wF n r.1).1)
  have hnp := pow_lt (show ((((l.drop m).map (·.1)).drop r.2.2).take (wF n r.1).1).length ≤ 11 by rw [List.length_take]; omega)
  have p11 : (2 : Nat) ^ 11 = 2048 := rfl
  rw [hext]
  generalize num ((((l.drop m).map (·.1)).drop r.2.2).take (wF n r.1).1) = nb at *
  rw [wu16 (by omega)]
  have hnb : nb < 65536 := by omega
  refine Take_ok (b := nb) B24 r1 hnb fun H29 B29 c29 => ?_
  have y29 := c29.size
  have F29 := F24.ch c29 (by simp; omega)
  have z29 := z24.ch c29 (by simp; omega)
  have S29 := S24.ch c29 (by simp; omega)
  have cc29 : Ch [k, bF] H H29 := cc24.trans c29 (by simp; omega)
  by_cases ht : (tF pred X n r.1 ((wF n r.1).1 : Int) nb).1 = 0
  rotate_left
  · rw [if_pos ht] at hr
    refine ite_t (bnet (show (((tF pred X n r.1 ((wF n r.1).1 : Int) nb).1 : Nat) : Int) ≠ 0 from fun hh => ht (by exact_mod_cast hh))) ?_
    exact fail 4 H29 (by rw [← hr]) (by rw [← hr]) (.inr rfl) z29 F29 cc29
  rw [if_neg (by omega)] at hr
  have hup := tF_up (by omega) ht
  generalize tF pred X n r.1 ((wF n r.1).1 : Int) nb = f at *
  refine ite_f (bnei (by omega)) ⟨_, rfl, ldI_i F29 rfl (Used_ok S29 ⟨by rw [F29.cell]; rfl, st_i F29 (by show 2 < 4; omega) fun H41 b41 s41 => ?_⟩)⟩
  have B41 := B29.ch s41.ch (by simp; omega)
  have y41 := s41.size
  have S41 := S29.ch s41.ch (by simp; omega)
  have z41 := z29.same s41 (by omega)
  have cc41 : Ch [k, bF] H H41 := cc29.trans s41.ch (by simp)
  have e1 : IntKind.wrap .i64 ((bi + (m : Nat)) + IntKind.wrap .i64 (((u + m + r.2.2 + (wF n r.1).1 : Nat) : Int) - ((u + m : Nat) : Int))) = bi + ((m + (r.2.2 + (wF n r.1).1) : Nat) : Int) := by
    rw [w64 (x := ((u + m + r.2.2 + (wF n r.1).1 : Nat) : Int) - ((u + m : Nat) : Int)) (by omega), w64 (by omega)]
    omega
  rw [e1] at b41
  refine hrec _ _ ⟨kf, false, f.2.1, f.2.2, m + (r.2.2 + (wF n r.1).1), rfl, ?_, by omega, by omega, B41, ?_, b41, z41, cc41, by omega⟩ ?_
  · rw [← hr, List.drop_drop, List.map_drop, List.map_drop, List.drop_drop]
    rfl
  · rw [List.drop_drop, List.drop_drop] at S41
    rw [show u + (m + (r.2.2 + (wF n r.1).1)) = u + m + r.2.2 + (wF n r.1).1 from by omega]
    exact S41
  · rw [cur7_eq B41, cur7_eq B9]
    have := B41.le
    omega
end
end Go.Proofs.Ytlfdfikgbdgfdaa.G
