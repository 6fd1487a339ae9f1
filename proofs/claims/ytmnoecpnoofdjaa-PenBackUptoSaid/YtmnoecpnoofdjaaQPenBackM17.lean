/- Of this text what the row needs. -/
import Derived.Test.YtmnoecpnoofdjaaQPenBackM14
import Derived.Test.YtmnoecpnoofdjaaQPenBackM04
import Derived.Test.YtmnoecpnoofdjaaQPenBackM07
import Derived.Test.YtmnoecpnoofdjaaQPenBackKspan
import Derived.Test.YtmnoecpnoofdjaaQPenBackZW
import Derived.Test.YtmnoecpnoofdjaaQPenBackM07e
import Derived.Test.YtmnoecpnoofdjaaQPenBackZX
import Derived.Test.YtmnoecpnoofdjaaQPenBackZBt
import Derived.Test.YtmnoecpnoofdjaaQPenBackGI
namespace Go.Proofs.Ytmnoecpnoofdjaa.G
open Go.RowKit
set_option linter.unusedVariables false
set_option linter.unusedSimpArgs false
set_option maxRecDepth 20000
abbrev TB := Cn × List Nat
structure TbOk (D : TB) : Prop where
 may : May4 D.1 D.2
 val : ∀ v ∈ D.2, v < 256
open Classical in
noncomputable def rdB (A : TB) (pred : Int) : Nat → TB → List Int → Nat → List Bool → Nat → Nat × List Int × List Bool × Nat
 | 0, _, X, _, B, t => (4, X, B, t)
 | k + 1, D, X, n, B, t =>
  if n = 64 then (0, X, B, t) else
  if (rd4 D.1 D.2 (B.take 16)).2.1 = 44 then (2, X, B, t) else if (rd4 D.1 D.2 (B.take 16)).2.1 ≠ 0 then (4, X, B, t) else
  if (wF n (rd4 D.1 D.2 (B.take 16)).1).2 ≠ 0 then (4, X, B, t) else
  if (B.drop (rd4 D.1 D.2 (B.take 16)).2.2).length < (wF n (rd4 D.1 D.2 (B.take 16)).1).1 then (2, X, B, t) else
  if (tF pred X n (rd4 D.1 D.2 (B.take 16)).1 ((wF n (rd4 D.1 D.2 (B.take 16)).1).1 : Int) (num ((B.drop (rd4 D.1 D.2 (B.take 16)).2.2).take (wF n (rd4 D.1 D.2 (B.take 16)).1).1))).1 ≠ 0 then (4, X, B, t) else
  rdB A pred k A (tF pred X n (rd4 D.1 D.2 (B.take 16)).1 ((wF n (rd4 D.1 D.2 (B.take 16)).1).1 : Int) (num ((B.drop (rd4 D.1 D.2 (B.take 16)).2.2).take (wF n (rd4 D.1 D.2 (B.take 16)).1).1))).2.1
   (tF pred X n (rd4 D.1 D.2 (B.take 16)).1 ((wF n (rd4 D.1 D.2 (B.take 16)).1).1 : Int) (num ((B.drop (rd4 D.1 D.2 (B.take 16)).2.2).take (wF n (rd4 D.1 D.2 (B.take 16)).1).1))).2.2
   ((B.drop (rd4 D.1 D.2 (B.take 16)).2.2).drop (wF n (rd4 D.1 D.2 (B.take 16)).1).1) (t + ((rd4 D.1 D.2 (B.take 16)).2.2 + (wF n (rd4 D.1 D.2 (B.take 16)).1).1))
noncomputable def rdb (D A : TB) (pred : Int) (B : List Bool) : Nat × List Int × List Bool × Nat := rdB A pred 65 D zB 0 B 0
theorem rd4_v {D : TB} (h : TbOk D) (B : List Bool) : (rd4 D.1 D.2 B).1 < 256 ∧ ((rd4 D.1 D.2 B).2.1 = 0 ∨ (rd4 D.1 D.2 B).2.1 = 44 ∨ (rd4 D.1 D.2 B).2.1 = 43) ∧ (rd4 D.1 D.2 B).2.2 ≤ B.length ∧ ((rd4 D.1 D.2 B).2.1 ≠ 0 → (rd4 D.1 D.2 B).2.2 = 0) ∧ ((rd4 D.1 D.2 B).2.1 = 0 → 1 ≤ (rd4 D.1 D.2 B).2.2) := by
 by_cases hh : ∃ x : Nat × Nat × Nat, Hit (cnt D.1) B x.1 x.2.1 x.2.2
 ·obtain ⟨⟨i, n, v⟩, hx⟩ := hh
  obtain ⟨y, hy⟩ := hit_val h.may hx
  rw [rd4_hit h.may hx hy]
  have := cds_fit h.may.fit hx.1
  exact ⟨h.val y (List.mem_of_getElem? hy), .inl rfl, hx.2.1, fun q => absurd rfl q, fun _ => this.1⟩
 ·have hno : ∀ i n v, ¬ Hit (cnt D.1) B i n v := fun i n v q => hh ⟨(i, n, v), q⟩
  by_cases ho : B.length < 16 ∧ Opn (cnt D.1) B
  ·rw [rd4_open hno ho]
   exact ⟨by decide, .inr (.inl rfl), Nat.zero_le _, fun _ => rfl, fun q => by cases q⟩
  ·rw [rd4_none hno ho]
   exact ⟨by decide, .inr (.inr rfl), Nat.zero_le _, fun _ => rfl, fun q => by cases q⟩
theorem tF_up {pred : Int} {X : List Int} {n y b : Nat} {z : Int} (hn : n < 64) (h : (tF pred X n y z b).1 = 0) : n + 1 ≤ (tF pred X n y z b).2.2 := by
 unfold tF at h ⊢
 by_cases h1 : (wF n y).2 ≠ 0
 ·rw [if_pos h1] at h; exact absurd h h1
 rw [if_neg h1] at h ⊢
 by_cases h2 : z ≠ (wF n y).1 ∨ 2 ^ (wF n y).1 ≤ b
 ·rw [if_pos h2] at h; cases h
 rw [if_neg h2] at h ⊢
 split
 ·rename_i h3
  rw [if_pos h3] at h
  split
  ·rename_i h4; rw [if_pos h4] at h; cases h
  ·simp only; omega
 split
 ·simp only; omega
 split
 ·simp only; omega
 ·simp only; omega
theorem Bld7.cell65 {H : Hp} {k : Nat} {pred : Int} {B : List Int} {n : Nat} (h : Bld7 H k pred B n) : cellAt H (⟨k, 65, none⟩ : Addr) = some (.int .i64 (n : Int)) := by
 rw [h.bk.cell]
 exact (tail_get h.len (j := 1) rfl).trans rfl
def cur7 (kb : Nat) (H : Hp) : Nat := match cellAt H (⟨kb, 65, none⟩ : Addr) with | some (.int _ v) => (64 - v).toNat | _ => 0
theorem cur7_eq {H : Hp} {k : Nat} {pred : Int} {B : List Int} {n : Nat} (h : Bld7 H k pred B n) : cur7 k H = 64 - n := by
 unfold cur7
 rw [h.cell65]
 simp only
 omega
section
variable {H : Hp}
set_option maxHeartbeats 1000000 in
theorem block_ok {k t t' bF : Nat} {sv sv' : Sl} {D A : TB} {pred : Int} {l : List (Bool × Nat)} {e u : Nat} {st un bi : Int} {sl : Sl} {Q : Ints 64 × Int → Hp → Prop} (S : Src H k l e u) (T : Tab H t sv D.1 D.2) (T' : Tab H t' sv' A.1 A.2) (hD : TbOk D) (hA : TbOk A) (hp : -32768 ≤ pred ∧ pred ≤ 32767)
  (F : Bk H bF 48 (c48 st un bi sl)) (hbi : 0 ≤ bi ∧ bi + (l.length : Int) ≤ 4611686018427387904) (hkF : k ≠ bF) (hk : k ∉ t :: fp sv) (hk' : k ∉ t' :: fp sv') (hF : bF ∉ t :: fp sv) (hF' : bF ∉ t' :: fp sv') (hlu : l.length + u ≤ 4611686018427387904)
  (h : ∀ (X : Ints 64) H', ((rdb D A pred (l.map (·.1))).1 = 0 → X.1 = (rdb D A pred (l.map (·.1))).2.1 ∧ Src H' k (l.drop (rdb D A pred (l.map (·.1))).2.2.2) e (u + (rdb D A pred (l.map (·.1))).2.2.2) ∧ (l.drop (rdb D A pred (l.map (·.1))).2.2.2).map (·.1) = (rdb D A pred (l.map (·.1))).2.2.1) →
   (rdb D A pred (l.map (·.1))).2.2.2 ≤ l.length → ((rdb D A pred (l.map (·.1))).1 = 0 ∨ (rdb D A pred (l.map (·.1))).1 = 2 ∨ (rdb D A pred (l.map (·.1))).1 = 4) →
   Bk H' bF 48 (c48 st un (bi + ((rdb D A pred (l.map (·.1))).2.2.2 : Nat)) sl) → Ch [k, bF] H H' → Q (X, ((rdb D A pred (l.map (·.1))).1 : Int)) H') :
  span_block.s (some ⟨k, 0, none⟩) (some ⟨t, 0, none⟩) (some ⟨t', 0, none⟩) pred (some ⟨bF, 2, none⟩) H Q := by
 unfold span_block.s
 intro b1 H2 c2 g1 g1'
 have k2 : Keep H H2 := c2.keep (by simp)
 have y2 := k2.size
 have kl := S.lt
 have fl := F.lt
 have tl := T.lts
 have tl' := T'.lts
 refine Begin_ok hp fun kb H4 B4 k4 g4 => ⟨Pv.keep k4 (by simp; omega), fun hb1 => ?_⟩
 have y4 := k4.size
 have k24 := k2.trans k4
 have e4 := B4.bk.lt
 generalize hR : rdb D A pred (l.map (·.1)) = R at h
 refine Fix.intro (fun (x : Option Addr) H' => ∃ (kf : Nat) (dc : Bool) (X : List Int) (n m : Nat), x = some ⟨if dc then t else t', 0, none⟩ ∧ rdB A pred kf (if dc then D else A) X n ((l.drop m).map (·.1)) m = R ∧ 65 ≤ kf + n ∧ m ≤ l.length ∧ Bld7 H' kb pred X n ∧ Src H' k (l.drop m) e (u + m) ∧ Bk H' bF 48 (c48 st un (bi + (m : Nat)) sl) ∧ Bk H' b1 57 (c57 (zInts 64)) ∧ Ch [k, bF] H H' ∧ H4.size ≤ H'.size)
  (fun _ H' => cur7 kb H') ⟨65, true, zB, 0, 0, rfl, by rw [List.drop_zero]; exact hR, by omega, by omega, B4, by simpa using S.keep k24, by simpa using F.keep k24, hb1, k24.ch, Nat.le_refl _⟩ ?_
 rintro _ H9 ⟨kf, dc, X, n, m, rfl, hr, hkn, hm, B9, S9, F9, z9, c9, y9⟩ rec hrec
 have n64 := B9.le
 have y49 := c9.size
 have hfin : ∀ (s : Nat) (X' : Ints 64) H', R.1 = s → (R.1 = 0 → X'.1 = R.2.1 ∧ Src H' k (l.drop R.2.2.2) e (u + R.2.2.2) ∧ (l.drop R.2.2.2).map (·.1) = R.2.2.1) → R.2.2.2 ≤ l.length → (s = 0 ∨ s = 2 ∨ s = 4) → Bk H' bF 48 (c48 st un (bi + (R.2.2.2 : Nat)) sl) → Ch [k, bF] H H' → Q (X', (s : Int)) H' := fun s X' H' hs h1 h2 h3 h4 h5 => by
  have := h X' H' h1 h2 (by rw [hs]; exact h3) h4 h5
  rwa [hs] at this
 have hkb : kb ≠ k := by omega
 have hkbF : kb ≠ bF := by omega
 refine Done_ok B9 ?_
 obtain ⟨kf, rfl⟩ : ∃ q, kf = q + 1 := ⟨kf - 1, by omega⟩
 rw [rdB] at hr
 by_cases hn : n = 64
 ·rw [if_pos hn] at hr
  refine ite_f (by rw [dect hn]; rfl) (Block_ok B9 fun X48 H49 hX k49 => ?_)
  have z49 := z9.keep k49
  refine stA_full z49 (by rw [ints_length, ints_length, (zInts 64).2, X48.2]) fun H50 b50 s50 => ⟨X48, ldA_full b50, ?_⟩
  have y50 := k49.size
  refine hfin 0 X48 H50 (by rw [← hr]) (fun _ => ?_) (by rw [← hr]; exact hm) (.inl rfl) ?_ ?_
  ·rw [← hr]
   exact ⟨hX, (S9.keep k49).ch s50.ch (by simp; omega), rfl⟩
  ·rw [← hr]
   exact (F9.keep k49).same s50 (by omega)
  ·exact (c9.trans (k49.ch (F := [])) (by simp)).trans s50.ch (by simp; omega)
 rw [if_neg hn] at hr
 refine ite_t (by rw [decf hn]; rfl) (Used_ok S9 ?_)
 -- a failure
 have fail : ∀ (s : Nat) H', R.1 = s → R.2.2.2 = m → (s = 2 ∨ s = 4) → Bk H' b1 57 (c57 (zInts 64)) → Bk H' bF 48 (c48 st un (bi + (m : Nat)) sl) → Ch [k, bF] H H' →
   stA H' (⟨b1, 0, none⟩ : Addr) (c57 (zInts 64)) (fun H20 => ∃ x22 : Ints 64, ldA H20 (⟨b1, 0, none⟩ : Addr) (c57 x22) ∧ (Q (x22, (s : Int)) H20)) := fun s H' hs ht hs2 hz hf hc => by
  refine stA_full hz rfl fun H20 b20 s20 => ⟨zInts 64, ldA_full b20, hfin s _ H20 hs (fun q => by omega) (by omega) (by omega) ?_ ?_⟩
  ·rw [ht]
   exact hf.same s20 (by omega)
  ·exact hc.trans s20.ch (by simp; omega)
 have hTk : ∀ q : Bool, Tab H (if q then t else t') (if q then sv else sv') (if q then D else A).1 (if q then D else A).2 := fun q => by cases q <;> assumption
 have hTO : ∀ q : Bool, TbOk (if q then D else A) := fun q => by cases q <;> assumption
 have hTn : ∀ q : Bool, k ∉ (if q then t else t') :: fp (if q then sv else sv') ∧ bF ∉ (if q then t else t') :: fp (if q then sv else sv') := fun q => by cases q <;> exact ⟨by assumption, by assumption⟩
 have hTl : ∀ q : Bool, ∀ b ∈ (if q then t else t') :: fp (if q then sv else sv'), b < H.size := fun q => by cases q <;> assumption
 generalize hDq : (if dc = true then D else A) = Dq at hr
 have hTq := hTk dc
 have hOq := hTO dc
 have hNq := hTn dc
 have hLq := hTl dc
 rw [hDq] at hTq hOq
 generalize (if dc = true then t else t') = tq at *
 generalize (if dc = true then sv else sv') = sq at *
 have T9 : Tab H9 tq sq Dq.1 Dq.2 := hTq.ch c9 fun b hb hh => by
  simp at hh
  rcases hh with rfl | rfl
  ·exact hNq.1 hb
  ·exact hNq.2 hb
 obtain ⟨r1, r2, r3, r4, r5⟩ := rd4_v hOq (((l.drop m).map (·.1)).take 16)
 have hl9 : (l.drop m).length = l.length - m := List.length_drop
 have hb16 : bts (l.drop m) = ((l.drop m).map (·.1)).take 16 := rfl
 refine Read_ok4 T9 hOq.may S9 hNq.1 fun H17 S17 c17 => ?_
 rw [hb16] at S17 ⊢
 generalize hrd : rd4 Dq.1 Dq.2 (((l.drop m).map (·.1)).take 16) = r at *
 have y17 := c17.size
 have B17 := B9.ch c17 (by simp; omega)
 have F17 := F9.ch c17 (by simp; omega)
 have z17 := z9.ch c17 (by simp; omega)
 have cc17 : Ch [k, bF] H H17 := c9.trans c17 (by simp)
 rcases r2 with r2 | r2 | r2
 rotate_left
 ·rw [if_pos r2] at hr
  refine ite_f (beqf (by omega)) (ite_t (beqi (by omega)) ?_)
  have := fail 2 H17 (by rw [← hr]) (by rw [← hr]) (.inl rfl) z17 F17 cc17
  exact this
 ·rw [if_neg (by omega), if_pos (by omega)] at hr
  refine ite_f (beqf (by omega)) (ite_f (beqf (by omega)) ?_)
  exact fail 4 H17 (by rw [← hr]) (by rw [← hr]) (.inr rfl) z17 F17 cc17
 rw [if_neg (by omega), if_neg (by omega)] at hr
 refine ite_t (beqi (by omega)) (Wants_ok B17 r1 ?_)
 by_cases hw : (wF n r.1).2 = 0
 rotate_left
 ·rw [if_pos hw] at hr
  refine ite_t (bnet (by omega)) ?_
  exact fail 4 H17 (by rw [← hr]) (by rw [← hr]) (.inr rfl) z17 F17 cc17
 rw [if_neg (by omega)] at hr
 obtain ⟨w1, w2, w3, w4, w5, w6⟩ := wF_ok (y := r.1) (by omega) hw
 refine ite_f (bnei (by omega)) ?_
 rw [w64n (x := (wF n r.1).1) (by omega)]
 have hlen2 : (((l.drop m).map (·.1)).drop r.2.2).length = ((l.drop m).drop r.2.2).length := by simp
 have hr3 : r.2.2 ≤ l.length - m := by
  rw [List.length_take, List.length_map, hl9] at r3
  omega
 have hl3 : ((l.drop m).drop r.2.2).length = l.length - m - r.2.2 := by rw [List.length_drop, hl9]
 refine Next_x S17 (by omega) fun H24 S24 c24 => ?_
 have y24 := c24.size
 have B24 := B17.ch c24 (by simp; omega)
 have F24 := F17.ch c24 (by simp; omega)
 have z24 := z17.ch c24 (by simp; omega)
 have cc24 : Ch [k, bF] H H24 := cc17.trans c24 (by simp)
 by_cases hsh : ((l.drop m).drop r.2.2).length < (wF n r.1).1
 ·rw [if_pos (by omega)] at hr
  rw [decf (show ¬ (wF n r.1).1 ≤ ((l.drop m).drop r.2.2).length by omega)]
  refine ite_t rfl ?_
  exact fail 2 H24 (by rw [← hr]) (by rw [← hr]) (.inl rfl) z24 F24 cc24
 rw [if_neg (by omega)] at hr
 have htk : tk ((l.drop m).drop r.2.2) ((wF n r.1).1 : Int) = (wF n r.1).1 := by unfold tk; rw [if_pos (by omega)]; omega
 rw [htk] at S24
 rw [dect (show (wF n r.1).1 ≤ ((l.drop m).drop r.2.2).length by omega), if_pos (show (wF n r.1).1 ≤ ((l.drop m).drop r.2.2).length by omega)]
 refine ite_f rfl ?_
 have hext : num (ext ((l.drop m).drop r.2.2) (wF n r.1).1) = num ((((l.drop m).map (·.1)).drop r.2.2).take (wF n r.1).1) := by
  rw [ext_bts (by omega) (by omega)]
  unfold bts
  rw [List.take_take, Nat.min_eq_left (by omega), List.map_drop]
 have hnl := num_lt ((((l.drop m).map (·.1)).drop r.2.2).take (wF n r.1).1)
 have hnp := pow_lt (show ((((l.drop m).map (·.1)).drop r.2.2).take (wF n r.1).1).length ≤ 11 by rw [List.length_take]; omega)
 have p11 : (2 : Nat) ^ 11 = 2048 := rfl
 rw [hext]
 generalize num ((((l.drop m).map (·.1)).drop r.2.2).take (wF n r.1).1) = nb at *
 rw [wu16 (by omega)]
 have hnb : nb < 65536 := by omega
 refine Take_ok (b := nb) B24 r1 hnb fun H29 B29 c29 => ?_
 have y29 := c29.size
 have F29 := F24.ch c29 (by simp; omega)
 have z29 := z24.ch c29 (by simp; omega)
 have S29 := S24.ch c29 (by simp; omega)
 have cc29 : Ch [k, bF] H H29 := cc24.trans c29 (by simp; omega)
 by_cases ht : (tF pred X n r.1 ((wF n r.1).1 : Int) nb).1 = 0
 rotate_left
 ·rw [if_pos ht] at hr
  refine ite_t (bnet (show (((tF pred X n r.1 ((wF n r.1).1 : Int) nb).1 : Nat) : Int) ≠ 0 from fun hh => ht (by exact_mod_cast hh))) ?_
  exact fail 4 H29 (by rw [← hr]) (by rw [← hr]) (.inr rfl) z29 F29 cc29
 rw [if_neg (by omega)] at hr
 have hup := tF_up (by omega) ht
 generalize tF pred X n r.1 ((wF n r.1).1 : Int) nb = f at *
 refine ite_f (bnei (by omega)) ⟨_, rfl, ldI_i F29 rfl (Used_ok S29 ⟨by rw [F29.cell]; rfl, st_i F29 (by show 2 < 4; omega) fun H41 b41 s41 => ?_⟩)⟩
 have B41 := B29.ch s41.ch (by simp; omega)
 have y41 := s41.size
 have S41 := S29.ch s41.ch (by simp; omega)
 have z41 := z29.same s41 (by omega)
 have cc41 : Ch [k, bF] H H41 := cc29.trans s41.ch (by simp)
 have e1 : IntKind.wrap .i64 ((bi + (m : Nat)) + IntKind.wrap .i64 (((u + m + r.2.2 + (wF n r.1).1 : Nat) : Int) - ((u + m : Nat) : Int))) = bi + ((m + (r.2.2 + (wF n r.1).1) : Nat) : Int) := by
  rw [w64 (x := ((u + m + r.2.2 + (wF n r.1).1 : Nat) : Int) - ((u + m : Nat) : Int)) (by omega), w64 (by omega)]
  omega
 rw [e1] at b41
 refine hrec _ _ ⟨kf, false, f.2.1, f.2.2, m + (r.2.2 + (wF n r.1).1), rfl, ?_, by omega, by omega, B41, ?_, b41, z41, cc41, by omega⟩ ?_
 ·rw [← hr, List.drop_drop, List.map_drop, List.map_drop, List.drop_drop]
  rfl
 ·rw [List.drop_drop, List.drop_drop] at S41
  rw [show u + (m + (r.2.2 + (wF n r.1).1)) = u + m + r.2.2 + (wF n r.1).1 from by omega]
  exact S41
 ·rw [cur7_eq B41, cur7_eq B9]
  have := B41.le
  omega
end
structure Jb where
 g : Int
 w : Int
 h : Int
 s : Sl
 t : Sl
 d0 : Cn × Sl
 d1 : Cn × Sl
 d2 : Cn × Sl
 d3 : Cn × Sl
 a0 : Cn × Sl
 a1 : Cn × Sl
 a2 : Cn × Sl
 a3 : Cn × Sl
 f : Int
 u : Int
def Jb.sp (j : Jb) : List (Cn × Sl) := [j.d0, j.d1, j.d2, j.d3, j.a0, j.a1, j.a2, j.a3]
def cSc (x : Cn × Sl) : List Value := c29 x.1 x.2
theorem cSc_len (x : Cn × Sl) : (cSc x).length = 17 := by show (ints .u8 x.1.1 ++ [Value.slice x.2.a x.2.n x.2.c]).length = 17; rw [List.length_append, ints_length, x.1.2]; rfl
abbrev Jb.cells (j : Jb) : List Value := c32 j.g j.w j.h j.s j.t j.d0.1 j.d0.2 j.d1.1 j.d1.2 j.d2.1 j.d2.2 j.d3.1 j.d3.2 j.a0.1 j.a0.2 j.a1.1 j.a1.2 j.a2.1 j.a2.2 j.a3.1 j.a3.2 j.f j.u
theorem Jb.cells_eq (j : Jb) : j.cells = [.int .u8 j.g, .int .i64 j.w, .int .i64 j.h, .slice j.s.a j.s.n j.s.c, .slice j.t.a j.t.n j.t.c] ++ (j.sp.flatMap cSc ++ [.int .i64 j.f, .int .i64 j.u]) := by
 unfold Jb.cells Jb.sp cSc
 simp only [List.flatMap_cons, List.flatMap_nil, List.append_assoc, List.nil_append, List.cons_append]
theorem job_sp {H : Hp} {b : Nat} {T : TypeId} {j : Jb} (hb : Bk H b T j.cells) {k : Nat} {x : Cn × Sl} (hx : j.sp[k]? = some x) : ldA H (⟨b, 5 + k * 17, none⟩ : Addr) (c29 x.1 x.2) := by
 refine ldA_i hb fun i v hv => ?_
 have h1 := fm_at (f := cSc) cSc_len j.sp k x hx i v hv
 have h2 := (List.getElem?_eq_some_iff.1 h1).1
 rw [Jb.cells_eq, List.getElem?_append_right (by simp only [List.length_cons, List.length_nil]; omega)]
 rw [show 5 + k * 17 + i - ([Value.int .u8 j.g, .int .i64 j.w, .int .i64 j.h, .slice j.s.a j.s.n j.s.c, .slice j.t.a j.t.n j.t.c] : List Value).length = k * 17 + i from by simp only [List.length_cons, List.length_nil]; omega]
 rw [List.getElem?_append_left h2]
 exact h1
theorem job_at {H : Hp} {b o : Nat} {T : TypeId} {j : Jb} {K : Int → Prop} (hb : Bk H b T j.cells) {v : Int} (ho : (o = 141 ∧ v = j.f) ∨ (o = 142 ∧ v = j.u)) (hK : K v) : ldI .i64 H (⟨b, o, none⟩ : Addr) K := by
 refine ldI_i hb ?_ hK
 have hl : (j.sp.flatMap cSc).length = 136 := by rw [fm_len cSc_len]; rfl
 rw [Jb.cells_eq]
 rcases ho with ⟨rfl, rfl⟩ | ⟨rfl, rfl⟩
 ·rw [List.getElem?_append_right (by simp), List.getElem?_append_right (by simp [hl]), hl]; rfl
 ·rw [List.getElem?_append_right (by simp), List.getElem?_append_right (by simp [hl]), hl]; rfl
theorem job_parts {H : Hp} {b : Nat} {T : TypeId} {j : Jb} {K : Sl → Prop} (hb : Bk H b T j.cells) (hK : K j.t) : ldL H (⟨b, 4, none⟩ : Addr) K := ldL_i hb rfl hK
theorem job_frame {H : Hp} {b : Nat} {T : TypeId} {j : Jb} (hb : Bk H b T j.cells) : ldA H (⟨b, 0, none⟩ : Addr) (c24 j.g j.w j.h j.s) := by
 refine ldA_i hb fun i v hv => ?_
 have hi : i < 4 := (List.getElem?_eq_some_iff.1 hv).1
 rw [Nat.zero_add]
 match i, hi, hv with
 | 0, _, hv => exact hv
 | 1, _, hv => exact hv
 | 2, _, hv => exact hv
 | 3, _, hv => exact hv
structure JV (H : Hp) (j : Jb) (cs : List Cp) (ps : List Pa) (TV : Nat → List Nat) : Prop where
 hs : Cs H j.s cs
 ht : Ps H j.t ps
 hok : ∀ c ∈ cs, c.ok
 hpk : ∀ p ∈ ps, p.ok
 hl : cs.length * 4 ≤ 140737488355328
 hm : ps.length * 16 ≤ 140737488355328
 sp : ∀ (k : Nat) (x : Cn × Sl), j.sp[k]? = some x → SlV H x.2 1 cB (TV k) ∧ (∀ v ∈ TV k, v < 256) ∧ cOk x.1 ∧ (TV k).length ≤ 140737488351232
 hf : -9223372036854775808 ≤ j.f ∧ j.f ≤ 9223372036854775807
 hu : -9223372036854775808 ≤ j.u ∧ j.u ≤ 9223372036854775807
theorem JV.keep {H H' : Hp} {j : Jb} {cs : List Cp} {ps : List Pa} {TV : Nat → List Nat} (a : JV H j cs ps TV) (k : Keep H H') : JV H' j cs ps TV :=
 ⟨a.hs.keep k, a.ht.keep k, a.hok, a.hpk, a.hl, a.hm, fun i x hx => ⟨(a.sp i x hx).1.keep k, (a.sp i x hx).2⟩, a.hf, a.hu⟩
def tbl (j : Jb) (TV : Nat → List Nat) (k : Nat) : TB := (((j.sp[k]?).map (·.1)).getD (zInts 16), TV k)
theorem tbl_at {j : Jb} {TV : Nat → List Nat} {k : Nat} {x : Cn × Sl} (h : j.sp[k]? = some x) : tbl j TV k = (x.1, TV k) := by unfold tbl; rw [h]; rfl
noncomputable def rdE (j : Jb) (TV : Nat → List Nat) : List Pa → Int
 | [] => 0
 | p :: r => if Chk4 (tbl j TV p.dc.toNat).1 (tbl j TV p.dc.toNat).2 ≠ 0 then Chk4 (tbl j TV p.dc.toNat).1 (tbl j TV p.dc.toNat).2 else
  if Chk4 (tbl j TV (4 + p.ac.toNat)).1 (tbl j TV (4 + p.ac.toNat)).2 ≠ 0 then Chk4 (tbl j TV (4 + p.ac.toNat)).1 (tbl j TV (4 + p.ac.toNat)).2 else rdE j TV r
open Classical in
noncomputable def jChk (j : Jb) (cs : List Cp) (ps : List Pa) (TV : Nat → List Nat) : Int :=
 if Prt j.w j.h cs ps ≠ 0 then Prt j.w j.h cs ps else if rdE j TV ps ≠ 0 then rdE j TV ps else
 if j.f < 0 ∨ j.u < 0 ∨ (Uni j.w j.h cs ps).1 * (Uni j.w j.h cs ps).2 < j.f ∨ (Uni j.w j.h cs ps).1 * (Uni j.w j.h cs ps).2 - j.f < j.u then 3 else 0
abbrev cPt (t : Nat) : List Value := [.pointer (some ⟨t, 0, none⟩)]
theorem cPt_len (t : Nat) : (cPt t).length = 1 := rfl
theorem cPt_ones (t : Nat) : ∀ u ∈ cPt t, u.oneCell' = true := ones_cons rfl ones_nil
def TbL (H0 H : Hp) (j : Jb) (TV : Nat → List Nat) (ps : List Pa) (f : Pa → Nat) (ts X : List Nat) : Prop :=
 ∀ (i : Nat) (p : Pa) (t : Nat), ps[i]? = some p → ts[i]? = some t → TbOk (tbl j TV (f p)) ∧ ∃ sv, Tab H t sv (tbl j TV (f p)).1 (tbl j TV (f p)).2 ∧ ∀ b ∈ t :: fp sv, H0.size ≤ b ∧ b < H.size ∧ b ∉ X
theorem TbL.ch {H0 H H' : Hp} {j : Jb} {TV : Nat → List Nat} {ps : List Pa} {f : Pa → Nat} {ts X F : List Nat} (a : TbL H0 H j TV ps f ts X) (c : Ch F H H') (hF : ∀ b ∈ F, b ∈ X ∨ H.size ≤ b ∨ b < H0.size) : TbL H0 H' j TV ps f ts X := fun i p t hp ht => by
 obtain ⟨h0, sv, h1, h2⟩ := a i p t hp ht
 exact ⟨h0, sv, h1.ch c fun b hb hh => by
  obtain ⟨q1, q2, q3⟩ := h2 b hb
  rcases hF b hh with q | q | q
  ·exact q3 q
  ·omega
  ·omega, fun b hb => ⟨(h2 b hb).1, by have := (h2 b hb).2.1; have := c.size; omega, (h2 b hb).2.2⟩⟩
theorem TbL.keep {H0 H H' : Hp} {j : Jb} {TV : Nat → List Nat} {ps : List Pa} {f : Pa → Nat} {ts X : List Nat} (a : TbL H0 H j TV ps f ts X) (k : Keep H H') : TbL H0 H' j TV ps f ts X := a.ch (k.ch (F := [])) (by simp)
theorem TbL.sub {H0 H : Hp} {j : Jb} {TV : Nat → List Nat} {ps : List Pa} {f : Pa → Nat} {ts X X' : List Nat} (a : TbL H0 H j TV ps f ts X) (h : ∀ b ∈ X', b ∈ X ∨ H.size ≤ b) : TbL H0 H j TV ps f ts X' := fun i p t hp ht => by
 obtain ⟨h0, sv, h1, h2⟩ := a i p t hp ht
 exact ⟨h0, sv, h1, fun b hb => ⟨(h2 b hb).1, (h2 b hb).2.1, fun hh => (h b hh).elim (h2 b hb).2.2 fun q => by have := (h2 b hb).2.1; omega⟩⟩
theorem TbL.snoc {H0 H : Hp} {j : Jb} {TV : Nat → List Nat} {ps : List Pa} {f : Pa → Nat} {ts X : List Nat} {t : Nat} {p : Pa} {sv : Sl} (a : TbL H0 H j TV ps f ts X) (hp : ps[ts.length]? = some p) (ho : TbOk (tbl j TV (f p))) (h1 : Tab H t sv (tbl j TV (f p)).1 (tbl j TV (f p)).2) (h2 : ∀ b ∈ t :: fp sv, H0.size ≤ b ∧ b < H.size ∧ b ∉ X) : TbL H0 H j TV ps f (ts ++ [t]) X := fun i q u hq hu => by
 by_cases hi : i < ts.length
 ·rw [List.getElem?_append_left hi] at hu
  exact a i q u hq hu
 ·rw [List.getElem?_append_right (by omega)] at hu
  have hl := (List.getElem?_eq_some_iff.1 hu).1
  simp at hl
  obtain rfl : i = ts.length := by omega
  rw [Nat.sub_self] at hu
  simp at hu
  subst hu
  rw [hp] at hq
  obtain rfl : p = q := Option.some.inj hq
  exact ⟨ho, sv, h1, h2⟩
theorem rd_ptr {H : Hp} {b : Nat} {T : TypeId} {v : Option Addr} (h : Bk H b T [.pointer v]) : rdS H (some ⟨b, 0, none⟩) [.pointer v] :=
 ⟨ones_cons rfl ones_nil, fun i w hw => ⟨_, rfl, by
  have hi := (List.getElem?_eq_some_iff.1 hw).1
  simp at hi
  subst hi
  rw [add_mk, h.cell]
  exact hw⟩⟩
section
variable {H : Hp} {j : Jb} {cs : List Cp} {ps : List Pa} {TV : Nat → List Nat}
theorem part_tabs (hP : Prt j.w j.h cs ps = 0) (J : JV H j cs ps TV) {i : Nat} {p : Pa} (hp : ps[i]? = some p) : (0 ≤ p.dc ∧ p.dc ≤ 3) ∧ (0 ≤ p.ac ∧ p.ac ≤ 3) ∧ (∃ x, j.sp[p.dc.toNat]? = some x) ∧ ∃ x, j.sp[4 + p.ac.toNat]? = some x := by
 obtain ⟨hC, fr, hL, hB, hU⟩ := prt_fr hP
 have : ¬ PtBad cs ps i p := fun hh => hB ⟨i, _, hp, hh⟩
 unfold PtBad at this
 have ok := J.hpk p (List.mem_of_getElem? hp)
 obtain ⟨_, o1, o2⟩ := ok
 have hl : j.sp.length = 8 := rfl
 exact ⟨by omega, by omega, ⟨_, List.getElem?_eq_getElem (by omega)⟩, ⟨_, List.getElem?_eq_getElem (by omega)⟩⟩
set_option maxHeartbeats 1000000 in
theorem ready_ok {Q : Sl × Sl × Int → Hp → Prop} (J : JV H j cs ps TV) (hP : Prt j.w j.h cs ps = 0)
  (h0 : rdE j TV ps ≠ 0 → ∀ H', Keep H H' → Q (⟨none, 0, 0⟩, ⟨none, 0, 0⟩, rdE j TV ps) H')
  (h : rdE j TV ps = 0 → ∀ dl al ts us H', Own H' 67 1 dl (ts.flatMap cPt) → Own H' 67 1 al (us.flatMap cPt) → ts.length = ps.length → us.length = ps.length → TbL H H' j TV ps (fun p => p.dc.toNat) ts [] → TbL H H' j TV ps (fun p => 4 + p.ac.toNat) us [] → (∀ b ∈ fp dl ++ fp al, H.size ≤ b) → Keep H H' → Q (dl, al, 0) H') :
  span_ready.s j.g j.w j.h j.s j.t j.d0.1 j.d0.2 j.d1.1 j.d1.2 j.d2.1 j.d2.2 j.d3.1 j.d3.2 j.a0.1 j.a0.2 j.a1.1 j.a1.2 j.a2.1 j.a2.2 j.a3.1 j.a3.2 j.f j.u H Q := by
 obtain ⟨hC, fr, hL, hBd, hU⟩ := prt_fr hP
 have hn := J.ht.n
 unfold span_ready.s
 intro b1 H2 c2 g1 g1' b3 H4 c4 g3 g3' b5 H6 c6 g5 g5' q3 q5 q1
 have k6 : Keep H H6 := ((c2.keep (by simp)).trans (c4.keep (by simp))).trans (c6.keep (by simp))
 have y2 := c2.size
 have y4 := c4.size
 have y6 := c6.size
 refine Fix.intro (fun (x : Int) H' => ∃ (i : Nat) (dl al : Sl) (ts us : List Nat), x = (i : Int) ∧ i ≤ ps.length ∧ rdE j TV (ps.drop i) = rdE j TV ps ∧ Own H' 67 1 dl (ts.flatMap cPt) ∧ Own H' 67 1 al (us.flatMap cPt) ∧ ts.length = i ∧ us.length = i ∧ TbL H H' j TV ps (fun p => p.dc.toNat) ts (b3 :: b5 :: (fp dl ++ fp al)) ∧ TbL H H' j TV ps (fun p => 4 + p.ac.toNat) us (b3 :: b5 :: (fp dl ++ fp al)) ∧
   (∀ b ∈ fp dl ++ fp al, H6.size ≤ b) ∧ (∀ b ∈ fp dl, b ∉ fp al) ∧ Bk H' b1 32 j.cells ∧ Bk H' b3 82 (c82 ⟨none, 0, 0⟩ ⟨none, 0, 0⟩) ∧ Bk H' b5 82 (c82 dl al) ∧ Keep H H' ∧ H6.size ≤ H'.size) (fun x _ => ps.length - x.toNat)
  ⟨0, ⟨none, 0, 0⟩, ⟨none, 0, 0⟩, [], [], rfl, by omega, rfl, Own.nil _ _ _, Own.nil _ _ _, rfl, rfl, fun i p t _ ht => by simp at ht, fun i p t _ ht => by simp at ht, by simp [fp], by simp [fp], q1, q3, q5, k6, Nat.le_refl _⟩ ?_
 rintro _ H10 ⟨i, dl, al, ts, us, rfl, hi, hE, od, oa, htl, hul, td, ta, fr1, fr2, j1, j3, j5, k10, y10⟩ rec hrec
 have J10 := J.keep k10
 have f3 : b3 ∉ fp dl ∧ b3 ∉ fp al ∧ b5 ∉ fp dl ∧ b5 ∉ fp al ∧ b1 ∉ fp dl ∧ b1 ∉ fp al := by
  refine ⟨fun hh => ?_, fun hh => ?_, fun hh => ?_, fun hh => ?_, fun hh => ?_, fun hh => ?_⟩
  all_goals
   first
    | (have := fr1 _ (List.mem_append_left _ hh); omega)
    | (have := fr1 _ (List.mem_append_right _ hh); omega)
 by_cases hil : i < ps.length
 rotate_left
 ·have hE0 : rdE j TV ps = 0 := by rw [← hE, List.drop_eq_nil_of_le (by omega)]; rfl
  exact ite_f (decf (by omega)) ⟨_, _, ldA_full j5, stA_full j3 rfl fun H123 b123 s123 => ⟨_, _, ldA_full b123, h hE0 dl al ts us H123 (od.ch s123.ch (fun b hb hh => by simp at hh; subst hh; exact f3.1 hb)) (oa.ch s123.ch (fun b hb hh => by simp at hh; subst hh; exact f3.2.1 hb)) (by omega) (by omega) ((td.ch s123.ch (by simp)).sub (by simp)) ((ta.ch s123.ch (by simp)).sub (by simp)) (fun b hb => by have := fr1 b hb; omega) (k10.same s123 (by omega))⟩⟩
 obtain ⟨p, hp⟩ : ∃ p, ps[i]? = some p := ⟨_, get_some hil⟩
 obtain ⟨pd, pa, ⟨x, hx⟩, ⟨y, hy⟩⟩ := part_tabs hP J hp
 obtain ⟨xv, xb, xc, xl⟩ := J10.sp _ x hx
 obtain ⟨yv, yb, yc, yl⟩ := J10.sp _ y hy
 have hdr : ps.drop i = p :: ps.drop (i + 1) := by
  obtain ⟨g1, g2⟩ := List.getElem?_eq_some_iff.1 hp
  rw [List.drop_eq_getElem_cons g1, g2]
 rw [hdr, rdE, tbl_at hx, tbl_at hy] at hE
 dsimp only at hE
 obtain ⟨b, o, ha, hA⟩ := J10.ht.get hp
 refine ite_t (dect (by omega)) (Join.intro (fun (_ : Unit) H' => ∃ (dl' al' : Sl) (ts' us' : List Nat), rdE j TV (ps.drop (i + 1)) = rdE j TV ps ∧ Own H' 67 1 dl' (ts'.flatMap cPt) ∧ Own H' 67 1 al' (us'.flatMap cPt) ∧ ts'.length = i + 1 ∧ us'.length = i + 1 ∧ TbL H H' j TV ps (fun p => p.dc.toNat) ts' (b3 :: b5 :: (fp dl' ++ fp al')) ∧ TbL H H' j TV ps (fun p => 4 + p.ac.toNat) us' (b3 :: b5 :: (fp dl' ++ fp al')) ∧
   (∀ b ∈ fp dl' ++ fp al', H6.size ≤ b) ∧ (∀ b ∈ fp dl', b ∉ fp al') ∧ Bk H' b1 32 j.cells ∧ Bk H' b3 82 (c82 ⟨none, 0, 0⟩ ⟨none, 0, 0⟩) ∧ Bk H' b5 82 (c82 dl' al') ∧ Keep H H' ∧ H6.size ≤ H'.size) ?_ fun J13 hJ13 => ?_)
 ·rintro ⟨⟩ H15 ⟨dl', al', ts', us', r1, r2, r3, r4, r5, r6, r7, r8, r9, r10, r11, r12, r13, r14⟩
  rw [show (i : Int) + 1 = ((i + 1 : Nat) : Int) from by omega, w64n (by omega)]
  exact hrec _ _ ⟨i + 1, dl', al', ts', us', rfl, by omega, r1, r2, r3, r4, r5, r6, r7, r8, r9, r10, r11, r12, r13, r14⟩ (by simp; omega)
 refine ⟨by omega, by omega, _, ha, ?_⟩
 rw [Int.toNat_natCast]
 refine ⟨_, _, _, hA, ?_⟩
 intro b24 H26 c26 g24 g24'
 have k26 : Keep H10 H26 := c26.keep (by simp)
 have y26 := k26.size
 have sp1 : ∀ {A : Hp}, Keep H10 A → ldA A ((⟨b1, 5, none⟩ : Addr).add (Int.toNat p.dc * 17)) (c29 x.1 x.2) := fun {A} kA => by rw [add_mk]; exact job_sp (j1.keep kA) hx
 have sp2 : ∀ {A : Hp}, Keep H10 A → ldA A ((⟨b1, 73, none⟩ : Addr).add (Int.toNat p.ac * 17)) (c29 y.1 y.2) := fun {A} kA => by
  rw [add_mk, show 73 + Int.toNat p.ac * 17 = 5 + (4 + Int.toNat p.ac) * 17 from by omega]
  exact job_sp (j1.keep kA) hy
 -- no tables
 have none_ : ∀ {A : Hp} {er : Int}, Keep H10 A → rdE j TV ps = er → er ≠ 0 → stA A (⟨b3, 0, none⟩ : Addr) (c82 ⟨none, 0, 0⟩ ⟨none, 0, 0⟩) (fun H35 => ∃ x37 : Sl, ∃ x38 : Sl, ldA H35 (⟨b3, 0, none⟩ : Addr) (c82 x37 x38) ∧ (Q (x37, x38, er) H35)) := fun {A er} kA he hn0 =>
  stA_full (j3.keep kA) rfl fun H35 b35 s35 => ⟨_, _, ldA_full b35, by rw [← he]; exact h0 (by rw [he]; exact hn0) H35 ((k10.trans kA).same s35 (by omega))⟩
 refine ⟨pd.1, by omega, _, _, sp1 k26, New_ok4 xc (xv.keep k26) xb (by omega) (fun hz H33 k33 => ⟨Pv.keep k33 (by simp; omega), ite_t (bnet hz) (none_ (k26.trans k33) ?_ hz)⟩) fun hz t tv H33 T33 k33 ft => ⟨Pv.keep k33 (by simp; omega), ite_f rfl ?_⟩⟩
 ·rw [if_pos hz] at hE; exact hE.symm
 rw [if_neg (by omega)] at hE
 have k33' := k26.trans k33
 have y33 := k33.size
 refine ⟨pa.1, by omega, _, _, sp2 k33', New_ok4 yc (yv.keep k33') yb (by omega) (fun hz2 H45 k45 => ite_t (bnet hz2) (none_ (k33'.trans k45) ?_ hz2)) fun hz2 t' tv' H45 T45 k45 ft' => ite_f rfl ?_⟩
 ·rw [if_pos hz2] at hE; exact hE.symm
 rw [if_neg (by omega)] at hE
 have k45' := k33'.trans k45
 have y45 := k45.size
 have T33' := T33.keep k45
 have lT := T33.lts
 have lT' := T45.lts
 have od45 := od.kp k45'
 have oa45 := oa.kp k45'
 have ld := od.fp_lt
 have la := oa.fp_lt
 -- the second list is gone on with
 have second : ∀ {l62 : Sl} {B B' : Hp}, Own B 67 1 l62 ((ts ++ [t]).flatMap cPt) → Ch (fp dl) H45 B → (∀ b ∈ fp l62, b ∈ fp dl ∨ H45.size ≤ b) → Keep B B' → apS B' al 67 1 8 z67.cells 1 [.pointer (some ⟨t', 0, none⟩)] (fun l71 H72 => st H72 (⟨b5, 0, none⟩ : Addr) (.slice l62.a l62.n l62.c) (fun H73 => st H73 (⟨b5, 1, none⟩ : Addr) (.slice l71.a l71.n l71.c) (fun H74 => J13 () H74))) := fun {l62 B B'} oB cB fB kB => by
  have yB := cB.size
  have yB' := kB.size
  have ld62 := oB.fp_lt
  have oa' := (oa45.ch cB fun b hb hh => fr2 b hh hb).kp kB
  refine apS_list (f := cPt) (ys := [t']) oa' cPt_len cPt_ones rfl (by omega) rfl (by rw [hul]; simp; omega) (by omega) fun l71 H72 o72 c72 f72 => ?_
  have y72 := c72.size
  have cAll : Ch (fp dl ++ fp al) H45 H72 := ((cB.mono (G := fp dl ++ fp al) fun b hb => .inl (by simp [hb])).trans (kB.ch (F := [])) (by simp)).trans c72 fun b hb => .inl (by simp [hb])
  have nA : ∀ {z : Nat}, z ∉ fp dl → z ∉ fp al → z ∉ fp dl ++ fp al := fun {z} h1 h2 hh => (List.mem_append.1 hh).elim h1 h2
  refine st_i ((j5.keep k45').ch cAll (nA f3.2.2.1 f3.2.2.2.1)) (by show 0 < 2; omega) fun H73 b73 s73 => st_i b73 (by show 1 < 2; omega) fun H74 b74 s74 => ?_
  have y73 := s73.size
  have y74 := s74.size
  have cE : Ch (b3 :: b5 :: (fp dl ++ fp al)) H45 H74 := ((cAll.mono (G := b3 :: b5 :: (fp dl ++ fp al)) fun b hb => .inl (by simp [List.mem_append.1 hb])).trans s73.ch (by simp)).trans s74.ch (by simp)
  have fD : ∀ b ∈ fp l62, H6.size ≤ b ∧ b < B.size := fun b hb => ⟨(fB b hb).elim (fun q => fr1 b (by simp [q])) fun q => by omega, ld62 b hb⟩
  have fA : ∀ b ∈ fp l71, b ∈ fp al ∨ B'.size ≤ b := f72
  have dd : ∀ b ∈ fp l62, b ∉ fp l71 := fun b hb hh => by
   rcases fA b hh with q | q
   ·rcases fB b hb with q' | q'
    ·exact fr2 b q' q
    ·have := la b q; have := k45'.size; omega
   ·have := (fD b hb).2; omega
  have hX : ∀ {q : Nat}, q ∈ b3 :: b5 :: (fp l62 ++ fp l71) → q ∈ b3 :: b5 :: (fp dl ++ fp al) ∨ H45.size ≤ q := fun {q} hq => by
   rcases List.mem_cons.1 hq with rfl | hq
   ·exact .inl (by simp)
   rcases List.mem_cons.1 hq with rfl | hq
   ·exact .inl (by simp)
   rcases List.mem_append.1 hq with hq | hq
   ·exact (fB q hq).imp (fun h => by simp [h]) id
   ·rcases fA q hq with r | r
    ·exact .inl (by simp [r])
    ·exact .inr (by omega)
  have tnew : ∀ {q qv : Nat} {sv : Sl}, (∀ b ∈ q :: fp sv, H10.size ≤ b ∧ b < H45.size) → ∀ b ∈ q :: fp sv, H.size ≤ b ∧ b < H45.size ∧ b ∉ b3 :: b5 :: (fp dl ++ fp al) := fun {q qv sv} hq b hb => by
   have h1 := hq b hb
   have := k10.size
   refine ⟨by omega, h1.2, fun hh => ?_⟩
   rcases List.mem_cons.1 hh with rfl | hh
   ·omega
   rcases List.mem_cons.1 hh with rfl | hh
   ·omega
   rcases List.mem_append.1 hh with hh | hh
   ·have := ld b hh; omega
   ·have := la b hh; omega
  have k2645 := k45'.size
  have td2 := ((td.keep k45').snoc (t := t) (p := p) (sv := tv) (by rw [htl]; exact hp) (by rw [tbl_at hx]; exact ⟨may4 hz, xb⟩) (by rw [tbl_at hx]; exact T33') (tnew (qv := 0) fun b hb => by have := ft b hb; have := lT b hb; omega))
  have ta2 := ((ta.keep k45').snoc (t := t') (p := p) (sv := tv') (by rw [hul]; exact hp) (by rw [tbl_at hy]; exact ⟨may4 hz2, yb⟩) (by rw [tbl_at hy]; exact T45) (tnew (qv := 0) fun b hb => by have := ft' b hb; have := lT' b hb; omega))
  have mv : ∀ {f : Pa → Nat} {zs : List Nat}, TbL H H45 j TV ps f zs (b3 :: b5 :: (fp dl ++ fp al)) → TbL H H74 j TV ps f zs (b3 :: b5 :: (fp l62 ++ fp l71)) := fun {f zs} tt =>
   ((tt.sub (X' := (b3 :: b5 :: (fp dl ++ fp al)) ++ (b3 :: b5 :: (fp l62 ++ fp l71))) fun b hb => (List.mem_append.1 hb).elim .inl hX).ch cE fun b hb => .inl (List.mem_append_left _ hb)).sub fun b hb => .inl (List.mem_append_right _ hb)
  have nS : ∀ {z : Nat} {sl : Sl}, z < H6.size → (∀ b ∈ fp sl, H6.size ≤ b) → ∀ b ∈ fp sl, b ∉ [z] := fun {z sl} hz hs b hb hh => by have := hs b hb; simp at hh; omega
  have fA6 : ∀ b ∈ fp l71, H6.size ≤ b := fun b hb => (fA b hb).elim (fun q => fr1 b (by simp [q])) fun q => by omega
  refine hJ13 _ _ ⟨l62, l71, ts ++ [t], us ++ [t'], hE, ?_, ?_, by simp [htl], by simp [hul], mv td2, mv ta2, fun b hb => ?_, dd, ?_, ?_, b74, ?_, by omega⟩
  ·exact (((oB.kp kB).ch c72 (fun b hb hh => by
    rcases fB b hb with q | q
    ·exact fr2 b q hh
    ·have := la b hh; omega)).ch s73.ch (nS (by omega) fun b hb => (fD b hb).1)).ch s74.ch (nS (by omega) fun b hb => (fD b hb).1)
  ·exact (o72.ch s73.ch (nS (by omega) fA6)).ch s74.ch (nS (by omega) fA6)
  ·rcases List.mem_append.1 hb with q | q
   ·exact (fD b q).1
   ·exact fA6 b q
  ·refine (j1.keep k45').ch cE fun hh => ?_
   rcases List.mem_cons.1 hh with q | hh
   ·omega
   rcases List.mem_cons.1 hh with q | hh
   ·omega
   exact nA f3.2.2.2.2.1 f3.2.2.2.2.2 hh
  ·exact ((((j3.keep k45').ch cAll (nA f3.1 f3.2.1)).same s73 (by omega)).same s74 (by omega))
  ·refine ((k10.trans k45').ch (F := [])).trans cE (fun b hb => .inr ?_) |>.keep (by simp)
   rcases List.mem_cons.1 hb with rfl | hb
   ·omega
   rcases List.mem_cons.1 hb with rfl | hb
   ·omega
   have := fr1 b hb; omega
 have first : ∀ {A : Hp} {K : Sl → Hp → Prop}, Keep H45 A → (∀ l62 B, Own B 67 1 l62 ((ts ++ [t]).flatMap cPt) → Ch (fp dl) H45 B → Ch (fp dl) A B → (∀ b ∈ fp l62, b ∈ fp dl ∨ H45.size ≤ b) → K l62 B) → apS A dl 67 1 8 z67.cells 1 [.pointer (some ⟨t, 0, none⟩)] K := fun {A K} kA hK => by
  have yA := kA.size
  refine apS_list (f := cPt) (ys := [t]) (od45.kp kA) cPt_len cPt_ones rfl (by omega) rfl (by rw [htl]; simp; omega) (by omega) fun l62 B oB cB fB => hK l62 B oB ((kA.ch (F := fp dl)).trans cB fun b hb => .inl hb) cB fun b hb => (fB b hb).imp id fun q => by omega
 have c5 : ∀ {A : Hp}, Keep H45 A → cellAt A (⟨b5, 1, none⟩ : Addr) = some (.slice al.a al.n al.c) ∧ cellAt A (⟨b5, 0, none⟩ : Addr) = some (.slice dl.a dl.n dl.c) := fun {A} kA => by
  have := (j5.keep k45').keep kA
  exact ⟨by rw [this.cell]; rfl, by rw [this.cell]; rfl⟩
 have c51 : ∀ {A : Hp}, Ch (fp dl) H45 A → cellAt A (⟨b5, 1, none⟩ : Addr) = some (.slice al.a al.n al.c) := fun {A} cA => by
  rw [((j5.keep k45').ch cA f3.2.2.1).cell]; rfl
 refine ldL_i (j5.keep k45') rfl (ldL_i (j5.keep k45') rfl ⟨nw_i fun H56 b56 k56 z56 => ⟨(c5 k56).1, (c5 k56).2, first k56 fun l62 B oB cB cB' fB => ⟨c51 cB, nw_i fun H66 b66 k66 z66 => ⟨c51 (cB.trans (k66.ch (F := [])) (by simp)), second oB cB fB k66⟩⟩, nw_i fun H76 b76 k76 z76 => ⟨(c5 (k56.trans k76)).1, (c5 (k56.trans k76)).2, _, rfl, rd_ptr (b56.keep k76), first (k56.trans k76) fun l82 B oB cB cB' fB => ⟨c51 cB, _, rfl, rd_ptr (b76.ch cB' fun hh => ?_), second oB cB fB (Keep.refl _)⟩⟩⟩, nw_i fun H97 b97 k97 z97 => ⟨(c5 k97).1, (c5 k97).2, nw_i fun H103 b103 k103 z103 => ⟨(c5 (k97.trans k103)).1, (c5 (k97.trans k103)).2, first (k97.trans k103) fun l109 B oB cB cB' fB => ⟨c51 cB, _, rfl, rd_ptr ((b97.keep k103).ch cB' fun hh => ?_), second oB cB fB (Keep.refl _)⟩⟩⟩⟩)
 ·have := ld _ hh; have := k45'.size; omega
 ·have := ld _ hh; have := k45'.size; omega
end
section
variable {A D : TB} {pred : Int}
theorem rdB_end {k : Nat} {X : List Int} {B : List Bool} {t : Nat} : rdB A pred (k + 1) D X 64 B t = (0, X, B, t) := by rw [rdB, if_pos rfl]
theorem rdB_go {k n : Nat} {X X' : List Int} {B : List Bool} {t y c w n' : Nat} (hn : n ≠ 64) (h1 : rd4 D.1 D.2 (B.take 16) = (y, 0, c)) (h2 : wF n y = (w, 0)) (h3 : c + w ≤ B.length) (h4 : tF pred X n y (w : Int) (num ((B.drop c).take w)) = (0, X', n')) :
  rdB A pred (k + 1) D X n B t = rdB A pred k A X' n' (B.drop (c + w)) (t + (c + w)) := by
 rw [rdB, if_neg hn, h1]
 dsimp only
 rw [if_neg (by decide), if_neg (by decide), h2]
 dsimp only
 rw [if_neg (by decide), if_neg (by rw [List.length_drop]; omega), h4]
 dsimp only
 rw [if_neg (by decide), List.drop_drop]
theorem rdB_s1 {k n : Nat} {X : List Int} {B : List Bool} {t : Nat} (hn : n ≠ 64) (h1 : (rd4 D.1 D.2 (B.take 16)).2.1 = 44) : rdB A pred (k + 1) D X n B t = (2, X, B, t) := by
 rw [rdB, if_neg hn, if_pos h1]
theorem rdB_s2 {k n : Nat} {X : List Int} {B : List Bool} {t y c w : Nat} (hn : n ≠ 64) (h1 : rd4 D.1 D.2 (B.take 16) = (y, 0, c)) (h2 : wF n y = (w, 0)) (h3 : B.length < c + w) (h4 : c ≤ B.length) : rdB A pred (k + 1) D X n B t = (2, X, B, t) := by
 rw [rdB, if_neg hn, h1]
 dsimp only
 rw [if_neg (by decide), if_neg (by decide), h2]
 dsimp only
 rw [if_neg (by decide), if_pos (by rw [List.length_drop]; omega)]
theorem rdB_cases (hD : TbOk D) (k n : Nat) (X : List Int) (B : List Bool) (t : Nat) :
  (n = 64 ∧ rdB A pred (k + 1) D X n B t = (0, X, B, t)) ∨ (∃ s, (s = 2 ∨ s = 4) ∧ rdB A pred (k + 1) D X n B t = (s, X, B, t)) ∨
  (n ≠ 64 ∧ ∃ y c w X' n', rd4 D.1 D.2 (B.take 16) = (y, 0, c) ∧ y < 256 ∧ 1 ≤ c ∧ wF n y = (w, 0) ∧ c + w ≤ B.length ∧ tF pred X n y (w : Int) (num ((B.drop c).take w)) = (0, X', n') ∧
   rdB A pred (k + 1) D X n B t = rdB A pred k A X' n' (B.drop (c + w)) (t + (c + w))) := by
 by_cases hn : n = 64
 ·subst hn; exact .inl ⟨rfl, rdB_end⟩
 refine .inr ?_
 obtain ⟨r1, r2, r3, r4, r5⟩ := rd4_v hD (B.take 16)
 generalize hr : rd4 D.1 D.2 (B.take 16) = r at *
 obtain ⟨y, e, c⟩ := r
 dsimp only at r1 r2 r3 r4 r5
 rcases r2 with rfl | rfl | rfl
 rotate_left
 ·exact .inl ⟨2, .inl rfl, rdB_s1 hn (by rw [hr])⟩
 ·exact .inl ⟨4, .inr rfl, by rw [rdB, if_neg hn, hr]; dsimp only; rw [if_neg (by decide), if_pos (by decide)]⟩
 have hc : c ≤ B.length := by rw [List.length_take] at r3; omega
 generalize hw : wF n y = w2
 obtain ⟨w, e⟩ := w2
 by_cases he : e = 0
 rotate_left
 ·exact .inl ⟨4, .inr rfl, by rw [rdB, if_neg hn, hr]; dsimp only; rw [if_neg (by decide), if_neg (by decide), hw]; dsimp only; rw [if_pos he]⟩
 subst he
 by_cases hl : B.length < c + w
 ·exact .inl ⟨2, .inl rfl, rdB_s2 hn hr hw hl hc⟩
 generalize ht : tF pred X n y (w : Int) (num ((B.drop c).take w)) = f
 obtain ⟨e, X', n'⟩ := f
 by_cases he : e = 0
 rotate_left
 ·exact .inl ⟨4, .inr rfl, by
   rw [rdB, if_neg hn, hr]; dsimp only; rw [if_neg (by decide), if_neg (by decide), hw]; dsimp only; rw [if_neg (by decide), if_neg (by rw [List.length_drop]; omega), ht]; dsimp only; rw [if_pos he]⟩
 subst he
 exact .inr ⟨hn, y, c, w, X', n', rfl, r1, r5 rfl, hw, by omega, ht, rdB_go hn hr hw (by omega) ht⟩
theorem rdB_bits (hA : TbOk A) : ∀ (k : Nat) (D : TB), TbOk D → ∀ (X : List Int) (n : Nat) (B : List Bool) (t : Nat), ∃ d, (rdB A pred k D X n B t).2.2.2 = t + d ∧ d ≤ B.length ∧ ((rdB A pred k D X n B t).1 = 0 → (rdB A pred k D X n B t).2.2.1 = B.drop d) ∧ ((rdB A pred k D X n B t).1 = 0 ∨ (rdB A pred k D X n B t).1 = 2 ∨ (rdB A pred k D X n B t).1 = 4)
 | 0, D, _, X, n, B, t => ⟨0, rfl, Nat.zero_le _, fun (h : (4 : Nat) = 0) => by omega, .inr (.inr rfl)⟩
 | k + 1, D, hD, X, n, B, t => by
  rcases rdB_cases (A := A) (pred := pred) hD k n X B t with ⟨_, h⟩ | ⟨s, hs, h⟩ | ⟨_, y, c, w, X', n', h1, h2, h3, h4, h5, h6, h⟩
  ·rw [h]; exact ⟨0, rfl, by omega, fun _ => rfl, .inl rfl⟩
  ·rw [h]; exact ⟨0, rfl, by omega, fun q => by dsimp only at q; omega, .inr hs⟩
  ·rw [h]
   obtain ⟨d, q1, q2, q3, q4⟩ := rdB_bits hA k A hA X' n' (B.drop (c + w)) (t + (c + w))
   rw [List.length_drop] at q2
   exact ⟨c + w + d, by omega, by omega, fun q => by rw [q3 q, List.drop_drop], q4⟩
theorem tF_may {X X' : List Int} {n y w b n' : Nat} (hn : n ≤ 64) (hX : X.length = 64) (hm : mayB X) (h : tF pred X n y (w : Int) b = (0, X', n')) : X'.length = 64 ∧ mayB X' ∧ n' ≤ 64 := by
 have h0 := tF_ok (pred := pred) (y := y) (b := b) (z := (w : Int)) hn hX
 rw [h] at h0
 refine ⟨h0.1, ?_, h0.2.1⟩
 unfold tF at h
 by_cases h1 : (wF n y).2 ≠ 0
 ·rw [if_pos h1] at h; injection h with h _; omega
 rw [if_neg h1] at h
 obtain ⟨q1, q2, q3, q4, q5, q6⟩ := wF_ok (y := y) hn (by omega)
 by_cases h2 : (w : Int) ≠ (wF n y).1 ∨ 2 ^ (wF n y).1 ≤ b
 ·rw [if_pos h2] at h; injection h with h _; cases h
 rw [if_neg h2] at h
 have set_may : ∀ {i : Nat} {v : Int}, i < 64 → (i = 0 → -1024 ≤ v ∧ v ≤ 1023) → (1 ≤ i → -1023 ≤ v ∧ v ≤ 1023) → mayB (X.set i v) := fun {i v} hi a0 a1 => by
  have gd : ∀ k, (X.set i v).getD k 0 = if i = k then v else X.getD k 0 := fun k => by
   rw [List.getD_eq_getElem?_getD, List.getElem?_set]
   by_cases hk : i = k
   ·subst hk; rw [if_pos rfl, if_pos rfl, if_pos (by omega)]; rfl
   ·rw [if_neg hk, if_neg hk, ← List.getD_eq_getElem?_getD]
  refine ⟨?_, fun k k1 k2 => ?_⟩
  ·rw [gd]; split
   ·exact a0 (by omega)
   ·exact hm.1
  ·rw [gd]; split
   ·exact a1 (by omega)
   ·exact hm.2 k k1 k2
 by_cases h3 : n = 0
 ·rw [if_pos h3] at h
  split at h
  ·injection h with h _; cases h
  ·injection h with _ h
   injection h with h _
   subst h
   exact set_may (by omega) (fun _ => by omega) (fun q => by omega)
 rw [if_neg h3] at h
 by_cases y0 : y = 0
 ·rw [if_pos y0] at h; injection h with _ h; injection h with h _; subst h; exact hm
 rw [if_neg y0] at h
 by_cases yf0 : y = 240
 ·rw [if_pos yf0] at h; injection h with _ h; injection h with h _; subst h; exact hm
 rw [if_neg yf0] at h
 ·injection h with _ h
  injection h with h _
  subst h
  obtain ⟨z1, z2, z3, z4⟩ := q5 h3 y0 yf0
  have hp := pow_lt z3
  have p10 : (2 : Nat) ^ 10 = 1024 := rfl
  refine set_may (by omega) (fun q => by omega) (fun _ => ?_)
  unfold vF
  split <;> omega
theorem rdB_may (hA : TbOk A) : ∀ (k : Nat) (D : TB), TbOk D → ∀ (X : List Int) (n : Nat) (B : List Bool) (t : Nat), n ≤ 64 → X.length = 64 → mayB X → (rdB A pred k D X n B t).2.1.length = 64 ∧ mayB (rdB A pred k D X n B t).2.1
 | 0, D, _, X, n, B, t, _, hl, hm => ⟨hl, hm⟩
 | k + 1, D, hD, X, n, B, t, hn, hl, hm => by
  rcases rdB_cases (A := A) (pred := pred) hD k n X B t with ⟨_, h⟩ | ⟨s, hs, h⟩ | ⟨_, y, c, w, X', n', h1, h2, h3, h4, h5, h6, h⟩
  ·rw [h]; exact ⟨hl, hm⟩
  ·rw [h]; exact ⟨hl, hm⟩
  ·rw [h]
   obtain ⟨q1, q2, q3⟩ := tF_may hn hl hm h6
   exact rdB_may hA k A hA X' n' _ _ q3 q1 q2
theorem zB_may : zB.length = 64 ∧ mayB zB := by
 refine ⟨rfl, ?_, fun k k1 k2 => ?_⟩
 ·decide
 ·unfold zB
  rw [List.getD_eq_getElem?_getD, List.getElem?_replicate]
  split <;> simp
end
structure Rdg where
 st : Nat
 P : List Int
 B : List Bool
 X : List (List Int)
 t : Nat
noncomputable def rd1 (T : Nat → TB × TB) (r : Rdg) (p : Nat) : Rdg :=
 if r.st ≠ 0 then r else
 if (rdb (T p).1 (T p).2 (r.P.getD p 0) r.B).1 ≠ 0 then ⟨(rdb (T p).1 (T p).2 (r.P.getD p 0) r.B).1, r.P, r.B, r.X, r.t + (rdb (T p).1 (T p).2 (r.P.getD p 0) r.B).2.2.2⟩
 else ⟨0, r.P.set p ((rdb (T p).1 (T p).2 (r.P.getD p 0) r.B).2.1.getD 0 0), (rdb (T p).1 (T p).2 (r.P.getD p 0) r.B).2.2.1, r.X ++ [(rdb (T p).1 (T p).2 (r.P.getD p 0) r.B).2.1], r.t + (rdb (T p).1 (T p).2 (r.P.getD p 0) r.B).2.2.2⟩
noncomputable def rdL (T : Nat → TB × TB) (r : Rdg) (l : List Nat) : Rdg := l.foldl (rd1 T) r
noncomputable def rdU (T : Nat → TB × TB) (L : Nat → List Nat) (r : Rdg) : Nat → Rdg × Nat
 | 0 => (r, 0)
 | n + 1 => if (rdU T L r n).1.st ≠ 0 then rdU T L r n else (rdL T (rdU T L r n).1 (L n), if (rdL T (rdU T L r n).1 (L n)).st = 0 then n + 1 else n)
section
variable {T : Nat → TB × TB}
theorem n00 : ¬ (0 : Nat) ≠ 0 := fun h => h rfl
theorem rd1_no {r : Rdg} {p : Nat} (h : r.st ≠ 0) : rd1 T r p = r := by rw [rd1, if_pos h]
theorem rdL_no : ∀ {l : List Nat} {r : Rdg}, r.st ≠ 0 → rdL T r l = r
 | [], r, h => rfl
 | p :: l, r, h => by
  show rdL T (rd1 T r p) l = r
  rw [rd1_no h]; exact rdL_no h
theorem rdL_app (r : Rdg) (l m : List Nat) : rdL T r (l ++ m) = rdL T (rdL T r l) m := List.foldl_append ..
theorem rdU_L (L : Nat → List Nat) (r : Rdg) : ∀ n, (rdU T L r n).1 = rdL T r (cat L n)
 | 0 => rfl
 | n + 1 => by
  rw [rdU]
  have ih := rdU_L L r n
  show _ = rdL T r (cat L n ++ L n)
  rw [rdL_app, ← ih]
  split
  ·rename_i h; rw [rdL_no h]
  ·rfl
theorem rdU_n (L : Nat → List Nat) (r : Rdg) (h0 : r.st = 0) : ∀ n, (rdU T L r n).2 ≤ n ∧ ((rdU T L r n).1.st = 0 ↔ (rdU T L r n).2 = n)
 | 0 => ⟨Nat.le_refl _, fun _ => rfl, fun _ => h0⟩
 | n + 1 => by
  have ih := rdU_n L r h0 n
  rw [rdU]
  split
  ·rename_i h
   exact ⟨by omega, fun q => absurd q h, fun q => by omega⟩
  ·by_cases hs : (rdL T (rdU T L r n).1 (L n)).st = 0
   ·rw [if_pos hs]; exact ⟨Nat.le_refl _, fun _ => rfl, fun _ => hs⟩
   ·rw [if_neg hs]; exact ⟨by dsimp only; omega, fun q => absurd q hs, fun q => by dsimp only at q; omega⟩
end
section
variable {H : Hp} {j : Jb} {cs : List Cp} {ps : List Pa} {TV : Nat → List Nat}
theorem jchk_no (h : jChk j cs ps TV = 0) : Prt j.w j.h cs ps = 0 ∧ rdE j TV ps = 0 ∧ 0 ≤ j.f ∧ 0 ≤ j.u ∧ j.f ≤ (Uni j.w j.h cs ps).1 * (Uni j.w j.h cs ps).2 ∧ j.u ≤ (Uni j.w j.h cs ps).1 * (Uni j.w j.h cs ps).2 - j.f := by
 unfold jChk at h
 by_cases h1 : Prt j.w j.h cs ps ≠ 0
 ·rw [if_pos h1] at h; exact absurd h h1
 rw [if_neg h1] at h
 by_cases h2 : rdE j TV ps ≠ 0
 ·rw [if_pos h2] at h; exact absurd h h2
 rw [if_neg h2] at h
 split at h
 ·cases h
 ·exact ⟨by omega, by omega, by omega, by omega, by omega, by omega⟩
theorem uniw {w h : Int} {cs : List Cp} {ps : List Pa} : IntKind.wrap .i64 ((Uni w h cs ps).1 * (Uni w h cs ps).2) = (Uni w h cs ps).1 * (Uni w h cs ps).2 := by
 have := uni_area (w := w) (h := h) (cs := cs) (ps := ps)
 exact w64 (by omega)
set_option maxHeartbeats 1000000 in
theorem jmay_ok {Q : Sl × Sl × Int → Hp → Prop} (J : JV H j cs ps TV)
  (h0 : jChk j cs ps TV ≠ 0 → ∀ H', Keep H H' → Q (⟨none, 0, 0⟩, ⟨none, 0, 0⟩, jChk j cs ps TV) H')
  (h : jChk j cs ps TV = 0 → ∀ dl al ts us H', Own H' 67 1 dl (ts.flatMap cPt) → Own H' 67 1 al (us.flatMap cPt) → ts.length = ps.length → us.length = ps.length → TbL H H' j TV ps (fun p => p.dc.toNat) ts [] → TbL H H' j TV ps (fun p => 4 + p.ac.toNat) us [] → (∀ b ∈ fp dl ++ fp al, H.size ≤ b) → Keep H H' → Q (dl, al, 0) H') :
  span_may.s j.g j.w j.h j.s j.t j.d0.1 j.d0.2 j.d1.1 j.d1.2 j.d2.1 j.d2.2 j.d3.1 j.d3.2 j.a0.1 j.a0.2 j.a1.1 j.a1.2 j.a2.1 j.a2.2 j.a3.1 j.a3.2 j.f j.u H Q := by
 have hf := J.hf
 have hu := J.hu
 have hl := J.hl
 have hm := J.hm
 obtain ⟨a0, a1⟩ := uni_area (w := j.w) (h := j.h) (cs := cs) (ps := ps)
 have hJ : jChk j cs ps TV = if Prt j.w j.h cs ps ≠ 0 then Prt j.w j.h cs ps else if rdE j TV ps ≠ 0 then rdE j TV ps else
  if j.f < 0 ∨ j.u < 0 ∨ (Uni j.w j.h cs ps).1 * (Uni j.w j.h cs ps).2 < j.f ∨ (Uni j.w j.h cs ps).1 * (Uni j.w j.h cs ps).2 - j.f < j.u then 3 else 0 := rfl
 unfold span_may.s
 intro b1 H2 c2 g1 g1' b3 H4 c4 g3 g3'
 have k2 : Keep H H2 := c2.keep (by simp)
 have k4 : Keep H H4 := k2.trans (c4.keep (by simp))
 have y2 := c2.size
 have y4 := c4.size
 have J4 := J.keep k4
 have out : ∀ {A : Hp}, Keep H A → jChk j cs ps TV ≠ 0 → Gr [b3] A (fun H8 => Q (⟨none, 0, 0⟩, ⟨none, 0, 0⟩, jChk j cs ps TV) H8) := fun {A} kA hn => fun H8 c8 => h0 hn H8 ((kA.ch (F := [])).trans c8 (by simp; omega) |>.keep (by simp))
 refine gParts_ok J4.hs J4.hok (by omega) J4.ht J4.hpk fun H6 k6 => ⟨Pv.keep k6 (by simp; omega), ?_⟩
 have y6 := k6.size
 by_cases hP : Prt j.w j.h cs ps = 0
 rotate_left
 ·rw [if_pos hP] at hJ
  refine ite_t (bnet hP) ?_
  rw [← hJ]
  exact out (k4.trans k6) (by rw [hJ]; exact hP)
 rw [if_neg (by omega)] at hJ
 have k6' := k4.trans k6
 refine ite_f (bnei hP) (ready_ok (J.keep k6') hP (fun hn H10 k10 => ⟨Pv.keep k10 (by simp; omega), ?_⟩) fun hz dl al ts us H10 od oa tl ul td ta fr k10 => ⟨Pv.keep k10 (by simp; omega), ?_⟩)
 ·rw [if_pos hn] at hJ
  intro b12 H14 c14 g12 g12'
  refine ite_t (bnet hn) ?_
  rw [← hJ]
  exact out ((k6'.trans k10).trans (c14.keep (by simp))) (by rw [hJ]; exact hn)
 rw [if_neg (by omega)] at hJ
 intro b12 H14 c14 g12 g12'
 have y10 := k10.size
 have y14 := c14.size
 have k14 : Keep H10 H14 := c14.keep (by simp)
 have kA := (k6'.trans k10).trans k14
 have J14 := J.keep kA
 refine ite_f rfl (gUnits_ok J14.hs J14.hok (by omega) J14.ht J14.hpk fun H17 k17 => ⟨Pv.keep k17 (by simp; omega), ?_⟩)
 have y17 := k17.size
 dsimp only
 rw [uniw]
 generalize (Uni j.w j.h cs ps).1 * (Uni j.w j.h cs ps).2 = T at *
 refine Join.intro (fun (b : Bool) H' => H17 = H' ∧ b = (decide (j.f < 0) || decide (j.u < 0) || decide (T < j.f) || decide (IntKind.wrap .i64 (T - j.f) < j.u))) ?_ fun J hJ => join_or4 (hJ _ _ ⟨rfl, rfl⟩)
 rintro _ _ ⟨rfl, rfl⟩
 by_cases hb : j.f < 0 ∨ j.u < 0 ∨ T < j.f ∨ T - j.f < j.u
 ·rw [if_pos hb] at hJ
  have hc : (decide (j.f < 0) || decide (j.u < 0) || decide (T < j.f) || decide (IntKind.wrap .i64 (T - j.f) < j.u)) = true := by
   by_cases q : j.f < 0
   ·simp [q]
   ·rw [w64 (by omega)]
    simp; omega
  refine ite_t hc ?_
  have := out (kA.trans k17) (by rw [hJ]; decide)
  rw [hJ] at this
  exact this
 ·rw [if_neg hb] at hJ
  have hc : (decide (j.f < 0) || decide (j.u < 0) || decide (T < j.f) || decide (IntKind.wrap .i64 (T - j.f) < j.u)) = false := by
   rw [w64 (by omega)]
   simp; omega
  refine ite_f hc fun H23 c23 => ?_
  have kB : Keep H10 H17 := k14.trans k17
  have y17' := kB.size
  have e10 : H.size ≤ H10.size := (k6'.trans k10).size
  have c23' : Ch [b3] H17 H23 := c23
  have n3 : ∀ b ∈ fp dl ++ fp al, b ∉ [b3] := fun b hb hh => by have := fr b hb; simp at hh; omega
  have tt : ∀ {f : Pa → Nat} {zs : List Nat}, TbL H6 H10 j TV ps f zs [] → TbL H H23 j TV ps f zs [] := fun {f zs} t i p u hp hu => by
   obtain ⟨q0, sv, q1, q2⟩ := t i p u hp hu
   refine ⟨q0, sv, (q1.keep kB).ch c23' (fun b hb hh => by have := (q2 b hb).1; simp at hh; omega), fun b hb => ?_⟩
   have := q2 b hb
   have := c23'.size
   have := k6'.size
   exact ⟨by omega, by omega, by simp⟩
  refine h hJ dl al ts us H23 ((od.kp kB).ch c23' fun b hb => n3 b (by simp [hb])) ((oa.kp kB).ch c23' fun b hb => n3 b (by simp [hb])) tl ul (tt td) (tt ta) (fun b hb => ?_) (((k6'.trans k10).trans kB).ch (F := []) |>.trans c23' (by simp; omega) |>.keep (by simp))
  have := fr b hb; have := k6'.size; omega
end
theorem ldP_of0 {H : Hp} {p : Addr} {cs : List Value} {v : Option Addr} {K : Option Addr → Prop} (h : ldA H p cs) (hv : cs[0]? = some (.pointer v)) (hK : K v) : ldP H p K := ⟨v, by have := h.2 0 _ hv; rwa [Addr.add, if_pos rfl] at this, hK⟩
theorem ldA_at0 {H : Hp} {p : Addr} {cs : List Value} {v : Value} (h : ldA H p cs) (hv : cs[0]? = some v) : cellAt H p = some v := by have := h.2 0 _ hv; rwa [Addr.add, if_pos rfl] at this
theorem cat_mem {α : Type} (f : Nat → List α) {x : α} : ∀ {n : Nat}, x ∈ cat f n → ∃ i, i < n ∧ x ∈ f i
 | 0, h => by cases h
 | n + 1, h => by
  rcases List.mem_append.1 h with h | h
  ·obtain ⟨i, h1, h2⟩ := cat_mem f h; exact ⟨i, by omega, h2⟩
  ·exact ⟨n, by omega, h⟩
theorem unit_in {w h : Int} {cs : List Cp} {ps : List Pa} {col row : Int} {x : Sp} (hx : x ∈ unitL w h cs ps col row) : 0 ≤ x.1 ∧ x.1 < ps.length := by
 unfold unitL at hx
 split at hx
 ·rename_i h1
  rw [List.mem_singleton] at hx
  subst hx
  simp only; omega
 ·obtain ⟨i, hi, hx⟩ := cat_mem _ hx
  unfold partL at hx
  split at hx
  ·split at hx
   ·obtain ⟨n, _, rfl⟩ := List.mem_map.1 hx
    unfold spotAt; simp only; omega
   ·cases hx
  ·cases hx
theorem walkIn {w h : Int} {cs : List Cp} {ps : List Pa} {f m : Nat} {x : Sp} (hx : x ∈ walkL w h cs ps f m) : 0 ≤ x.1 ∧ x.1 < ps.length := by
 obtain ⟨i, _, hx⟩ := cat_mem _ hx
 exact unit_in hx
noncomputable def jT (j : Jb) (TV : Nat → List Nat) (ps : List Pa) (p : Nat) : TB × TB := ((ps[p]?).map fun q => (tbl j TV q.dc.toNat, tbl j TV (4 + q.ac.toNat))).getD ((zInts 16, []), (zInts 16, []))
theorem jT_at {j : Jb} {TV : Nat → List Nat} {ps : List Pa} {p : Nat} {q : Pa} (h : ps[p]? = some q) : jT j TV ps p = (tbl j TV q.dc.toNat, tbl j TV (4 + q.ac.toNat)) := by unfold jT; rw [h]; rfl
noncomputable def jL (j : Jb) (cs : List Cp) (ps : List Pa) (u : Nat) : List Nat := (walkL j.w j.h cs ps (j.f.toNat + u) 1).map fun x => x.1.toNat
noncomputable def jR0 (ps : List Pa) (B : List Bool) : Rdg := ⟨0, List.replicate ps.length 0, B, [], 0⟩
noncomputable def jRd (j : Jb) (cs : List Cp) (ps : List Pa) (TV : Nat → List Nat) (B : List Bool) (n : Nat) : Rdg × Nat := rdU (jT j TV ps) (jL j cs ps) (jR0 ps B) n
def jSt (r : Rdg) (l : List (Bool × Nat)) (clean : Bool) : Nat := if r.st ≠ 0 then r.st else if padd (l.drop r.t) = true ∧ clean = true then 1 else 3
abbrev cBl (X : Ints 64) : List Value := c57 X
theorem cBl_len (X : Ints 64) : (cBl X).length = 64 := by show (ints .i16 X.1).length = 64; rw [ints_length, X.2]
theorem cBl_ones (X : Ints 64) : ∀ u ∈ cBl X, u.oneCell' = true := one57 _
def TbM (lo hi : Nat) (H : Hp) (j : Jb) (TV : Nat → List Nat) (ps : List Pa) (f : Pa → Nat) (ts : List Nat) : Prop :=
 ∀ (i : Nat) (p : Pa) (t : Nat), ps[i]? = some p → ts[i]? = some t → TbOk (tbl j TV (f p)) ∧ ∃ sv, Tab H t sv (tbl j TV (f p)).1 (tbl j TV (f p)).2 ∧ ∀ b ∈ t :: fp sv, lo ≤ b ∧ b < hi
theorem TbL.m {H0 H : Hp} {j : Jb} {TV : Nat → List Nat} {ps : List Pa} {f : Pa → Nat} {ts X : List Nat} (a : TbL H0 H j TV ps f ts X) : TbM H0.size H.size H j TV ps f ts := fun i p t hp ht => by
 obtain ⟨h0, sv, h1, h2⟩ := a i p t hp ht
 exact ⟨h0, sv, h1, fun b hb => ⟨(h2 b hb).1, (h2 b hb).2.1⟩⟩
theorem TbM.ch {lo hi : Nat} {H H' : Hp} {j : Jb} {TV : Nat → List Nat} {ps : List Pa} {f : Pa → Nat} {ts F : List Nat} (a : TbM lo hi H j TV ps f ts) (c : Ch F H H') (hF : ∀ b ∈ F, b < lo ∨ hi ≤ b) : TbM lo hi H' j TV ps f ts := fun i p t hp ht => by
 obtain ⟨h0, sv, h1, h2⟩ := a i p t hp ht
 exact ⟨h0, sv, h1.ch c fun b hb hh => by have := h2 b hb; have := hF b hh; omega, h2⟩
structure DF (W H : Hp) (lo hi N : Nat) (j : Jb) (cs : List Cp) (ps : List Pa) (TV : Nat → List Nat) (dl al : Sl) (ts us : List Nat) (b1 b3 b8 k b16 b19 p b28 : Nat) : Prop where
 j1 : Bk H b1 32 j.cells
 f3 : Bk H b3 48 (c48 0 0 0 ⟨none, 0, 0⟩)
 f8 : Bk H b8 82 (c82 dl al)
 od : Own H 67 1 dl (ts.flatMap cPt)
 oa : Own H 67 1 al (us.flatMap cPt)
 tl : ts.length = ps.length
 ul : us.length = ps.length
 td : TbM lo hi H j TV ps (fun p => p.dc.toNat) ts
 ta : TbM lo hi H j TV ps (fun p => 4 + p.ac.toNat) us
 f16 : Bk H b16 85 [.pointer (some ⟨k, 0, none⟩)]
 f28 : Bk H b28 87 [.slice (some ⟨p, 0, none⟩) ps.length ps.length]
 low : W.size ≤ b1 ∧ b1 < b3 ∧ b3 < lo ∧ lo ≤ hi
 fd : ∀ b ∈ fp dl ++ fp al, b < hi
 ord : hi ≤ b8 ∧ b8 < k ∧ k < b16 ∧ b16 < b19 ∧ b19 < p ∧ p < b28 ∧ b28 < N
 kp : Keep W H
 le : N ≤ H.size
section
variable {W H H' : Hp} {lo hi N : Nat} {j : Jb} {cs : List Cp} {ps : List Pa} {TV : Nat → List Nat} {dl al : Sl} {ts us : List Nat} {b1 b3 b8 k b16 b19 p b28 : Nat}
theorem DF.ch {F : List Nat} (a : DF W H lo hi N j cs ps TV dl al ts us b1 b3 b8 k b16 b19 p b28) (c : Ch F H H') (hF : ∀ b ∈ F, hi ≤ b ∧ b ≠ b8 ∧ b ≠ b16 ∧ b ≠ b28) : DF W H' lo hi N j cs ps TV dl al ts us b1 b3 b8 k b16 b19 p b28 := by
 obtain ⟨l1, l2, l3, l4⟩ := a.low
 have nF : ∀ b, b < hi → b ∉ F := fun b hb hh => by have := hF b hh; omega
 exact ⟨a.j1.ch c (nF _ (by omega)), a.f3.ch c (nF _ (by omega)), a.f8.ch c (fun hh => (hF _ hh).2.1 rfl), a.od.ch c (fun b hb => nF b (a.fd b (by simp [hb]))), a.oa.ch c (fun b hb => nF b (a.fd b (by simp [hb]))), a.tl, a.ul,
  a.td.ch c (fun b hb => .inr (hF b hb).1), a.ta.ch c (fun b hb => .inr (hF b hb).1), a.f16.ch c (fun hh => (hF _ hh).2.2.1 rfl), a.f28.ch c (fun hh => (hF _ hh).2.2.2 rfl), a.low, a.fd, a.ord,
  (a.kp.ch (F := [])).trans c (fun b hb => .inr (by have := hF b hb; omega)) |>.keep (by simp), Nat.le_trans a.le c.size⟩
theorem DF.keep (a : DF W H lo hi N j cs ps TV dl al ts us b1 b3 b8 k b16 b19 p b28) (c : Keep H H') : DF W H' lo hi N j cs ps TV dl al ts us b1 b3 b8 k b16 b19 p b28 := a.ch (c.ch (F := [])) (by simp)
end
structure DM (H : Hp) (N k b19 p e np : Nat) (l0 : List (Bool × Nat)) (r : Rdg) (un : Int) (sl : Sl) (BL : List (Ints 64)) : Prop where
 src : Src H k (l0.drop r.t) e r.t
 f19 : Bk H b19 48 (c48 0 un (r.t : Int) sl)
 own : Own H 57 64 sl (BL.flatMap cBl)
 bl : BL.map (·.1) = r.X
 pr : Bk H p 55 (ints .i16 r.P)
 pl : r.P.length = np
 pv : ∀ v ∈ r.P, -32768 ≤ v ∧ v ≤ 32767
 rB : r.B = (l0.drop r.t).map (·.1)
 le : r.t ≤ l0.length
 st : r.st = 0
 fr : ∀ b ∈ fp sl, N ≤ b
section
variable {H H' : Hp} {N k b19 p e np : Nat} {l0 : List (Bool × Nat)} {r : Rdg} {un : Int} {sl : Sl} {BL : List (Ints 64)}
theorem DM.ch {F : List Nat} (a : DM H N k b19 p e np l0 r un sl BL) (c : Ch F H H') (hF : ∀ b ∈ F, b ∉ k :: b19 :: p :: fp sl) : DM H' N k b19 p e np l0 r un sl BL :=
 ⟨a.src.ch c (fun hh => hF _ hh (by simp)), a.f19.ch c (fun hh => hF _ hh (by simp)), a.own.ch c (fun b hb hh => hF _ hh (by simp [hb])), a.bl, a.pr.ch c (fun hh => hF _ hh (by simp)), a.pl, a.pv, a.rB, a.le, a.st, a.fr⟩
theorem DM.keep (a : DM H N k b19 p e np l0 r un sl BL) (c : Keep H H') : DM H' N k b19 p e np l0 r un sl BL := a.ch (c.ch (F := [])) (by simp)
theorem DM.lts (a : DM H N k b19 p e np l0 r un sl BL) : ∀ b ∈ k :: b19 :: p :: fp sl, b < H.size := fun b hb => by
 rcases List.mem_cons.1 hb with rfl | hb
 ·exact a.src.lt
 rcases List.mem_cons.1 hb with rfl | hb
 ·exact a.f19.lt
 rcases List.mem_cons.1 hb with rfl | hb
 ·exact a.pr.lt
 exact a.own.fp_lt b hb
end
theorem ints_get {l : List Int} {i : Nat} (h : i < l.length) : (ints .i16 l)[i]? = some (.int .i16 (l.getD i 0)) := by
 unfold ints
 rw [List.getElem?_map, List.getElem?_eq_getElem h, List.getD_eq_getElem?_getD, List.getElem?_eq_getElem h]
 rfl
theorem ints_set (l : List Int) (i : Nat) (v : Int) : (ints .i16 l).set i (.int .i16 v) = ints .i16 (l.set i v) := by
 unfold ints
 rw [List.map_set]
theorem made16 (n : Nat) : (madeCells z55.cells (n * 1)).toList = ints .i16 (List.replicate n 0) := by
 refine List.ext_getElem? fun i => ?_
 by_cases hi : i < n
 ·rw [show (madeCells z55.cells (n * 1)).toList[i]? = some (.int .i16 0) from by simp [madeCells, hi, z55, Value.cells, Nat.mod_one]]
  rw [ints_get (by simpa using hi), List.getD_eq_getElem?_getD, List.getElem?_replicate, if_pos hi]; rfl
 ·rw [List.getElem?_eq_none (by simp [madeCells]; omega), List.getElem?_eq_none (by simp [ints]; omega)]
theorem rd1_eq {T : Nat → TB × TB} {r : Rdg} {p : Nat} {D A : TB} (hT : T p = (D, A)) (h : r.st = 0) : rd1 T r p =
  if (rdb D A (r.P.getD p 0) r.B).1 ≠ 0 then ⟨(rdb D A (r.P.getD p 0) r.B).1, r.P, r.B, r.X, r.t + (rdb D A (r.P.getD p 0) r.B).2.2.2⟩
  else ⟨0, r.P.set p ((rdb D A (r.P.getD p 0) r.B).2.1.getD 0 0), (rdb D A (r.P.getD p 0) r.B).2.2.1, r.X ++ [(rdb D A (r.P.getD p 0) r.B).2.1], r.t + (rdb D A (r.P.getD p 0) r.B).2.2.2⟩ := by
 unfold rd1
 rw [if_neg (show ¬ r.st ≠ 0 by omega), hT]
theorem rdL_snoc {T : Nat → TB × TB} {r : Rdg} {l : List Nat} {i p : Nat} (h : l[i]? = some p) : rdL T r (l.take (i + 1)) = rd1 T (rdL T r (l.take i)) p := by
 rw [take_snoc' h, rdL_app]; rfl
theorem rdL_stop {T : Nat → TB × TB} {r : Rdg} {l : List Nat} {i : Nat} (h : (rdL T r (l.take i)).st ≠ 0) : rdL T r l = rdL T r (l.take i) := by
 conv => lhs; rw [← List.take_append_drop i l, rdL_app]
 exact rdL_no h
theorem mem_sw {α : Type} {b x y z : α} {l : List α} (h : b ∈ x :: y :: z :: l) : b ∈ y :: x :: z :: l := by
 simp only [List.mem_cons] at h ⊢
 rcases h with h | h | h | h <;> simp [h]
theorem mem_kb {b x y z w : Nat} {l : List Nat} (h : b ∈ [x, y]) : b ∈ z :: y :: x :: w :: l := by
 simp only [List.mem_cons, List.mem_nil_iff, or_false] at h ⊢
 rcases h with h | h <;> simp [h]
section
variable {H : Hp} {j : Jb} {cs : List Cp} {ps : List Pa} {TV : Nat → List Nat}
set_option maxHeartbeats 4000000 in
theorem Decode_okU {f : ByteArray} {fr to : Int} {xs : List Nat} {e : Nat} {Q : Int × Int × Int × Sl × Int → Hp → Prop} (J : JV H j cs ps TV) (hf : f.size ≤ 1125899906842624) (hc : Cut f (hiOf f.size fr to) (loOf f.size fr) xs e) (hU : jChk j cs ps TV = 0 → j.u ≤ 1048576)
  (h0 : jChk j cs ps TV ≠ 0 → ∀ H', Keep H H' → Q (0, 0, 0, ⟨none, 0, 0⟩, jChk j cs ps TV) H')
  (h : jChk j cs ps TV = 0 → ∀ (r : Rdg) (un : Nat) (l : List (Bool × Nat)), l = remB (loOf f.size fr) 7 xs → jRd j cs ps TV (l.map (·.1)) j.u.toNat = (r, un) → ∀ sl (BL : List (Ints 64)) H', Own H' 57 64 sl (BL.flatMap cBl) →
   (if jSt r l (decide (e = hiOf f.size fr to)) = 1 then BL.map (·.1) = r.X else sl = ⟨none, 0, 0⟩ ∧ BL = []) → (∀ b ∈ fp sl, H.size ≤ b) → Keep H H' → Q ((jSt r l (decide (e = hiOf f.size fr to)) : Int), (un : Int), (r.t : Int), sl, 0) H') :
  span_Decode.s f fr to j.g j.w j.h j.s j.t j.d0.1 j.d0.2 j.d1.1 j.d1.2 j.d2.1 j.d2.2 j.d3.1 j.d3.2 j.a0.1 j.a0.2 j.a1.1 j.a1.2 j.a2.1 j.a2.2 j.a3.1 j.a3.2 j.f j.u H Q := by
 have hjf := J.hf
 have hju := J.hu
 have hl := J.hl
 have hm := J.hm
 have hn := J.ht.n
 obtain ⟨a0, a1⟩ := uni_area (w := j.w) (h := j.h) (cs := cs) (ps := ps)
 obtain ⟨lh1, lh2⟩ := lohi f.size fr to
 have hcl := hc.le
 unfold span_Decode.s
 intro b1 H2 c2 g1 g1' b3 H4 c4 g3 g3'
 have k2 : Keep H H2 := c2.keep (by simp)
 have k4 : Keep H H4 := k2.trans (c4.keep (by simp))
 have y2 := c2.size
 have y4 := c4.size
 refine jmay_ok (J.keep k4) (fun hz H6 k6 => ⟨Pv.keep k6 (by simp; omega), ?_⟩) fun hz dl al ts us H6 od oa tl ul td ta fr6 k6 => ⟨Pv.keep k6 (by simp; omega), ?_⟩
 ·intro b8 H10 c10 g8 g8'
  refine ite_t (bnet hz) fun H11 c11 => h0 hz H11 ?_
  exact (((k4.trans k6).trans (c10.keep (by simp))).ch (F := [])).trans c11 (by simp; omega) |>.keep (by simp)
 obtain ⟨hP, hE, f0, u0, fT, uT⟩ := jchk_no hz
 have hu3 := hU hz
 obtain ⟨hC, frC, hL, hBd, hUs⟩ := prt_fr hP
 have y6 := k6.size
 intro b8 H10 c10 g8 g8'
 have y10 := c10.size
 refine ite_f rfl (Open_ok hf hc fun k H14 S14 k14 gk => ⟨Pv.keep k14 (by simp; omega), ?_⟩)
 have y14 := k14.size
 have kl := S14.lt
 intro b16 H18 c18 g16 g16' b19 H20 c20 g19 g19'
 have y18 := c18.size
 have y20 := c20.size
 refine ⟨by omega, by omega, by omega, nwA_i fun H26 b26 k26 z26 => ⟨Pv.keep k26 (by simp; omega), ?_⟩⟩
 intro b28 H30 c28 g28 g28' q1 q3 q8 q16 q19 q28
 have y30 := c28.size
 have kA : Keep H6 H30 := ((((c10.keep (by simp)).trans k14).trans (c18.keep (by simp))).trans (c20.keep (by simp))).trans (k26.trans (c28.keep (by simp)))
 have kB : Keep H14 H30 := ((c18.keep (by simp)).trans (c20.keep (by simp))).trans (k26.trans (c28.keep (by simp)))
 have kH : Keep H H30 := (k4.trans k6).trans kA
 rw [Int.toNat_natCast, hn] at q28
 rw [Int.toNat_natCast, hn, made16] at b26
 generalize hp : H20.size = p at *
 generalize hN : H30.size = N at *
 generalize hl0 : remB (loOf f.size fr) 7 xs = l0 at *
 have hlen : l0.length ≤ 9007199254740992 := by
  rw [← hl0, remB_len]; omega
 have df30 : DF H H30 H4.size H6.size N j cs ps TV dl al ts us b1 b3 b8 k b16 b19 p b28 :=
  ⟨q1, q3, q8, od.kp kA, oa.kp kA, tl, ul, td.m.ch (kA.ch (F := [])) (by simp), ta.m.ch (kA.ch (F := [])) (by simp), q16, q28, ⟨g1, by omega, g3', y6⟩,
   fun b hb => by
    rcases List.mem_append.1 hb with hb | hb
    ·exact od.fp_lt b hb
    ·exact oa.fp_lt b hb, by omega, kH, by omega⟩
 have dm30 : DM H30 N k b19 p e ps.length l0 (jR0 ps (l0.map (·.1))) 0 ⟨none, 0, 0⟩ [] :=
  ⟨by simpa [jR0] using S14.keep kB, q19, Own.nil _ _ _, rfl, b26.keep (c28.keep (by simp)), by simp [jR0], by simp [jR0], by simp [jR0], by simp [jR0], rfl, by simp [fp]⟩
 have hTok : ∀ q, q < ps.length → TbOk (jT j TV ps q).1 ∧ TbOk (jT j TV ps q).2 := fun q hq => by
  obtain ⟨pp, hpp⟩ : ∃ pp, ps[q]? = some pp := ⟨_, get_some hq⟩
  obtain ⟨t, ht⟩ : ∃ t, ts[q]? = some t := ⟨_, get_some (by omega)⟩
  obtain ⟨t', ht'⟩ : ∃ t, us[q]? = some t := ⟨_, get_some (by omega)⟩
  rw [jT_at hpp]
  exact ⟨(td q pp t hpp ht).1, (ta q pp t' hpp ht').1⟩
 -- the end
 refine Join.intro (fun (Ds : List Nat) H' => ∃ (r : Rdg) (un : Nat) (sl : Sl) (BL : List (Ints 64)), jRd j cs ps TV (l0.map (·.1)) j.u.toNat = (r, un) ∧ DF H H' H4.size H6.size N j cs ps TV dl al ts us b1 b3 b8 k b16 b19 p b28 ∧ Dfr Ds H' ∧ (∀ D ∈ Ds, N ≤ D ∧ D ∉ fp sl) ∧
  ((r.st = 0 ∧ DM H' N k b19 p e ps.length l0 r (un : Int) sl BL) ∨ (r.st ≠ 0 ∧ r.st ≠ 1 ∧ Bk H' b19 48 (c48 (r.st : Int) (un : Int) (r.t : Int) sl)))) ?_ fun J31 hJ31 => ?_
 ·rintro Ds H33 ⟨r, un, sl, BL, hr, df, dfr, hds, hst⟩
  obtain ⟨l1, l2, l3, l4⟩ := df.low
  have hord := df.ord
  have hh := h hz r un l0 rfl hr
  -- from the last state on
  have last : ∀ {A : Hp} {s : Nat} {sl' : Sl} {BL' : List (Ints 64)}, s = jSt r l0 (decide (e = hiOf f.size fr to)) → DF H A H4.size H6.size N j cs ps TV dl al ts us b1 b3 b8 k b16 b19 p b28 → Dfr Ds A → (∀ D ∈ Ds, D ∉ fp sl') → Bk A b19 48 (c48 (s : Int) (un : Int) (r.t : Int) sl') → Own A 57 64 sl' (BL'.flatMap cBl) → (∀ b ∈ fp sl', N ≤ b) → (if s = 1 then BL'.map (·.1) = r.X else sl' = ⟨none, 0, 0⟩ ∧ BL' = []) →
    (∃ x40 : Int, ∃ x41 : Int, ∃ x42 : Int, ∃ x43 : Sl, ldA A (⟨b19, 0, none⟩ : Addr) (c48 x40 x41 x42 x43) ∧ (stA A (⟨b3, 0, none⟩ : Addr) (c48 x40 x41 x42 x43) (fun H45 => tkD Ds H45 (fun H46 => ∃ x48 : Int, ∃ x49 : Int, ∃ x50 : Int, ∃ x51 : Sl, ldA H46 (⟨b3, 0, none⟩ : Addr) (c48 x48 x49 x50 x51) ∧ (Q (x48, x49, x50, x51, 0) H46))))) := fun {A s sl' BL'} hs dfA dfrA hdA f19 own frA hb => by
   refine ⟨_, _, _, _, ldA_full f19, stA_full dfA.f3 rfl fun H45 b45 s45 => tkD_ok (Dfr.ch s45.ch dfrA fun D hD hh => by have := (hds D hD).1; simp at hh; omega) fun H46 c46 z46 => ⟨_, _, _, _, ldA_full (b45.ch c46 fun hh => by have := (hds _ hh).1; omega), ?_⟩⟩
   subst hs
   refine hh sl' BL' H46 ((own.ch s45.ch fun b hb hh => by have := frA b hb; simp at hh; omega).ch c46 fun b hb hh => hdA b hh hb) hb (fun b hb => by have := frA b hb; have := kH.size; omega) ?_
   exact (((dfA.kp.ch (F := [])).trans s45.ch (by simp; omega)).trans c46 (fun D hD => .inr (by have := (hds D hD).1; have := kH.size; omega))).keep (by simp)
  refine Join.intro (fun (_ : Unit) H' => ∃ s : Nat, s = jSt r l0 (decide (e = hiOf f.size fr to)) ∧ DF H H' H4.size H6.size N j cs ps TV dl al ts us b1 b3 b8 k b16 b19 p b28 ∧ Dfr Ds H' ∧ Bk H' b19 48 (c48 (s : Int) (un : Int) (r.t : Int) sl) ∧ (s = 1 → Own H' 57 64 sl (BL.flatMap cBl) ∧ BL.map (·.1) = r.X ∧ ∀ b ∈ fp sl, N ≤ b)) ?_ fun J34 hJ34 => ?_
  ·rintro ⟨⟩ H36 ⟨s, hs, df36, dfr36, f36, ho⟩
   refine Join.intro (fun (_ : Unit) H' => ∃ (sl' : Sl) (BL' : List (Ints 64)), DF H H' H4.size H6.size N j cs ps TV dl al ts us b1 b3 b8 k b16 b19 p b28 ∧ Dfr Ds H' ∧ (∀ D ∈ Ds, D ∉ fp sl') ∧ Bk H' b19 48 (c48 (s : Int) (un : Int) (r.t : Int) sl') ∧ Own H' 57 64 sl' (BL'.flatMap cBl) ∧ (∀ b ∈ fp sl', N ≤ b) ∧ (if s = 1 then BL'.map (·.1) = r.X else sl' = ⟨none, 0, 0⟩ ∧ BL' = [])) ?_ fun J37 hJ37 => ?_
   ·rintro ⟨⟩ H39 ⟨sl', BL', e1, e2, e3, e4, e5, e6, e7⟩
    exact last hs e1 e2 e3 e4 e5 e6 e7
   ·refine ldI_i f36 rfl ?_
    by_cases hs1 : s = 1
    ·obtain ⟨o1, o2, o3⟩ := ho hs1
     exact ite_f (bnei (by omega)) (hJ37 _ _ ⟨sl, BL, df36, dfr36, fun D hD => (hds D hD).2, f36, o1, o3, by rw [if_pos hs1]; exact o2⟩)
    ·refine ite_t (bnet (by omega)) (st_i f36 (by show 3 < 4; omega) fun H54 b54 s54 => hJ37 _ _ ⟨⟨none, 0, 0⟩, [], df36.ch s54.ch (by simp; omega), Dfr.ch s54.ch dfr36 (fun D hD hh => by have := (hds D hD).1; simp at hh; omega), by simp [fp], b54, Own.nil _ _ _, by simp [fp], by rw [if_neg hs1]; exact ⟨rfl, rfl⟩⟩)
  ·rcases hst with ⟨hr0, dm⟩ | ⟨hr0, hr1, f19⟩
   rotate_left
   ·have hs : r.st = jSt r l0 (decide (e = hiOf f.size fr to)) := by unfold jSt; rw [if_pos hr0]
    exact ldI_i f19 rfl (ite_f (beqf (by omega)) (hJ34 _ _ ⟨r.st, hs, df, dfr, f19, fun q => absurd q hr1⟩))
   have hs : jSt r l0 (decide (e = hiOf f.size fr to)) = if padd (l0.drop r.t) = true ∧ decide (e = hiOf f.size fr to) = true then 1 else 3 := by unfold jSt; rw [if_neg (by omega)]
   have noD : ∀ D ∈ Ds, D ∉ [b19] := fun D hD hh => by have := (hds D hD).1; simp at hh; omega
   refine ldI_i dm.f19 rfl (ite_t rfl (st_i dm.f19 (by show 0 < 4; omega) fun H57 b57 s57 => Lt.of ?_))
   have df57 := df.ch s57.ch (by simp; omega)
   have dfr57 := Dfr.ch s57.ch dfr noD
   have src57 := dm.src.ch s57.ch (by simp; omega)
   have own57 := dm.own.ch s57.ch (fun b hb hh => by have := dm.fr b hb; simp at hh; omega)
   have e2 : (if (if (f.size : Int) < to then (f.size : Int) else to) < (if (f.size : Int) < (if fr < 0 then 0 else fr) then (f.size : Int) else (if fr < 0 then 0 else fr)) then (if (f.size : Int) < (if fr < 0 then 0 else fr) then (f.size : Int) else (if fr < 0 then 0 else fr)) else (if (f.size : Int) < to then (f.size : Int) else to)) = (hiOf f.size fr to : Int) := by
    have e1 : (if (f.size : Int) < (if fr < 0 then 0 else fr) then (f.size : Int) else (if fr < 0 then 0 else fr)) = (loOf f.size fr : Int) := by unfold loOf; split <;> split at * <;> omega
    rw [e1]; unfold hiOf; split <;> split at * <;> omega
   rw [e2]
   refine Join.intro (fun (b : Bool) H' => b = decide (padd (l0.drop r.t) = true ∧ decide (e = hiOf f.size fr to) = true) ∧ Ch [k] H57 H') ?_ fun J60 hJ60 => ?_
   ·rintro _ H62 ⟨rfl, c62⟩
    have df62 := df57.ch c62 (by simp; omega)
    have dfr62 := Dfr.ch c62 dfr57 (fun D hD hh => by have := (hds D hD).1; simp at hh; omega)
    have f62 := b57.ch c62 (by simp; omega)
    have own62 := own57.ch c62 (fun b hb hh => by have := dm.fr b hb; simp at hh; omega)
    by_cases hpc : padd (l0.drop r.t) = true ∧ decide (e = hiOf f.size fr to) = true
    ·rw [if_pos hpc] at hs
     refine ite_t (dect hpc) (st_i f62 (by show 0 < 4; omega) fun H63 b63 s63 => hJ34 _ _ ⟨1, hs.symm, df62.ch s63.ch (by simp; omega), Dfr.ch s63.ch dfr62 noD, b63, fun _ => ⟨own62.ch s63.ch (fun b hb hh => by have := dm.fr b hb; simp at hh; omega), dm.bl, dm.fr⟩⟩)
    ·rw [if_neg hpc] at hs
     exact ite_f (decf hpc) (hJ34 _ _ ⟨3, hs.symm, df62, dfr62, f62, fun q => by omega⟩)
   ·refine ldP_i df57.f16 rfl (Padded_ok src57 fun H68 k68 => ?_)
    have f16 := df57.f16.keep k68
    by_cases hpd : padd (l0.drop r.t) = true
    rotate_left
    ·refine ite_f (by simpa using hpd) (hJ60 _ _ ⟨(decf fun q => hpd q.1).symm, k68.ch⟩)
    refine ite_t hpd (ldP_i f16 rfl (ldP_i f16 rfl (Left_ok (src57.keep k68) ⟨by rw [f16.cell]; rfl, Skip_x (src57.keep k68) fun H77 S77 c77 => ?_⟩)))
    have htk : tk (l0.drop r.t) ((l0.drop r.t).length : Int) = (l0.drop r.t).length := by unfold tk; rw [if_pos (by omega)]; omega
    rw [htk, List.drop_length] at S77
    refine ite_t (dect (by omega)) (ldP_i (f16.ch c77.ch (by simp; omega)) rfl (At_ok S77 (hJ60 _ _ ⟨?_, ((k68.ch (F := [k])).trans c77.ch (by simp))⟩)))
    show ((placeOf [] e : Int) == (hiOf f.size fr to : Int)) = _
    by_cases he : e = hiOf f.size fr to
    ·rw [dect ⟨hpd, dect he⟩]; exact beqi (by show (e : Int) = _; omega)
    ·rw [decf (fun q => he (of_decide_eq_true q.2))]; exact beqf (by show (e : Int) ≠ _; omega)
 -- units
 refine job_at q1 (.inr ⟨rfl, rfl⟩) ?_
 refine Fix.intro (fun (s : Int × List Nat) H' => ∃ (u : Nat) (sl : Sl) (BL : List (Ints 64)), s.1 = (u : Int) ∧ u ≤ j.u.toNat ∧ DF H H' H4.size H6.size N j cs ps TV dl al ts us b1 b3 b8 k b16 b19 p b28 ∧ DM H' N k b19 p e ps.length l0 (jRd j cs ps TV (l0.map (·.1)) u).1 (u : Int) sl BL ∧ BL.length ≤ 10 * u ∧ Dfr s.2 H' ∧ (∀ D ∈ s.2, N ≤ D ∧ D ∉ fp sl))
  (fun s _ => j.u.toNat - s.1.toNat) ⟨0, ⟨none, 0, 0⟩, [], rfl, by omega, df30, dm30, by simp, trivial, by simp⟩ ?_
 rintro ⟨_, Ds⟩ H87 ⟨u, sl0, BL0, rfl, hu, df, dm, hbl, dfr, hds⟩ rec hrec
 dsimp only at dfr hds ⊢
 have hord := df.ord
 obtain ⟨lw1, lw2, lw3, lw4⟩ := df.low
 have hun := rdU_n (T := jT j TV ps) (jL j cs ps) (jR0 ps (l0.map (·.1))) rfl
 by_cases huj : u < j.u.toNat
 rotate_left
 ·obtain rfl : u = j.u.toNat := by omega
  refine ite_f (decf (by omega)) (hJ31 _ _ ⟨(jRd j cs ps TV (l0.map (·.1)) j.u.toNat).1, (jRd j cs ps TV (l0.map (·.1)) j.u.toNat).2, sl0, BL0, rfl, df, dfr, hds, .inl ⟨dm.st, ?_⟩⟩)
  have e1 : (jRd j cs ps TV (l0.map (·.1)) j.u.toNat).2 = j.u.toNat := (hun j.u.toNat).2.1 dm.st
  rw [e1]
  exact dm
 refine ite_t (dect (by omega)) ⟨_, _, _, _, job_frame df.j1, job_parts df.j1 (job_at df.j1 (.inl ⟨rfl, rfl⟩) ?_)⟩
 rw [w64 (x := j.f + (u : Int)) (by omega)]
 have J87 := J.keep df.kp
 refine Walk_ok J87.hs J87.hok (by omega) J87.ht J87.hpk (by omega) (by omega) (by omega) fun p5 p40 p1 p3 p26 l8 m8 H100 wb k100 lo => ?_
 have y100 := k100.size
 obtain ⟨wf, we⟩ := wEnd_at (f := j.f + (u : Int)) (u := 1) (T := (Uni j.w j.h cs ps).1 * (Uni j.w j.h cs ps).2) (by omega) (by omega) (by omega)
 have we' : wEnd (j.f + (u : Int)) 1 ((Uni j.w j.h cs ps).1 * (Uni j.w j.h cs ps).2) = j.f + (u : Int) + 1 := by rw [we]; omega
 rw [wf, we'] at wb
 have t1 : (j.f + (u : Int)).toNat = j.f.toNat + u := by omega
 have t2 : (j.f + (u : Int) + 1).toNat = j.f.toNat + u + 1 := by omega
 rw [t1, t2] at wb
 refine Rg_i fun rr H104 hrr k104 z104 hD hlp => ?_
 have sq := walk_seq (wb.keep k104) J.hok (by omega) (by omega) (.func (.yield (H100.size + 1)) #[] #[])
 rw [show j.f.toNat + u + 1 - (j.f.toNat + u) = 1 from by omega] at sq
 have hWL : (walkL j.w j.h cs ps (j.f.toNat + u) 1).length ≤ 10 := by rw [walk_len hP]; have := each_le hP; omega
 have hjL : jL j cs ps u = (walkL j.w j.h cs ps (j.f.toNat + u) 1).map fun x => x.1.toNat := rfl
 have hin : ∀ {x : Sp}, x ∈ walkL j.w j.h cs ps (j.f.toNat + u) 1 → 0 ≤ x.1 ∧ x.1 < ps.length := fun {x} hx => walkIn hx
 generalize walkL j.w j.h cs ps (j.f.toNat + u) 1 = WL at sq hWL hjL hin
 have hjLn : (jL j cs ps u).length = WL.length := by rw [hjL, List.length_map]
 generalize hru : (jRd j cs ps TV (l0.map (·.1)) u).1 = ru at dm
 have hnext : jRd j cs ps TV (l0.map (·.1)) (u + 1) = (rdL (jT j TV ps) ru (jL j cs ps u), if (rdL (jT j TV ps) ru (jL j cs ps u)).st = 0 then u + 1 else u) := by
  have : jRd j cs ps TV (l0.map (·.1)) (u + 1) = if (jRd j cs ps TV (l0.map (·.1)) u).1.st ≠ 0 then jRd j cs ps TV (l0.map (·.1)) u else (rdL (jT j TV ps) (jRd j cs ps TV (l0.map (·.1)) u).1 (jL j cs ps u), if (rdL (jT j TV ps) (jRd j cs ps TV (l0.map (·.1)) u).1 (jL j cs ps u)).st = 0 then u + 1 else u) := rfl
  rw [this, hru, if_neg (by have := dm.st; omega)]
 generalize jL j cs ps u = JL at *
 have kX : Keep H87 H104 := k100.trans k104
 have y104 := k104.size
 have hNl := df.le
 have slt := dm.own.fp_lt
 have ltDs := dfr.lt
 refine sq _ _ (fun i G H' => ∃ (sl : Sl) (BL : List (Ints 64)), G = (H100.size + 1) :: b19 :: k :: p :: fp sl ∧ DF H H' H4.size H6.size N j cs ps TV dl al ts us b1 b3 b8 k b16 b19 p b28 ∧ DM H' N k b19 p e ps.length l0 (rdL (jT j TV ps) ru (JL.take i)) (u : Int) sl BL ∧ BL.length ≤ 10 * u + i ∧ Dfr (H100.size :: Ds) H' ∧ (∀ D ∈ H100.size :: Ds, N ≤ D ∧ D ∉ fp sl ∧ D < H104.size ∧ D ≠ H100.size + 1) ∧ Lp H' (H100.size + 1) rr ∧ H100.size + 1 ∉ fp sl)
  (fun G H' => ∃ (sl : Sl), G = (H100.size + 1) :: b19 :: k :: p :: fp sl ∧ DF H H' H4.size H6.size N j cs ps TV dl al ts us b1 b3 b8 k b16 b19 p b28 ∧ (rdL (jT j TV ps) ru JL).st ≠ 0 ∧ (rdL (jT j TV ps) ru JL).st ≠ 1 ∧ Bk H' b19 48 (c48 ((rdL (jT j TV ps) ru JL).st : Int) (u : Int) ((rdL (jT j TV ps) ru JL).t : Int) sl) ∧ Dfr (H100.size :: Ds) H' ∧ (∀ D ∈ H100.size :: Ds, N ≤ D ∧ D ∉ fp sl ∧ D < H104.size ∧ D ≠ H100.size + 1) ∧ Lp H' (H100.size + 1) (dn rr (.exit 0)))
  ((H100.size + 1) :: b19 :: k :: p :: fp sl0) ?_ ?_ ?_ ?_ ?_ ?_ ?_ ?_
 ·intro b hb hh
  have q1 := lo b hh
  have q2 := wb.lts b hh
  rcases List.mem_cons.1 hb with rfl | hb
  ·omega
  rcases List.mem_cons.1 hb with rfl | hb
  ·omega
  rcases List.mem_cons.1 hb with rfl | hb
  ·omega
  rcases List.mem_cons.1 hb with rfl | hb
  ·omega
  have := slt b hb; omega
 ·refine ⟨sl0, BL0, rfl, df.keep kX, by simpa [rdL] using dm.keep kX, by omega, ⟨hD, fun hh => by have := ltDs _ hh; omega, dfr.keep kX⟩, fun D hD' => ?_, hlp, fun hh => by have := slt _ hh; omega⟩
  rcases List.mem_cons.1 hD' with rfl | hD'
  ·exact ⟨by omega, fun hh => by have := slt _ hh; omega, by omega, by omega⟩
  ·have q1 := hds D hD'; have q2 := ltDs D hD'; exact ⟨q1.1, q1.2, by omega, by omega⟩
 ·rintro i G A B F ⟨sl, BL, rfl, a1, a2, a3, a4, a5, a6, a7⟩ kk hF
  have nF : ∀ {y}, y < H104.size → y ∉ F := fun {y} hy hh => by have := (hF y hh).1; omega
  refine ⟨sl, BL, rfl, a1.ch kk (fun b hb => by have := hF b hb; omega), a2.ch kk (fun b hb hh => (hF b hb).2 (List.mem_cons_of_mem _ (mem_sw hh))), a3, Dfr.ch kk a4 (fun D hD => nF (a5 D hD).2.2.1), a5, a6.ch kk (nF (by omega)), a7⟩
 ·rintro G A B F ⟨sl, rfl, a1, a2, a3, a4, a5, a6, a7⟩ kk hF
  have nF : ∀ {y}, y < H104.size → y ∉ F := fun {y} hy hh => by have := (hF y hh).1; omega
  exact ⟨sl, rfl, a1.ch kk (fun b hb => by have := hF b hb; omega), a2, a3, a4.ch kk (nF (by omega)), Dfr.ch kk a5 (fun D hD => nF (a6 D hD).2.2.1), a6, a7.ch kk (nF (by omega))⟩
 ·rintro i G A ⟨sl, BL, rfl, a1, a2, a3, a4, a5, a6, a7⟩ b hb
  rcases List.mem_cons.1 hb with rfl | hb
  ·exact a6.lt
  exact a2.lts b (mem_sw hb)
 ·rintro i G x H107 K hx ⟨sl, BL, rfl, df7, dm7, hb7, dfr7, hds7, lp7, nL⟩ hT' hF'
  have hil := (List.getElem?_eq_some_iff.1 hx).1
  obtain ⟨x0, x1⟩ := hin (List.mem_of_getElem? hx)
  have hJi : JL[i]? = some x.1.toNat := by rw [hjL, List.getElem?_map, hx]; rfl
  have hstep := rdL_snoc (T := jT j TV ps) (r := ru) hJi
  generalize hri : rdL (jT j TV ps) ru (JL.take i) = r at *
  refine ⟨lp7, ?_⟩
  intro b110 H112 c110 g110 g110'
  have k112 : Keep H107 H112 := c110.keep (by simp)
  have y112 := k112.size
  have l112 := lp7.ch c110 (by simp)
  have zl := lp7.lt
  refine ⟨l112, Up_s l112 fun H113 s113 l113 => ⟨Pv.ch s113.ch (by simp; omega), ?_⟩⟩
  have y113 := s113.size
  have df13 := (df7.keep k112).ch s113.ch (by simp; omega)
  have nL4 : H100.size + 1 ∉ k :: b19 :: p :: fp sl := fun hh => by
   rcases List.mem_cons.1 hh with q | hh
   ·omega
   rcases List.mem_cons.1 hh with q | hh
   ·omega
   rcases List.mem_cons.1 hh with q | hh
   ·omega
   exact nL hh
  have dm13 := (dm7.keep k112).ch s113.ch (F := [H100.size + 1]) (fun b hb hh => nL4 (by rw [List.mem_singleton] at hb; subst hb; exact hh))
  have hdfr13 := Dfr.ch s113.ch (dfr7.keep k112) (fun D hD hh => by have := (hds7 D hD).2.2.2; simp at hh; omega)
  obtain ⟨q, hq⟩ : ∃ q, ps[x.1.toNat]? = some q := ⟨_, get_some (by omega)⟩
  obtain ⟨t, ht⟩ : ∃ t, ts[x.1.toNat]? = some t := ⟨_, get_some (by omega)⟩
  obtain ⟨t', ht'⟩ : ∃ t, us[x.1.toNat]? = some t := ⟨_, get_some (by omega)⟩
  have hTq := jT_at (j := j) (TV := TV) hq
  obtain ⟨tok, sv, tT, tB⟩ := df13.td _ q t hq ht
  obtain ⟨tok', sv', tT', tB'⟩ := df13.ta _ q t' hq ht'
  have hr1 := rd1_eq (T := jT j TV ps) (r := r) (p := x.1.toNat) hTq dm7.st
  have hp0 : r.P.length = ps.length := dm7.pl
  have hpv : -32768 ≤ r.P.getD x.1.toNat 0 ∧ r.P.getD x.1.toNat 0 ≤ 32767 := by
   rw [List.getD_eq_getElem?_getD, List.getElem?_eq_getElem (by omega)]
   exact dm7.pv _ (List.getElem_mem _)
  have hbits := rdB_bits (A := tbl j TV (4 + q.ac.toNat)) (pred := r.P.getD x.1.toNat 0) tok' 65 _ tok zB 0 r.B 0
  have hmayR := rdB_may (A := tbl j TV (4 + q.ac.toNat)) (pred := r.P.getD x.1.toNat 0) tok' 65 _ tok zB 0 r.B 0 (by omega) zB_may.1 zB_may.2
  have hRd : rdb (tbl j TV q.dc.toNat) (tbl j TV (4 + q.ac.toNat)) (r.P.getD x.1.toNat 0) r.B = rdB (tbl j TV (4 + q.ac.toNat)) (r.P.getD x.1.toNat 0) 65 (tbl j TV q.dc.toNat) zB 0 r.B 0 := rfl
  rw [← hRd] at hbits hmayR
  have hdr : (l0.drop r.t).length = l0.length - r.t := List.length_drop
  have hle7 := dm7.le
  generalize hR : rdb (tbl j TV q.dc.toNat) (tbl j TV (4 + q.ac.toNat)) (r.P.getD x.1.toNat 0) r.B = R at *
  obtain ⟨dd, hb1, hb2, hb3, hb4⟩ := hbits
  have hrBl : r.B.length = l0.length - r.t := by rw [dm7.rB, List.length_map, hdr]
  have k110 : b110 < H113.size := by omega
  have hb110 : b110 ∉ [k, b19] := by simp; omega
  refine Join.intro (fun (s : Addr × Int) H' => ∃ (b : Nat) (X : Ints 64), s = (⟨b, 0, none⟩, (R.1 : Int)) ∧ Bk H' b 57 (c57 X) ∧ H113.size ≤ b ∧ (R.1 = 0 → X.1 = R.2.1 ∧ Src H' k ((l0.drop r.t).drop R.2.2.2) e (r.t + R.2.2.2) ∧ ((l0.drop r.t).drop R.2.2.2).map (·.1) = R.2.2.1) ∧ Bk H' b19 48 (c48 0 (u : Int) ((r.t : Int) + (R.2.2.2 : Nat)) sl) ∧ Ch [k, b19] H113 H') ?_ fun J115 hJ115 => ?_
  ·rintro _ H117 ⟨b, X, rfl, hbX, hbs, hok, f117, c117⟩
   dsimp only
   have y117 := c117.size
   have df17 := df13.ch c117 (by simp; omega)
   have l117 := l113.ch c117 (by simp; omega)
   have nDs : ∀ {y : Nat}, y < N → ∀ D ∈ H100.size :: Ds, D ∉ [y] := fun {y} hy D hD hh => by have := (hds7 D hD).1; simp at hh; omega
   have dfr17 := Dfr.ch c117 hdfr13 (fun D hD hh => by have := (hds7 D hD).1; simp at hh; omega)
   by_cases hR0 : R.1 = 0
   rotate_left
   ·rw [if_pos hR0] at hr1
    rw [hr1] at hstep
    have hall : rdL (jT j TV ps) ru JL = ⟨R.1, r.P, r.B, r.X, r.t + R.2.2.2⟩ := by
     rw [← hstep]; exact rdL_stop (by rw [hstep]; exact hR0)
    refine ite_t (bnet (by omega)) (st_i f117 (by show 0 < 4; omega) fun H118 b118 s118 => ?_)
    have y118 := s118.size
    have l118 := l117.ch s118.ch (by simp; omega)
    refine ⟨l118, hF' ((H100.size + 1) :: b19 :: k :: p :: fp sl) _ ⟨sl, rfl, (df17.ch s118.ch (by simp; omega)).ch putL_same.ch (by simp; omega), ?_, ?_, ?_, Dfr.ch putL_same.ch (Dfr.ch s118.ch dfr17 (nDs (by omega))) (fun D hD hh => by have := (hds7 D hD).2.2.2; simp at hh; omega), hds7, putL_lp l118⟩ ?_ (fun b hb => .inl hb)⟩
    ·rw [hall]; exact hR0
    ·rw [hall]; dsimp only; omega
    ·rw [hall]
     dsimp only
     have b118' := b118.same (putL_same (l := H100.size + 1) (r := dn rr (.exit 0))) (by omega)
     rw [show ((r.t + R.2.2.2 : Nat) : Int) = (r.t : Int) + (R.2.2.2 : Nat) from by omega]
     exact b118'
    ·exact ((((k112.ch (F := (H100.size + 1) :: b19 :: k :: p :: fp sl)).trans s113.ch (by simp)).trans c117 (fun b hb => .inl (mem_kb hb))).trans s118.ch (by simp)).trans putL_same.ch (by simp)
   rw [if_neg (by omega)] at hr1
   rw [hr1] at hstep
   obtain ⟨hX, hsrc, hrB⟩ := hok hR0
   have own17 := dm13.own.ch c117 (fun b hb hh => by have := dm13.fr b hb; simp at hh; omega)
   have pr17 := dm13.pr.ch c117 (by simp; omega)
   have hX0 : -1024 ≤ X.1.getD 0 0 ∧ X.1.getD 0 0 ≤ 1023 := by rw [hX]; exact hmayR.2.1
   refine ite_f (bnei (by omega)) (ldL_i (v := ⟨some ⟨p, 0, none⟩, ps.length, ps.length⟩) df17.f28 rfl ⟨by decide, by decide, ldI_a hbX (v := X.1.getD 0 0) (ints_get (by rw [X.2]; decide)) ⟨x0, x1, _, rfl, st_a pr17 (by rw [ints_length]; omega) fun H129 b129 s129 => ?_⟩⟩)
   have y129 := s129.size
   rw [Nat.mul_one, ints_set] at b129
   have f129 := f117.same s129 (by omega)
   have own29 := own17.ch s129.ch (fun b hb hh => by have := dm13.fr b hb; simp at hh; omega)
   refine ldL_i f129 rfl ⟨X, ldA_full (hbX.same s129 (by omega)), push1 (x := X) own29 cBl_len cBl_ones rfl (by omega) (by omega) (by omega) fun l' H140 o140 c140 f140 => ?_⟩
   have y140 := c140.size
   have fr13 := dm13.fr
   have nsl : ∀ {y}, y < N → y ∉ fp sl := fun {y} hy hh => by have := fr13 y hh; omega
   have hfr' : ∀ b ∈ fp l', N ≤ b := fun b hb => by
    rcases f140 b hb with q | q
    ·exact fr13 b q
    ·have := df17.le; omega
   refine st_i (f129.ch c140 (nsl (by omega))) (by show 3 < 4; omega) fun H141 b141 s141 => ?_
   have y141 := s141.size
   have nL' : H100.size + 1 ∉ fp l' := fun hh => by
    rcases f140 _ hh with q | q
    ·exact nL q
    ·omega
   have l141 : Lp H141 (H100.size + 1) (bsy rr) := ((l117.ch s129.ch (by simp; omega)).ch c140 nL).ch s141.ch (by simp; omega)
   have hDs' : ∀ D ∈ H100.size :: Ds, N ≤ D ∧ D ∉ fp l' ∧ D < H104.size ∧ D ≠ H100.size + 1 := fun D hD => by
    obtain ⟨d1, d2, d3, d4⟩ := hds7 D hD
    refine ⟨d1, fun hh => ?_, d3, d4⟩
    rcases f140 _ hh with q | q
    ·exact d2 q
    ·have := df7.le
     have := dfr7.lt D hD
     omega
   have dfr41 : Dfr (H100.size :: Ds) H141 := Dfr.ch s141.ch (Dfr.ch c140 (Dfr.ch s129.ch dfr17 (nDs (by omega))) (fun D hD => (hds7 D hD).2.1)) (nDs (by omega))
   have df41 := ((df17.ch s129.ch (by simp; omega)).ch c140 (fun b hb => by have := fr13 b hb; omega)).ch s141.ch (by simp; omega)
   have src41 := ((hsrc.ch s129.ch (by simp; omega)).ch c140 (nsl (by omega))).ch s141.ch (by simp; omega)
   have pr41 := (b129.ch c140 (nsl (by omega))).ch s141.ch (by simp; omega)
   have own41 := o140.ch s141.ch (fun b hb hh => by have := hfr' b hb; simp at hh; omega)
   have big : Ch ((H100.size + 1) :: b19 :: k :: p :: fp sl) H107 (putL H141 (H100.size + 1) rr) :=
    (((((((k112.ch (F := (H100.size + 1) :: b19 :: k :: p :: fp sl)).trans s113.ch (by simp)).trans c117 (fun b hb => .inl (mem_kb hb))).trans s129.ch (by simp)).trans c140 (fun b hb => .inl (by simp [hb]))).trans s141.ch (by simp))).trans putL_same.ch (by simp)
   refine ⟨l141, hT' ((H100.size + 1) :: b19 :: k :: p :: fp l') _ ⟨l', BL ++ [X], rfl, df41.ch putL_same.ch (by simp; omega), ?_, by rw [List.length_append, List.length_singleton]; omega, Dfr.ch putL_same.ch dfr41 (fun D hD hh => by have := (hds7 D hD).2.2.2; simp at hh; omega), hDs', putL_lp l141, nL'⟩ big fun b hb => ?_⟩
   ·have dmN : DM H141 N k b19 p e ps.length l0 (rdL (jT j TV ps) ru (JL.take (i + 1))) (u : Int) l' (BL ++ [X]) := by
     rw [hstep]
     refine ⟨?_, ?_, own41, ?_, ?_, ?_, ?_, ?_, ?_, rfl, hfr'⟩
     ·dsimp only; rw [← List.drop_drop]; exact src41
     ·dsimp only; rw [show ((r.t + R.2.2.2 : Nat) : Int) = (r.t : Int) + (R.2.2.2 : Nat) from by omega]; exact b141
     ·dsimp only; rw [List.map_append, dm13.bl, ← hX]; rfl
     ·dsimp only; rw [← hX]; exact pr41
     ·dsimp only; rw [List.length_set]; exact dm13.pl
     ·dsimp only
      intro v hv
      rcases List.mem_or_eq_of_mem_set hv with hv | rfl
      ·exact dm13.pv v hv
      ·rw [← hX]; omega
     ·dsimp only; rw [← hrB, List.drop_drop]
     ·dsimp only; omega
    refine dmN.ch (putL_same (l := H100.size + 1) (r := rr)).ch fun b hb hh => ?_
    rw [List.mem_singleton] at hb
    subst hb
    rcases List.mem_cons.1 hh with q | hh
    ·omega
    rcases List.mem_cons.1 hh with q | hh
    ·omega
    rcases List.mem_cons.1 hh with q | hh
    ·omega
    exact nL' hh
   ·simp only [List.mem_cons] at hb ⊢
    rcases hb with rfl | rfl | rfl | rfl | hb
    ·exact .inl (by simp)
    ·exact .inl (by simp)
    ·exact .inl (by simp)
    ·exact .inl (by simp)
    ·rcases f140 b hb with q | q
     ·exact .inl (by simp [q])
     ·exact .inr (by omega)
  ·have hct := df13.od.count cPt_len (by omega)
   have hcu := df13.oa.count cPt_len (by omega)
   obtain ⟨bd, hda, hdl⟩ := df13.od.at cPt_len (by omega) ht
   obtain ⟨ba, haa, hal⟩ := df13.oa.at cPt_len (by omega) ht'
   have hTL := df13.tl
   have hUL := df13.ul
   have hpg : (ints .i16 r.P)[x.1.toNat * 1]? = some (.int .i16 (r.P.getD x.1.toNat 0)) := by rw [Nat.mul_one]; exact ints_get (by omega)
   have nB : ∀ b ∈ t :: fp sv, b < H6.size := fun b hb => (tB b hb).2
   have nB' : ∀ b ∈ t' :: fp sv', b < H6.size := fun b hb => (tB' b hb).2
   have blk : ∀ {A : Hp} {Q' : Ints 64 × Int → Hp → Prop}, Keep H113 A → (∀ (X : Ints 64) H', (R.1 = 0 → X.1 = R.2.1 ∧ Src H' k ((l0.drop r.t).drop R.2.2.2) e (r.t + R.2.2.2) ∧ ((l0.drop r.t).drop R.2.2.2).map (·.1) = R.2.2.1) → Bk H' b19 48 (c48 0 (u : Int) ((r.t : Int) + (R.2.2.2 : Nat)) sl) → Ch [k, b19] A H' → Q' (X, (R.1 : Int)) H') →
     span_block.s (some ⟨k, 0, none⟩) (some ⟨t, 0, none⟩) (some ⟨t', 0, none⟩) (r.P.getD x.1.toNat 0) (some ⟨b19, 2, none⟩) A Q' := fun {A Q'} kk hQ => by
    have := block_ok (Q := Q') (dm13.src.keep kk) (tT.keep kk) (tT'.keep kk) tok tok' hpv (dm13.f19.keep kk) (by rw [hdr]; omega) (by omega) (fun hh => by have := nB _ hh; omega) (fun hh => by have := nB' _ hh; omega) (fun hh => by have := nB _ hh; omega) (fun hh => by have := nB' _ hh; omega) (by rw [hdr]; omega)
    rw [← dm7.rB, hR] at this
    exact this fun X H' z1 z2 z3 z4 z5 => hQ X H' z1 z4 z5
   refine ldP_i df13.f16 rfl (ldL_i df13.f8 rfl ⟨x0, by omega, _, hda, ldP_of0 hdl rfl (ldL_i df13.f8 rfl ⟨x0, by omega, _, haa, ldP_of0 hal rfl (ldL_i (v := ⟨some ⟨p, 0, none⟩, ps.length, ps.length⟩) df13.f28 rfl ⟨x0, x1, _, rfl, ldI_a dm13.pr hpg ⟨?_, ?_⟩⟩)⟩)⟩)
   ·refine blk (Keep.refl _) fun X H173 z1 z4 z5 => ⟨Pv.ch z5 (by simp at hb110 ⊢; omega), ?_⟩
    intro b175 H177 c175 g175 g175' hbX
    have kk : Keep H173 H177 := c175.keep (by simp)
    have := z5.size
    exact hJ115 _ _ ⟨b175, X, rfl, hbX, by omega, fun hz => ⟨(z1 hz).1, (z1 hz).2.1.keep kk, (z1 hz).2.2⟩, z4.keep kk, ch_keep z5 kk⟩
   ·intro b178 H179 c178 g178 g178'
    have kk : Keep H113 H179 := c178.keep (by simp)
    have y179 := kk.size
    refine ⟨cell_a (dm13.pr.keep kk) hpg, by rw [(df13.f28.keep kk).cell]; rfl, ?_, by rw [(df13.f8.keep kk).cell]; rfl, ?_, by rw [(df13.f8.keep kk).cell]; rfl, by rw [(df13.f16.keep kk).cell]; rfl, blk kk fun X H188 z1 z4 z5 => ⟨Pv.ch z5 (by simp; omega), ?_⟩⟩
    ·obtain ⟨ba', haa', hal'⟩ := (df13.oa.kp kk).at cPt_len (by omega) ht'
     rw [haa] at haa'
     obtain rfl : ba = ba' := by injection haa' with h; injection h
     exact ldA_at0 hal' rfl
    ·obtain ⟨bd', hda', hdl'⟩ := (df13.od.kp kk).at cPt_len (by omega) ht
     rw [hda] at hda'
     obtain rfl : bd = bd' := by injection hda' with h; injection h
     exact ldA_at0 hdl' rfl
    ·intro H190 c190 hbX
     have := z5.size
     have := c190.size
     refine hJ115 _ _ ⟨b178, X, rfl, hbX, g178, fun hz => ⟨(z1 hz).1, (z1 hz).2.1.ch c190 (by simp; omega), (z1 hz).2.2⟩, z4.ch c190 (by simp; omega), ((kk.ch (F := [k, b19])).trans z5 (fun b hb => .inl hb)).trans c190 (by simp; omega)⟩
 ·rintro G H108 ⟨sl, BL, rfl, df8, dm8, hb8, dfr8, hds8, lp8, nL8⟩
  refine .inl ⟨lp8, Up_s lp8 fun H192 s192 l192 => ?_⟩
  have hJn : JL.length = WL.length := hjLn
  rw [← hJn, List.take_length] at dm8
  have y192 := s192.size
  have df92 := df8.ch s192.ch (by simp; omega)
  have nn : ∀ {y}, y < N → y ∉ [H100.size + 1] := fun {y} hy hh => by simp at hh; omega
  have hDl : ∀ D ∈ H100.size :: Ds, D ∉ [H100.size + 1] := fun D hD hh => by have := (hds8 D hD).2.2.2; simp at hh; omega
  refine ldI_i (dm8.f19.ch s192.ch (nn (by omega))) rfl (st_i (dm8.f19.ch s192.ch (nn (by omega))) (by show 1 < 4; omega) fun H195 b195 s195 => ?_)
  have y195 := s195.size
  have hds95 : ∀ D ∈ H100.size :: Ds, D ∉ [b19] := fun D hD hh => by have := (hds8 D hD).1; simp at hh; omega
  rw [show (u : Int) + 1 = ((u + 1 : Nat) : Int) from by omega, w64n (by omega)] at b195 ⊢
  have nsl : ∀ b ∈ fp sl, b ∉ [b19] := fun b hb hh => by have := dm8.fr b hb; simp at hh; omega
  refine hrec _ _ ⟨u + 1, sl, BL, rfl, by omega, df92.ch s195.ch (by simp; omega), ?_, by omega, Dfr.ch s195.ch (Dfr.ch s192.ch dfr8 hDl) hds95, fun D hD => ⟨(hds8 D hD).1, (hds8 D hD).2.1⟩⟩ (by dsimp only; omega)
  rw [hnext]
  exact ⟨(dm8.src.ch s192.ch (nn (by omega))).ch s195.ch (by simp; omega), b195, (dm8.own.ch s192.ch (fun b hb hh => by rw [List.mem_singleton] at hh; subst hh; exact nL8 hb)).ch s195.ch nsl, dm8.bl, (dm8.pr.ch s192.ch (nn (by omega))).ch s195.ch (by simp; omega), dm8.pl, dm8.pv, dm8.rB, dm8.le, dm8.st, dm8.fr⟩
 ·rintro G H108 ⟨sl, rfl, df8, hs0, hs1, f8, dfr8, hds8, lp8⟩
  refine .inr ⟨lp8, Up_s lp8 fun H196 s196 l196 => ?_⟩
  have hDl : ∀ D ∈ H100.size :: Ds, D ∉ [H100.size + 1] := fun D hD hh => by have := (hds8 D hD).2.2.2; simp at hh; omega
  rw [if_neg hs0] at hnext
  -- what comes behind does not turn it
  have hfin : ∀ m, jRd j cs ps TV (l0.map (·.1)) (u + 1 + m) = jRd j cs ps TV (l0.map (·.1)) (u + 1) := fun m => by
   induction m with
   | zero => rfl
   | succ m ih =>
    have : jRd j cs ps TV (l0.map (·.1)) (u + 1 + m + 1) = if (jRd j cs ps TV (l0.map (·.1)) (u + 1 + m)).1.st ≠ 0 then jRd j cs ps TV (l0.map (·.1)) (u + 1 + m) else (rdL (jT j TV ps) (jRd j cs ps TV (l0.map (·.1)) (u + 1 + m)).1 (Go.Proofs.Ytmnoecpnoofdjaa.G.jL j cs ps (u + 1 + m)), if (rdL (jT j TV ps) (jRd j cs ps TV (l0.map (·.1)) (u + 1 + m)).1 (Go.Proofs.Ytmnoecpnoofdjaa.G.jL j cs ps (u + 1 + m))).st = 0 then u + 1 + m + 1 else u + 1 + m) := rfl
    rw [show u + 1 + (m + 1) = u + 1 + m + 1 from by omega, this, ih, if_pos (by rw [hnext]; exact hs0)]
  have hend := hfin (j.u.toNat - (u + 1))
  rw [show u + 1 + (j.u.toNat - (u + 1)) = j.u.toNat from by omega, hnext] at hend
  exact hJ31 _ _ ⟨_, _, sl, [], hend, df8.ch s196.ch (by simp; omega), Dfr.ch s196.ch dfr8 hDl, fun D hD => ⟨(hds8 D hD).1, (hds8 D hD).2.1⟩, .inr ⟨hs0, hs1, f8.ch s196.ch (by simp; omega)⟩⟩
end
def eC : List Cp := [⟨1, 1, 1, 0⟩]
def eP : List Pa := [⟨0, 0, 0⟩]
theorem eC_ok : ∀ c ∈ eC, c.ok := by simp [eC, Cp.ok]
theorem eP_ok : ∀ p ∈ eP, p.ok := by simp [eP, Pa.ok]
theorem eC_at {i : Nat} {c : Cp} (h : eC[i]? = some c) : i = 0 ∧ c = ⟨1, 1, 1, 0⟩ := by
 match i with
 | 0 => simp [eC] at h; simp [h]
 | i + 1 => simp [eC] at h
theorem eChk : Chk 8 8 eC = 0 := by
 refine chk0 ?_ ?_ ?_ ?_
 ·simp [Emp]
 ·rintro (h | h | ⟨i, c, h1, h2⟩)
  ·simp [eC] at h
  ·simp [eC] at h
  ·obtain ⟨rfl, rfl⟩ := eC_at h1
   rcases h2 with h2 | ⟨k, d, hk, h2, h3⟩
   ·simp at h2
   ·omega
 ·rintro ⟨c, h1, h2⟩
  simp [eC] at h1
  subst h1
  simp at h2
 ·rintro ⟨c, h1, h2⟩
  have e1 : mxH eC = 1 := by decide
  have e2 : mxV eC = 1 := by decide
  rw [e1, e2] at h2
  simp [eC] at h1
  subst h1
  revert h2
  decide
theorem ePrt : Prt 8 8 eC eP = 0 := by
 refine prt5 eChk (by simp [eP]) ?_ ?_
 ·rintro ⟨i, p, h1, h2⟩
  have hp : i = 0 ∧ p = ⟨0, 0, 0⟩ := by
   match i with
   | 0 => simp [eP] at h1; simp [h1]
   | i + 1 => simp [eP] at h1
  obtain ⟨rfl, rfl⟩ := hp
  rcases h2 with h2 | h2 | ⟨j, q, h, h2, h3⟩ | h2 | h2
  ·simp at h2
  ·simp [eC] at h2
  ·omega
  ·simp at h2
  ·simp at h2
 ·rintro ⟨h, _⟩
  revert h
  decide
theorem eUni : 1 ≤ (Uni 8 8 eC eP).1 * (Uni 8 8 eC eP).2 := by
 obtain ⟨h1, h2⟩ := uni_pos ePrt
 exact Int.mul_pos (by omega) (by omega)
def eD : Cn := mkI (n := 16) [1, 1, 0, 0, 0, 0, 0, 0, 0, 0, 0, 0, 0, 0, 0, 0] (by rfl)
def eA : Cn := mkI (n := 16) [1, 0, 0, 0, 0, 0, 0, 0, 0, 0, 0, 0, 0, 0, 0, 0] (by rfl)
def tD : TB := (eD, [0, 3])
def tA : TB := (eA, [0])
theorem eD_ok : cOk eD := by
 show ∀ v ∈ [1, 1, 0, 0, 0, 0, 0, 0, 0, 0, 0, 0, 0, 0, 0, (0 : Int)], 0 ≤ v ∧ v ≤ 255
 decide
theorem eA_ok : cOk eA := by
 show ∀ v ∈ [1, 0, 0, 0, 0, 0, 0, 0, 0, 0, 0, 0, 0, 0, 0, (0 : Int)], 0 ≤ v ∧ v ≤ 255
 decide
theorem tD_chk : Chk4 eD [0, 3] = 0 := by
 have e1 : wN eD 16 = 2 := by decide
 have e2 : wS eD 16 = 49152 := by decide
 unfold Chk4
 rw [e1, e2, if_neg (by decide), if_neg (by decide), if_pos (by decide)]
theorem tA_chk : Chk4 eA [0] = 0 := by
 have e1 : wN eA 16 = 1 := by decide
 have e2 : wS eA 16 = 32768 := by decide
 unfold Chk4
 rw [e1, e2, if_neg (by decide), if_neg (by decide), if_pos (by decide)]
def eJ (s t v w : Nat) : Jb := ⟨0, 8, 8, ⟨some ⟨s, 0, none⟩, 1, 1⟩, ⟨some ⟨t, 0, none⟩, 1, 1⟩, (eD, ⟨some ⟨v, 0, none⟩, 2, 2⟩), (zInts 16, ⟨none, 0, 0⟩), (zInts 16, ⟨none, 0, 0⟩), (zInts 16, ⟨none, 0, 0⟩), (eA, ⟨some ⟨w, 0, none⟩, 1, 1⟩), (zInts 16, ⟨none, 0, 0⟩), (zInts 16, ⟨none, 0, 0⟩), (zInts 16, ⟨none, 0, 0⟩), 0, 1⟩
def eT (k : Nat) : List Nat := if k = 0 then [0, 3] else if k = 4 then [0] else []
theorem zI_ok : cOk (zInts 16) := fun v hv => by
 have : v ∈ List.replicate 16 (0 : Int) := hv
 rw [List.mem_replicate] at this; omega
theorem e_tD {s t v w : Nat} : tbl (eJ s t v w) eT 0 = tD := rfl
theorem e_tA {s t v w : Nat} : tbl (eJ s t v w) eT 4 = tA := rfl
theorem e_rdE {s t v w : Nat} : rdE (eJ s t v w) eT eP = 0 := by
 show (if Chk4 (tbl (eJ s t v w) eT 0).1 (tbl (eJ s t v w) eT 0).2 ≠ 0 then _ else if Chk4 (tbl (eJ s t v w) eT 4).1 (tbl (eJ s t v w) eT 4).2 ≠ 0 then _ else (0 : Int)) = 0
 rw [e_tD, e_tA, if_neg (by show ¬ Chk4 eD [0, 3] ≠ 0; rw [tD_chk]; decide), if_neg (by show ¬ Chk4 eA [0] ≠ 0; rw [tA_chk]; decide)]
theorem e_L {s t v w : Nat} : jL (eJ s t v w) eC eP 0 = [0] := by
 unfold jL walkL
 rw [cat, cat, List.nil_append]
 unfold unitL
 rw [if_pos (by rfl)]
 rfl
section
variable {H : Hp}
theorem byV {s : Sl} {v : Nat} {vs : List Nat} {b : Nat} (hb : Bk H b 5 (vs.map fun (x : Nat) => Value.int .u8 (x : Int))) (hs : s = ⟨some ⟨b, 0, none⟩, vs.length, vs.length⟩) : SlV H s 1 cB vs := by
 subst hs
 refine ⟨rfl, Nat.le_refl _, fun i x hx => ⟨b, 0, rfl, ?_⟩⟩
 refine ldA_i hb fun j v hv => ?_
 have hj : j = 0 := by
  have := (List.getElem?_eq_some_iff.1 hv).1
  simp at this
  exact this
 subst hj
 simp at hv
 subst hv
 rw [show 0 + i * 1 + 0 = i from by omega, List.getElem?_map, hx]; rfl
theorem nilV7 : SlV H ⟨none, 0, 0⟩ 1 cB [] := ⟨rfl, Nat.le_refl _, fun i x hx => by simp at hx⟩
theorem ex_jv {s t v w : Nat} (hs : Bk H s 100 (c100 1 1 1 0)) (ht : Bk H t 76 (c76 0 0 0)) (hv : Bk H v 5 [.int .u8 0, .int .u8 3]) (hw : Bk H w 5 [.int .u8 0]) : JV H (eJ s t v w) eC eP eT := by
 refine ⟨⟨rfl, Nat.le_refl _, fun i x hx => ⟨s, 0, rfl, ?_⟩⟩, ⟨rfl, Nat.le_refl _, fun i x hx => ⟨t, 0, rfl, ?_⟩⟩, eC_ok, eP_ok, by decide, by decide, fun k x hx => ?_, show (-9223372036854775808 : Int) ≤ 0 ∧ (0 : Int) ≤ 9223372036854775807 from by decide, show (-9223372036854775808 : Int) ≤ 1 ∧ (1 : Int) ≤ 9223372036854775807 from by decide⟩
 ·obtain ⟨rfl, rfl⟩ := eC_at hx
  exact ldA_full hs
 ·have : i = 0 ∧ x = ⟨0, 0, 0⟩ := by
   match i with
   | 0 => simp [eP] at hx; simp [hx]
   | i + 1 => simp [eP] at hx
  obtain ⟨rfl, rfl⟩ := this
  exact ldA_full ht
 ·have hk := (List.getElem?_eq_some_iff.1 hx).1
  match k, hx, hk with
  | 0, hx, _ => injection hx with hx; subst hx; exact ⟨byV (v := 0) hv rfl, by decide, eD_ok, by decide⟩
  | 1, hx, _ => injection hx with hx; subst hx; exact ⟨nilV7, by decide, zI_ok, by decide⟩
  | 2, hx, _ => injection hx with hx; subst hx; exact ⟨nilV7, by decide, zI_ok, by decide⟩
  | 3, hx, _ => injection hx with hx; subst hx; exact ⟨nilV7, by decide, zI_ok, by decide⟩
  | 4, hx, _ => injection hx with hx; subst hx; exact ⟨byV (v := 0) hw rfl, by decide, eA_ok, by decide⟩
  | 5, hx, _ => injection hx with hx; subst hx; exact ⟨nilV7, by decide, zI_ok, by decide⟩
  | 6, hx, _ => injection hx with hx; subst hx; exact ⟨nilV7, by decide, zI_ok, by decide⟩
  | 7, hx, _ => injection hx with hx; subst hx; exact ⟨nilV7, by decide, zI_ok, by decide⟩
  | k + 8, _, hk => exact absurd hk (by show ¬ k + 8 < 8; omega)
theorem job_len (j : Jb) : j.cells.length = 143 := by
 rw [Jb.cells_eq, List.length_append, List.length_append, fm_len cSc_len]; rfl
end
section
variable {H : Hp} {j : Jb} {cs : List Cp} {ps : List Pa} {TV : Nat → List Nat}
theorem rdE_all : ∀ {ps : List Pa}, rdE j TV ps = 0 → ∀ p ∈ ps, Chk4 (tbl j TV p.dc.toNat).1 (tbl j TV p.dc.toNat).2 = 0 ∧ Chk4 (tbl j TV (4 + p.ac.toNat)).1 (tbl j TV (4 + p.ac.toNat)).2 = 0
 | [], _, p, hp => by cases hp
 | q :: r, h, p, hp => by
  rw [rdE] at h
  split at h
  ·rename_i hh; exact absurd h hh
  split at h
  ·rename_i hh; exact absurd h hh
  ·rename_i h1 h2
   rcases List.mem_cons.1 hp with rfl | hp
   ·exact ⟨by omega, by omega⟩
   ·exact rdE_all h p hp
theorem jT_ok (J : JV H j cs ps TV) (h : jChk j cs ps TV = 0) {q : Nat} (hq : q < ps.length) : TbOk (jT j TV ps q).1 ∧ TbOk (jT j TV ps q).2 := by
 obtain ⟨hP, hE, _⟩ := jchk_no h
 obtain ⟨p, hp⟩ : ∃ p, ps[q]? = some p := ⟨_, get_some hq⟩
 obtain ⟨_, _, ⟨x, hx⟩, ⟨y, hy⟩⟩ := part_tabs hP J hp
 obtain ⟨c1, c2⟩ := rdE_all hE p (List.mem_of_getElem? hp)
 rw [jT_at hp]
 exact ⟨⟨may4 c1, (J.sp _ x hx).2.1⟩, ⟨may4 c2, (J.sp _ y hy).2.1⟩⟩
theorem jRd_n (B : List Bool) (n : Nat) : (jRd j cs ps TV B n).2 ≤ n ∧ ((jRd j cs ps TV B n).1.st = 0 ↔ (jRd j cs ps TV B n).2 = n) := rdU_n _ _ rfl n
theorem ints_inj {n : Nat} : ∀ {a b : List (Ints n)}, a.map (·.1) = b.map (·.1) → a = b
 | [], [], _ => rfl
 | [], y :: b, h => by simp at h
 | x :: a, [], h => by simp at h
 | x :: a, y :: b, h => by
  simp only [List.map_cons, List.cons.injEq] at h
  rw [ints_inj h.2, Subtype.ext h.1]
end
theorem flat8_len : ∀ ys : List Nat, (ys.flatMap (bl 8)).length = 8 * ys.length
 | [] => rfl
 | y :: r => by rw [List.flatMap_cons, List.length_append, bl_len, flat8_len r, List.length_cons]; omega
def oneS (T : TB) (x : Sy) : List Bool := codB T.1 T.2 x.1 ++ bl x.2.1.toNat (low x.2.2 x.2.1.toNat)
def encS (D A : TB) : List Sy → List Bool
 | [] => []
 | x :: r => oneS D x ++ r.flatMap (oneS A)
theorem encS_A (A : TB) : ∀ l : List Sy, l.flatMap (oneS A) = encS A A l
 | [] => rfl
 | x :: r => rfl
def Has (D A : TB) : List Sy → Prop
 | [] => True
 | x :: r => x.1 ∈ D.2 ∧ ∀ y ∈ r, y.1 ∈ A.2
theorem Has_A {A : TB} : ∀ {l : List Sy}, (∀ y ∈ l, y.1 ∈ A.2) → Has A A l
 | [], _ => trivial
 | x :: r, h => ⟨h x (by simp), fun y hy => h y (by simp [hy])⟩
theorem rdB_enc {A : TB} {pred : Int} (hA : TbOk A) : ∀ (xs : List Sy) (k : Nat) (D : TB) (X : List Int) (n t : Nat) (Z : List Bool) (Y : List Int), TbOk D → xs.length < k → n ≤ 64 → X.length = 64 → Has D A xs → bF pred X n xs = (Y, 0) →
  rdB A pred k D X n (encS D A xs ++ Z) t = (0, Y, Z, t + (encS D A xs).length)
 | [], k, D, X, n, t, Z, Y, hD, hk, hn, hX, _, h => by
  obtain ⟨k, rfl⟩ : ∃ q, k = q + 1 := ⟨k - 1, by simp at hk; omega⟩
  rw [bF] at h
  split at h
  ·rename_i h64
   subst h64
   injection h with h _
   subst h
   exact rdB_end
  ·injection h with _ h; cases h
 | x :: r, k, D, X, n, t, Z, Y, hD, hk, hn, hX, hh, h => by
  obtain ⟨k, rfl⟩ : ∃ q, k = q + 1 := ⟨k - 1, by simp at hk; omega⟩
  rw [bF] at h
  split at h
  ·rename_i hne
   injection h with _ h
   exact absurd h hne
  rename_i h0
  generalize hf : tF pred X n x.1 x.2.1 x.2.2 = f at h h0
  obtain ⟨e, X', n'⟩ := f
  have h0 : e = 0 := by dsimp only at h0; omega
  subst h0
  have htok := tF_ok (pred := pred) (y := x.1) (b := x.2.2) (z := x.2.1) hn hX
  rw [hf] at htok
  have hw : (wF n x.1).2 = 0 ∧ x.2.1 = (wF n x.1).1 ∧ x.2.2 < 2 ^ (wF n x.1).1 := by
   unfold tF at hf
   split at hf
   ·rename_i q; injection hf with hf _; omega
   split at hf
   ·injection hf with hf _; cases hf
   ·rename_i q1 q2; exact ⟨by omega, by omega, by omega⟩
  obtain ⟨w0, w1, w2⟩ := hw
  have hn64 : n ≠ 64 := fun q => by
   subst q
   have : (wF 64 x.1).2 = 4 := rfl
   omega
  obtain ⟨hxD, hxA⟩ := hh
  have hwt : x.2.1.toNat = (wF n x.1).1 := by omega
  have hlow : low (x.2.2 : Int) x.2.1.toNat = x.2.2 := by rw [low_nat, hwt, Nat.mod_eq_of_lt w2]
  have e1 : encS D A (x :: r) ++ Z = codB D.1 D.2 x.1 ++ (bl (wF n x.1).1 x.2.2 ++ (encS A A r ++ Z)) := by
   rw [encS, oneS, hlow, hwt, encS_A]; simp only [List.append_assoc]
  have hr := rd4_cod (B := (encS D A (x :: r) ++ Z).take 16) hD.may hxD (by rw [e1])
  have hcl : (codB D.1 D.2 x.1).length = (lkp (prs D.1 D.2) x.1).1 := codB_len _
  have hgo := rdB_go (A := A) (pred := pred) (k := k) (t := t) hn64 hr (Prod.ext rfl w0 : wF n x.1 = ((wF n x.1).1, 0)) (by rw [e1, List.length_append, List.length_append, bl_len, hcl]; omega) (X' := X') (n' := n') (by
   rw [e1, ← hcl, List.drop_left' rfl, List.take_left' (bl_len _ _), num_bl, Nat.mod_eq_of_lt w2, ← w1]
   exact hf)
  rw [hgo]
  have e2 : (encS D A (x :: r) ++ Z).drop ((lkp (prs D.1 D.2) x.1).1 + (wF n x.1).1) = encS A A r ++ Z := by
   rw [e1, ← hcl, ← List.drop_drop, List.drop_left' rfl, List.drop_left' (bl_len _ _)]
  rw [e2, rdB_enc hA r k A X' n' _ Z Y hA (by simp at hk; omega) (by dsimp only at htok; omega) htok.1 (Has_A hxA) h]
  have e3 : (encS D A (x :: r)).length = (lkp (prs D.1 D.2) x.1).1 + (wF n x.1).1 + (encS A A r).length := by
   have := congrArg List.length e1
   simp only [List.length_append, bl_len, hcl] at this
   omega
  rw [e3, Nat.add_assoc, ← Nat.add_assoc]
theorem rdb_enc {D A : TB} {pred : Int} {B : List Int} {Z : List Bool} (hD : TbOk D) (hA : TbOk A) (hB : B.length = 64) (hm : mayB B) (hd : bln (B.getD 0 0 - pred).natAbs ≤ 11) (hh : Has D A (syF B pred)) :
  rdb D A pred (encS D A (syF B pred) ++ Z) = (0, B, Z, (encS D A (syF B pred)).length) := by
 have hl := syF_len (pred := pred) hB
 have := rdB_enc (pred := pred) hA (syF B pred) 65 D zB 0 0 Z B hD (by omega) (by omega) rfl hh (blk_back hB hm hd)
 rw [Nat.zero_add] at this
 exact this
theorem walk_map {j : Jb} {cs : List Cp} {ps : List Pa} : ∀ n, (walkL j.w j.h cs ps j.f.toNat n).map (fun x => x.1.toNat) = cat (jL j cs ps) n
 | 0 => rfl
 | n + 1 => by
  rw [walk_add, List.map_append, walk_map n]
  rfl
theorem rdL_one {T : Nat → TB × TB} {r : Rdg} {p : Nat} : rdL T r [p] = rd1 T r p := rfl
def Wr (j : Jb) (cs : List Cp) (ps : List Pa) (TV : Nat → List Nat) (L : List Nat) (lk : List Bool) (P4 : List Int) (XS : List (List Int)) : Prop :=
 ∃ P : List Int, P.length = ps.length ∧ (∀ p, p < ps.length → P4.getD p 0 = P.getD p 0) ∧ ∀ Z, rdL (jT j TV ps) (jR0 ps (lk ++ Z)) L = ⟨0, P, Z, XS, lk.length⟩
theorem Wr.nil {j : Jb} {cs : List Cp} {ps : List Pa} {TV : Nat → List Nat} {P4 : List Int} (h : ∀ p, P4.getD p 0 = 0) : Wr j cs ps TV [] [] P4 [] :=
 ⟨List.replicate ps.length 0, by simp, fun p hp => by rw [h, List.getD_eq_getElem?_getD, List.getElem?_replicate, if_pos hp]; rfl, fun Z => rfl⟩
theorem getD_set {l : List Int} {p q : Nat} {v : Int} (hp : p < l.length) : (l.set p v).getD q 0 = if p = q then v else l.getD q 0 := by
 rw [List.getD_eq_getElem?_getD, List.getElem?_set]
 by_cases h : p = q
 ·subst h; rw [if_pos rfl, if_pos rfl, if_pos hp]; rfl
 ·rw [if_neg h, if_neg h, ← List.getD_eq_getElem?_getD]
theorem Wr.step {j : Jb} {cs : List Cp} {ps : List Pa} {TV : Nat → List Nat} {L : List Nat} {lk : List Bool} {P4 : List Int} {XS : List (List Int)} {p : Nat} {D A : TB} {B : List Int} (h : Wr j cs ps TV L lk P4 XS) (hp : p < ps.length) (h4 : p < P4.length) (hT : jT j TV ps p = (D, A)) (hD : TbOk D) (hA : TbOk A)
  (hB : B.length = 64) (hm : mayB B) (hd : bln (B.getD 0 0 - P4.getD p 0).natAbs ≤ 11) (hh : Has D A (syF B (P4.getD p 0))) :
  Wr j cs ps TV (L ++ [p]) (lk ++ encS D A (syF B (P4.getD p 0))) (P4.set p (B.getD 0 0)) (XS ++ [B]) := by
 obtain ⟨P, h1, h2, h3⟩ := h
 have hPp := h2 p hp
 refine ⟨P.set p (B.getD 0 0), by rw [List.length_set, h1], fun q hq => ?_, fun Z => ?_⟩
 ·rw [getD_set h4, getD_set (by omega), h2 q hq]
 ·rw [rdL_app, List.append_assoc, h3]
  rw [rdL_one, rd1_eq hT rfl]
  dsimp only
  rw [← hPp, rdb_enc hD hA hB hm hd hh]
  dsimp only
  rw [if_neg n00, List.length_append]
theorem snk_octs {H : Hp} {k : Nat} {s : Sl} {m : List Bool} (hs : Snk H k s m) (h8 : m.length % 8 = 0) : ∃ bs : List Nat, (∀ b ∈ bs, b < 256) ∧ m = bs.flatMap (bl 8) ∧ text m = bytesOf (stuff bs) := by
 obtain ⟨bs, v, n, R, hn, hmb⟩ := hs
 have hoc : octs m = bs := by rw [hmb]; exact octs_eq R.byte hn
 have hn0 : n = 0 := by
  have := congrArg List.length hmb
  rw [List.length_append, fm8, bl_len] at this
  omega
 subst hn0
 exact ⟨bs, R.byte, by rw [hmb]; simp [bl], by unfold text; rw [hoc]⟩
section
variable {H : Hp} {j : Jb} {cs : List Cp} {ps : List Pa} {TV : Nat → List Nat}
end
end Go.Proofs.Ytmnoecpnoofdjaa.G
