/- Of this text what the row needs. -/
import Derived.Test.YtmnoecpnoofdjaaQPenCostZA
import Derived.Test.YtmnoecpnoofdjaaQPenCostKbits
namespace Go.Proofs.Ytmnoecpnoofdjaa.G
open Go.RowKit
set_option linter.unusedVariables false
set_option linter.unusedSimpArgs false
abbrev cB (b : Nat) : List Value := [.int .u8 (b : Int)]
theorem cB_len (b : Nat) : (cB b).length = 1 := rfl
theorem cB_ones (b : Nat) : ∀ u ∈ cB b, u.oneCell' = true := ones_cons rfl ones_nil
structure SnkR (H : Hp) (k : Nat) (s : Sl) (bs : List Nat) (v n : Nat) : Prop where
  bk : Bk H k 106 (c106 s v n)
  own : Own H 5 1 s (bs.flatMap cB)
  ne : k ∉ fp s
  nz : s.a = none ∨ 0 < s.n
  lt : v < 2 ^ n
  byte : ∀ b ∈ bs, b < 256
def Snk (H : Hp) (k : Nat) (s : Sl) (l : List Bool) : Prop := ∃ bs v n, SnkR H k s bs v n ∧ n < 8 ∧ l = bs.flatMap (bl 8) ++ bl n v
theorem SnkR.count {H : Hp} {k : Nat} {s : Sl} {bs : List Nat} {v n : Nat} (h : SnkR H k s bs v n) : s.n = bs.length := h.own.count cB_len (by omega)
theorem SnkR.ch {H H' : Hp} {k : Nat} {s : Sl} {bs : List Nat} {v n : Nat} {F : List Nat} (h : SnkR H k s bs v n) (c : Ch F H H') (hF : ∀ b ∈ k :: fp s, b ∉ F) : SnkR H' k s bs v n :=
  ⟨h.bk.ch c (hF k (by simp)), h.own.ch c fun b hb => hF b (by simp [hb]), h.ne, h.nz, h.lt, h.byte⟩
theorem Snk.ch {H H' : Hp} {k : Nat} {s : Sl} {l : List Bool} {F : List Nat} (h : Snk H k s l) (c : Ch F H H') (hF : ∀ b ∈ k :: fp s, b ∉ F) : Snk H' k s l := by
  obtain ⟨bs, v, n, h1, h2, h3⟩ := h
  exact ⟨bs, v, n, h1.ch c hF, h2, h3⟩
theorem SnkR.lts {H : Hp} {k : Nat} {s : Sl} {bs : List Nat} {v n : Nat} (h : SnkR H k s bs v n) : ∀ b ∈ k :: fp s, b < H.size := by
  intro b hb
  rcases List.mem_cons.1 hb with rfl | hb
  · exact h.bk.lt
  · exact h.own.fp_lt b hb
theorem Snk.lts {H : Hp} {k : Nat} {s : Sl} {l : List Bool} (h : Snk H k s l) : ∀ b ∈ k :: fp s, b < H.size := by
  obtain ⟨bs, v, n, h1, _⟩ := h
  exact h1.lts
theorem ni {k : Nat} {l : List Nat} (h : k ∉ l) : ∀ b ∈ l, b ∉ [k] := fun b hb => by
  simp only [List.mem_singleton]
  exact fun e => h (e ▸ hb)
theorem fm8 : ∀ bs : List Nat, (bs.flatMap (bl 8)).length = 8 * bs.length
  | [] => rfl
  | b :: bs => by rw [List.flatMap_cons, List.length_append, bl_len, fm8 bs]; simp; omega
theorem bits_New_ok {H : Hp} {Q : Option Addr → Hp → Prop} (h : ∀ k H', Snk H' k ⟨none, 0, 0⟩ [] → Keep H H' → H.size ≤ k → Q (some ⟨k, 0, none⟩) H') : bits_New.s H Q := by
  unfold bits_New.s
  intro b H' c hb hb' hbk
  exact h b H' ⟨[], 0, 0, ⟨hbk, Own.nil _ _ _, by simp [fp], .inl rfl, by simp, by simp⟩, by omega, rfl⟩ (c.keep (by simp)) hb
theorem Put_ok {H : Hp} {k : Nat} {s : Sl} {l : List Bool} {v n : Int} {Q : Bool → Hp → Prop} (hs : Snk H k s l) (hl : l.length ≤ 562949953420000)
    (h0 : n < 0 ∨ 16 < n → Q false H)
    (h : 0 ≤ n → n ≤ 16 → ∀ s' H', Snk H' k s' (l ++ bl n.toNat (low v n.toNat)) → Ch (k :: fp s) H H' → (∀ b ∈ fp s', b ∈ fp s ∨ H.size ≤ b) → Q true H') : bits_Sink_Put.s (some ⟨k, 0, none⟩) v n H Q := by
  unfold bits_Sink_Put.s
  refine Join.intro (fun b H' => b = decide (n < 0 ∨ 16 < n) ∧ H = H') ?_ ?_
  · rintro _ _ ⟨rfl, rfl⟩
    by_cases hb : n < 0 ∨ 16 < n
    · exact ite_t (dect hb) (h0 hb)
    refine ite_f (decf hb) ?_
    obtain ⟨m, rfl⟩ : ∃ m : Nat, n = (m : Int) := ⟨n.toNat, by omega⟩
    rw [Int.toNat_natCast] at h
    obtain ⟨bs, x, c, R, hc, rfl⟩ := hs
    have hx := R.lt
    have hm : m ≤ 16 := by omega
    have hcnt := R.count
    have hlen : bs.length ≤ 140737488355000 := by
      rw [List.length_append, fm8] at hl
      omega
    have hp : x * 2 ^ m + low v m < 2 ^ (c + m) := by
      have := low_lt v m
      have h2 : (x + 1) * 2 ^ m ≤ 2 ^ c * 2 ^ m := Nat.mul_le_mul_right _ hx
      rw [Nat.pow_add]
      rw [Nat.add_mul] at h2
      omega
    have h23 : 2 ^ (c + m) ≤ 2 ^ 23 := pow_lt (by omega)
    have e23 : (2 : Nat) ^ 23 = 8388608 := rfl
    have hxm : x * 2 ^ m ≤ x * 2 ^ m + low v m := Nat.le_add_right _ _
    have e1 : shlI .u32 (x : Int) (m : Int) = ((x * 2 ^ m : Nat) : Int) := shln (by show m ≤ 32; omega) (wu32n (by omega))
    have e2 : Go.bits .or .u32 ((x * 2 ^ m : Nat) : Int) ((low v m : Nat) : Int) = ((x * 2 ^ m + low v m : Nat) : Int) := by
      have := Nat.two_pow_add_eq_or_of_lt (low_lt v m) x
      rw [gor (by show _ < 2 ^ 32; omega) (by show _ < 2 ^ 32; omega) (wu32n (by rw [Nat.mul_comm, ← this, Nat.mul_comm]; omega)), Nat.mul_comm, ← this]
    refine ⟨_, rfl, by omega, ldI_a R.bk rfl ⟨by omega, st_a R.bk (by simp) fun H1 b1 s1 => ?_⟩⟩
    rw [and_mask32 v (by omega), e1, e2] at b1
    refine ldI_a b1 rfl (st_a b1 (by simp) fun H2 b2 s2 => ?_)
    rw [show (c : Int) + (m : Int) = ((c + m : Nat) : Int) from by omega, w64n (by omega)] at b2
    have s12 := s1.trans s2
    have R2 : SnkR H2 k s bs (x * 2 ^ m + low v m) (c + m) := ⟨b2, R.own.ch s12.ch (ni R.ne), R.ne, R.nz, hp, R.byte⟩
    refine Fix.intro (fun (_ : Unit) H' => ∃ s' bs' y d, SnkR H' k s' bs' y d ∧ d < 24 ∧ bs.flatMap (bl 8) ++ bl c x ++ bl m (low v m) = bs'.flatMap (bl 8) ++ bl d y ∧ Ch (k :: fp s) H H' ∧ (∀ b ∈ fp s', b ∈ fp s ∨ H.size ≤ b) ∧ 8 * bs'.length + d = 8 * bs.length + (c + m))
      (fun _ H' => match cellAt H' ⟨k, 2, none⟩ with | some (.int _ d) => d.toNat | _ => 0) ⟨s, bs, _, _, R2, by omega, by rw [bl_put (low_lt v m), List.append_assoc], s12.ch.mono (by simp), fun b hb => .inl hb, rfl⟩ ?_
    rintro ⟨⟩ H3 ⟨s', bs', y, d, R3, hd, hE, c3, hf, hn⟩ rec hrec
    refine ldI_a R3.bk rfl ?_
    by_cases h8 : 8 ≤ d
    · have hy := R3.lt
      have hcnt' := R3.count
      obtain ⟨g, rfl⟩ : ∃ g, d = 8 + g := ⟨d - 8, by omega⟩
      have hg : y < 2 ^ 24 := Nat.lt_of_lt_of_le hy (pow_lt (by omega))
      have e24 : (2 : Nat) ^ 24 = 16777216 := rfl
      have hq : y / 2 ^ g < 256 := by
        rw [Nat.pow_add] at hy
        exact Nat.div_lt_of_lt_mul (by rw [Nat.mul_comm]; exact hy)
      refine ite_t (dect (by omega)) (ldI_a R3.bk rfl (st_a R3.bk (by simp) fun H4 b4 s4 => ?_))
      rw [show ((8 + g : Nat) : Int) - 8 = (g : Int) from by omega, w64n (by omega)] at b4
      refine ldL_a b4 rfl (ldI_a b4 rfl (ldI_a b4 rfl ⟨by omega, nw_i fun H5 b5 k5 z5' => ⟨?_, ?_⟩⟩))
      · exact cell_a (b4.keep k5) rfl
      rw [shrn (by show g ≤ 32; omega), wu8n hq]
      have o4 : Own H4 5 1 s' (bs'.flatMap cB) := R3.own.ch s4.ch (ni R3.ne)
      have o5 : Own H5 5 1 s' (bs'.flatMap cB) := o4.ch (k5.ch (F := [])) (by simp)
      have k3 := R3.bk.lt
      have z4 := s4.size
      refine apS_list (ys := [y / 2 ^ g]) o5 cB_len cB_ones rfl (by omega) rfl (by simp; omega) (by omega) fun s6 H6 o6 c6 f6 => ?_
      have n6 := o6.count cB_len (by omega)
      have hkf : k ∉ fp s' := R3.ne
      have b6 := (b4.keep k5).ch c6 hkf
      refine st_a b6 (by simp) fun H7 b7 s7 => ldI_a b7 rfl (ldI_a b7 rfl ⟨by omega, st_a b7 (by simp) fun H8 b8 s8 => ?_⟩)
      have hk6 : k ∉ fp s6 := fun h => by
        rcases f6 k h with h | h
        · exact hkf h
        · omega
      rw [mask32 (by omega), gand (k := .u32) (by show _ < 2 ^ 32; omega) (by show _ < 2 ^ 32; have := pow_lt (show g ≤ 16 by omega); have : (2 : Nat) ^ 16 = 65536 := rfl; omega) (wu32n (by rw [Nat.and_two_pow_sub_one_eq_mod]; have := Nat.mod_le y (2 ^ g); omega)), Nat.and_two_pow_sub_one_eq_mod] at b8
      have s78 := s7.trans s8
      have R8 : SnkR H8 k s6 (bs' ++ [y / 2 ^ g]) (y % 2 ^ g) g := by
        refine ⟨b8, o6.ch s78.ch (ni hk6), hk6, .inr (by simp at n6; omega), Nat.mod_lt _ (Nat.pow_pos (by omega)), ?_⟩
        intro b hb
        rcases List.mem_append.1 hb with hb | hb
        · exact R3.byte b hb
        · simp at hb; omega
      refine hrec _ _ ⟨s6, _, _, _, R8, by omega, ?_, ?_, ?_, by simp; omega⟩ ?_
      · rw [hE, List.flatMap_append, List.append_assoc]
        congr 1
        rw [show (8 + g) = 8 + g from rfl, bl_app, bl_mod (Nat.le_refl g)]
        simp
      · have d4 : Ch (k :: fp s) H H4 := c3.trans s4.ch (by simp)
        have d6 : Ch (k :: fp s) H H6 := (d4.trans (k5.ch (F := [])) (by simp)).trans c6 fun i hi => by
          rcases hf i hi with h | h
          · exact .inl (by simp [h])
          · exact .inr h
        exact d6.trans s78.ch (by simp)
      · intro b hb
        have q1 := c3.size
        have q2 := k5.size
        rcases f6 b hb with h | h
        · exact hf b h
        · exact .inr (by omega)
      · have m1 : cellAt H8 ⟨k, 2, none⟩ = some (.int .i64 (g : Int)) := by rw [R8.bk.cell]; rfl
        have m2 : cellAt H3 ⟨k, 2, none⟩ = some (.int .i64 ((8 + g : Nat) : Int)) := by rw [R3.bk.cell]; rfl
        simp only [m1, m2]
        omega
    · refine ite_f (decf (by omega)) (h (by omega) (by omega) s' H3 ⟨bs', y, d, R3, by omega, hE⟩ c3 hf)
  · intro J hJ
    by_cases h1 : n < 0
    · exact ite_t (dect h1) (hJ _ _ ⟨by simp [h1], rfl⟩)
    · exact ite_f (decf h1) (hJ _ _ ⟨by simp [h1], rfl⟩)
end Go.Proofs.Ytmnoecpnoofdjaa.G
