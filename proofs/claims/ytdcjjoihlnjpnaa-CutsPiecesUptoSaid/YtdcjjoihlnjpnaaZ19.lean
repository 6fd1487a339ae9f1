/- Layer 19: the pieces of a scan's bytes, one by one and as a list. -/
import Derived.Test.YtdcjjoihlnjpnaaZW
import Derived.Test.YtdcjjoihlnjpnaaKmosaiclaw19
namespace Go.Proofs.Ytdcjjoihlnjpnaa.G
open Go.RowKit
set_option linter.unusedVariables false
set_option linter.unusedSimpArgs false
set_option maxRecDepth 20000

/-! ### the first byte of a kind -/
theorem idx_list (c : UInt8) : ∀ l : List UInt8, (Lib.indexByte l c = -1 ∧ ∀ k (h : k < l.length), l[k] ≠ c) ∨ (∃ n : Nat, Lib.indexByte l c = n ∧ ∃ h : n < l.length, l[n] = c ∧ ∀ k (hk : k < n), l[k]'(by omega) ≠ c)
  | [] => .inl ⟨rfl, fun k h => by simp at h⟩
  | b :: l => by
    unfold Lib.indexByte
    by_cases hb : b = c
    · subst hb
      exact .inr ⟨0, by simp, by simp, by simp, fun k hk => by omega⟩
    · rw [if_neg (by simpa using hb)]
      rcases idx_list c l with ⟨h1, h2⟩ | ⟨n, h1, h3, h4, h5⟩
      · refine .inl ⟨by rw [h1]; rfl, fun k hk => ?_⟩
        cases k with
        | zero => exact hb
        | succ k => exact h2 k (by simpa using hk)
      · refine .inr ⟨n + 1, ?_, by simpa using h3, by simpa using h4, fun k hk => ?_⟩
        · rw [h1, if_neg (by simp)]
          simp
        · cases k with
          | zero => exact hb
          | succ k => exact h5 k (by omega)
theorem bt_nat {s : ByteArray} {k : Nat} (h : k < s.size) : bt s (k : Int) = (s.data.toList[k]'(by simpa using h)).toNat := by
  unfold bt
  rw [dif_pos (by simpa using h)]
  rfl
theorem idx_ok (s : ByteArray) (i : Nat) (hi : i ≤ s.size) :
    (Lib.indexByte (s.extract i s.size).data.toList (255 : Int).toNat.toUInt8 = -1 ∧ ∀ k, i ≤ k → k < s.size → bt s (k : Int) ≠ 255) ∨
    (∃ n : Nat, Lib.indexByte (s.extract i s.size).data.toList (255 : Int).toNat.toUInt8 = n ∧ i + n < s.size ∧ bt s ((i + n : Nat) : Int) = 255 ∧ ∀ k, i ≤ k → k < i + n → bt s (k : Int) ≠ 255) := by
  have e : (s.extract i s.size).data.toList = s.data.toList.drop i := by
    rw [ByteArray.data_extract]
    simp only [Array.toList_extract, List.extract_eq_take_drop]
    exact List.take_of_length_le (by simp)
  have hc : (255 : Int).toNat.toUInt8 = (255 : UInt8) := rfl
  have hl : s.data.toList.length = s.size := by simp
  have h255 : ∀ k (h : k < s.size), bt s (k : Int) ≠ 255 ↔ (s.data.toList[k]'(by omega)) ≠ 255 := by
    intro k h
    rw [bt_nat h]
    constructor
    · intro a b; rw [b] at a; exact a rfl
    · intro a b; exact a (UInt8.toNat_inj.1 (by have : (255 : UInt8).toNat = 255 := rfl; omega))
  rw [e, hc]
  rcases idx_list 255 (s.data.toList.drop i) with ⟨h1, h2⟩ | ⟨n, h1, h3, h4, h5⟩
  · refine .inl ⟨h1, fun k h h' => (h255 k h').2 ?_⟩
    have := h2 (k - i) (by simp; omega)
    rw [List.getElem_drop] at this
    simpa [show i + (k - i) = k from by omega] using this
  · have h3' : i + n < s.size := by simp at h3; omega
    refine .inr ⟨n, h1, h3', ?_, fun k h h' => (h255 k (by omega)).2 ?_⟩
    · rw [List.getElem_drop] at h4
      rw [bt_nat h3', h4]; rfl
    · have := h5 (k - i) (by omega)
      rw [List.getElem_drop] at this
      simpa [show i + (k - i) = k from by omega] using this

/-! ### the next marker -/
def isMark (s : ByteArray) (k : Nat) : Prop := k + 1 < s.size ∧ bt s (k : Int) = 255 ∧ bt s ((k + 1 : Nat) : Int) ≠ 0 ∧ bt s ((k + 1 : Nat) : Int) ≠ 255
def IsNext (s : ByteArray) (i : Nat) (r : Int × Int × Int × Bool) : Prop :=
  (∃ j, i ≤ j ∧ isMark s j ∧ (∀ k, i ≤ k → k < j → ¬ isMark s k) ∧ r = ((j : Int), ((j + 2 : Nat) : Int), bt s ((j + 1 : Nat) : Int), true)) ∨ ((∀ k, i ≤ k → ¬ isMark s k) ∧ r = (0, 0, 0, false))
theorem IsNext.uniq {s : ByteArray} {i : Nat} {r q : Int × Int × Int × Bool} (h : IsNext s i r) (k : IsNext s i q) : r = q := by
  rcases h with ⟨j, h1, h2, h3, rfl⟩ | ⟨h1, rfl⟩ <;> rcases k with ⟨j', k1, k2, k3, rfl⟩ | ⟨k1, rfl⟩
  · have : j = j' := by
      rcases Nat.lt_trichotomy j j' with x | x | x
      · exact absurd h2 (k3 j h1 x)
      · exact x
      · exact absurd k2 (h3 j' k1 x)
    subst this; rfl
  · exact absurd h2 (k1 j h1)
  · exact absurd k2 (h1 j' k1)
  · rfl

theorem Next_ok {s : ByteArray} {a : Int} {H : Hp} {Q : (Int × Int × Int × Bool) → Hp → Prop} (hs : s.size < 140737488355328) (ha : -9223372036854775808 ≤ a ∧ a ≤ 9223372036854775807)
    (h : ∀ r H', IsNext s a.toNat r → Keep H H' → Q r H') : marker_Next.s s a H Q := by
  unfold marker_Next.s
  intro b1 H2 c2 g1 g1' hb
  have hk : Keep H H2 := c2.keep (by simp)
  refine Join.intro (fun s' H' => (∀ k, a.toNat ≤ k → ¬ isMark s k) ∧ H2 = H') ?_ ?_
  · rintro ⟨⟩ _ ⟨hn, rfl⟩
    refine stA_full hb rfl fun H3 hb3 s3 => ⟨_, _, _, ldA_full hb3, h _ _ (.inr ⟨hn, rfl⟩) (hk.same s3 g1)⟩
  · intro J hJ
    refine Fix.intro (fun (x : Int) H' => ∃ i : Nat, x = i ∧ a.toNat ≤ i ∧ (∀ k, a.toNat ≤ k → k < i → ¬ isMark s k) ∧ H2 = H') (fun x _ => s.size - x.toNat) ⟨a.toNat, ?_, Nat.le_refl _, fun k h1 h2 => by omega, rfl⟩ ?_
    · split <;> omega
    · rintro _ _ ⟨i, rfl, hi, hno, rfl⟩ rec hrec
      rw [w64 (x := (s.size : Int) - 1) (by omega)]
      by_cases hc : (i : Int) < (s.size : Int) - 1
      · refine ite_t (by simpa using hc) ⟨by omega, by omega, ?_⟩
        unfold strings_IndexByte.s
        rw [Int.toNat_natCast]
        rcases idx_ok s i (by omega) with ⟨e, hnot⟩ | ⟨n, e, hlt, h255, hnot⟩
        · rw [e]
          refine Join.intro (fun b H' => b = true ∧ H2 = H') ?_ ?_
          · rintro _ _ ⟨rfl, rfl⟩
            refine ite_t rfl (hJ _ _ ⟨fun k h1 h2 => ?_, rfl⟩)
            by_cases hki : k < i
            · exact hno k h1 hki h2
            · exact hnot k (by omega) (by have := h2.1; omega) h2.2.1
          · intro J2 hJ2
            exact ite_t rfl (hJ2 _ _ ⟨rfl, rfl⟩)
        · rw [e]
          have e1 : IntKind.wrap .i64 ((i : Int) + (n : Int)) = ((i + n : Nat) : Int) := by rw [w64 (by omega)]; omega
          have e2 : IntKind.wrap .i64 (((i + n : Nat) : Int) + 1) = ((i + n + 1 : Nat) : Int) := by rw [w64 (by omega)]; omega
          have e3 : IntKind.wrap .i64 (((i + n : Nat) : Int) + 2) = ((i + n + 2 : Nat) : Int) := by rw [w64 (by omega)]; omega
          rw [e1, e2, e3]
          by_cases hend : i + n + 1 < s.size
          · refine Join.intro (fun b H' => b = false ∧ H2 = H') ?_ ?_
            · rintro _ _ ⟨rfl, rfl⟩
              refine ite_f rfl ⟨by omega, by omega, Lt.of ?_⟩
              refine Join.intro (fun b H' => b = decide (bt s ((i + n + 1 : Nat) : Int) ≠ 0 ∧ bt s ((i + n + 1 : Nat) : Int) ≠ 255) ∧ H2 = H') ?_ ?_
              · rintro _ _ ⟨rfl, rfl⟩
                by_cases hm : bt s ((i + n + 1 : Nat) : Int) ≠ 0 ∧ bt s ((i + n + 1 : Nat) : Int) ≠ 255
                · refine ite_t (decide_eq_true hm) ?_
                  refine stA_full hb rfl fun H3 hb3 s3 => ⟨_, _, _, ldA_full hb3, h _ _ (.inl ⟨i + n, by omega, ⟨hend, h255, hm.1, hm.2⟩, fun k h1 h2 h3 => ?_, rfl⟩) (hk.same s3 g1)⟩
                  by_cases hki : k < i
                  · exact hno k h1 hki h3
                  · exact hnot k (by omega) h2 h3.2.1
                · refine ite_f (decide_eq_false hm) (Lt.of (hrec _ _ ⟨i + n + 1, rfl, by omega, fun k h1 h2 h3 => ?_, rfl⟩ (by simp only [Int.toNat_natCast]; omega)))
                  by_cases hki : k < i
                  · exact hno k h1 hki h3
                  · by_cases hkn : k < i + n
                    · exact hnot k (by omega) hkn h3.2.1
                    · have : k = i + n := by omega
                      subst this
                      exact hm ⟨h3.2.2.1, h3.2.2.2⟩
              · intro J2 hJ2
                by_cases h0 : bt s ((i + n + 1 : Nat) : Int) = 0
                · exact ite_f (bnei h0) (hJ2 _ _ ⟨(decf fun x => x.1 h0).symm, rfl⟩)
                · refine ite_t (bnet h0) (hJ2 _ _ ⟨?_, rfl⟩)
                  by_cases h1 : bt s ((i + n + 1 : Nat) : Int) = 255
                  · rw [bnei h1]; exact (decf fun x => x.2 h1).symm
                  · rw [bnet h1]; exact (dect ⟨h0, h1⟩).symm
            · intro J2 hJ2
              exact ite_f (decf (by omega)) (hJ2 _ _ ⟨decf (by omega), rfl⟩)
          · refine Join.intro (fun b H' => b = true ∧ H2 = H') ?_ ?_
            · rintro _ _ ⟨rfl, rfl⟩
              refine ite_t rfl (hJ _ _ ⟨fun k h1 h2 => ?_, rfl⟩)
              by_cases hki : k < i
              · exact hno k h1 hki h2
              · have := h2.1
                exact hnot k (by omega) (by omega) h2.2.1
            · intro J2 hJ2
              exact ite_f (decf (by omega)) (hJ2 _ _ ⟨dect (by omega), rfl⟩)
      · refine ite_f (by simpa using hc) (hJ _ _ ⟨fun k h1 h2 => ?_, rfl⟩)
        by_cases hki : k < i
        · exact hno k h1 hki h2
        · have := h2.1; omega

/-! ### pieces -/
/-- The first of the bytes FF in a row ahead of a place, from a on. -/
def bkw (s : ByteArray) (a : Nat) : Nat → Nat
  | 0 => 0
  | t + 1 => if a < t + 1 ∧ bt s (t : Int) = 255 then bkw s a t else t + 1
theorem bkw_le (s : ByteArray) (a : Nat) : ∀ t, bkw s a t ≤ t
  | 0 => Nat.le_refl _
  | t + 1 => by
    have := bkw_le s a t
    unfold bkw
    split <;> omega
theorem bkw_ge (s : ByteArray) (a : Nat) : ∀ t, a ≤ t → a ≤ bkw s a t
  | 0, h => h
  | t + 1, h => by
    unfold bkw
    split
    · exact bkw_ge s a t (by omega)
    · exact h
theorem back_ok {s : ByteArray} {a t : Nat} {H : Hp} {Q : Int → Hp → Prop} (hs : s.size < 140737488355328) (ht : t ≤ s.size) (h : Q (bkw s a t : Int) H) : cuts_back.s s (a : Int) (t : Int) H Q := by
  unfold cuts_back.s
  refine Fix.intro (fun (x : Int) H' => ∃ i : Nat, x = (i : Int) ∧ i ≤ t ∧ bkw s a i = bkw s a t ∧ H = H') (fun x _ => x.toNat) ⟨t, rfl, Nat.le_refl _, rfl, rfl⟩ ?_
  rintro _ _ ⟨i, rfl, hi, hb, rfl⟩ rec hrec
  refine Join.intro (fun b H' => (b = true ↔ (a < i ∧ bt s ((i - 1 : Nat) : Int) = 255)) ∧ H = H') ?_ fun J hJ => ?_
  · rintro b _ ⟨hb', rfl⟩
    cases i with
    | zero =>
      have : b = false := by
        cases b with
        | false => rfl
        | true => have := (hb'.1 rfl).1; omega
      refine ite_f this ?_
      rw [← hb] at h
      exact h
    | succ i =>
      rw [bkw] at hb
      by_cases hc : a < i + 1 ∧ bt s (i : Int) = 255
      · rw [if_pos hc] at hb
        refine ite_t (hb'.2 (by simpa using hc)) ?_
        refine hrec _ _ ⟨i, by rw [w64 (by omega)]; omega, by omega, hb, rfl⟩ (by rw [w64 (by omega)]; omega)
      · rw [if_neg hc] at hb
        have : b = false := by
          cases b with
          | false => rfl
          | true => exact absurd (by simpa using hb'.1 rfl) hc
        refine ite_f this ?_
        rw [← hb] at h
        exact h
  · by_cases hai : a < i
    · have e : IntKind.wrap .i64 ((i : Int) - 1) = ((i - 1 : Nat) : Int) := by rw [w64 (by omega)]; omega
      rw [e]
      refine ite_t (dect (by omega)) ⟨by omega, by omega, hJ _ _ ⟨?_, rfl⟩⟩
      rw [beq_iff_eq]
      exact ⟨fun g => ⟨hai, g⟩, fun g => g.2⟩
    · exact ite_f (decf (by omega)) (hJ _ _ ⟨⟨fun g => (by cases g), fun g => absurd g.1 hai⟩, rfl⟩)
theorem Kind_ok {c : Int} {H : Hp} {Q : Int → Hp → Prop} (h : ∀ k, (k = 3 ↔ 208 ≤ c ∧ c ≤ 215) → Q k H) : marker_Kind.s c H Q := by
  unfold marker_Kind.s
  by_cases h1 : c = 1
  · exact ite_t (beqi h1) (h 4 (by omega))
  refine ite_f (beqf h1) (Join.intro (fun b H' => b = decide (c < 192 ∨ c = 255) ∧ H = H') ?_ fun J hJ => ?_)
  rotate_left
  · by_cases h2 : c < 192
    · exact ite_t (dect h2) (hJ _ _ ⟨(dect (.inl h2)).symm, rfl⟩)
    · refine ite_f (decf h2) (hJ _ _ ⟨?_, rfl⟩)
      by_cases h3 : c = 255
      · rw [beqi h3]; exact (dect (.inr h3)).symm
      · rw [beqf h3]; exact (decf (by omega)).symm
  rintro _ _ ⟨rfl, rfl⟩
  by_cases h2 : c < 192 ∨ c = 255
  · exact ite_t (dect h2) (h 0 (by omega))
  refine ite_f (decf h2) (Join.intro (fun b H' => b = decide (c = 196 ∨ c = 200 ∨ c = 204) ∧ H = H') ?_ fun J hJ => ?_)
  rotate_left
  · by_cases h3 : c = 196
    · exact ite_t (beqi h3) (hJ _ _ ⟨(dect (.inl h3)).symm, rfl⟩)
    refine ite_f (beqf h3) ?_
    by_cases h4 : c = 200
    · exact ite_t (beqi h4) (hJ _ _ ⟨(dect (.inr (.inl h4))).symm, rfl⟩)
    refine ite_f (beqf h4) (hJ _ _ ⟨?_, rfl⟩)
    by_cases h5 : c = 204
    · rw [beqi h5]; exact (dect (.inr (.inr h5))).symm
    · rw [beqf h5]; exact (decf (by omega)).symm
  rintro _ _ ⟨rfl, rfl⟩
  by_cases h3 : c = 196 ∨ c = 200 ∨ c = 204
  · exact ite_t (dect h3) (h 7 (by omega))
  refine ite_f (decf h3) ?_
  by_cases h4 : c < 208
  · exact ite_t (dect h4) (h 5 (by omega))
  refine ite_f (decf h4) ?_
  by_cases h5 : c < 216
  · exact ite_t (dect h5) (h 3 (by omega))
  refine ite_f (decf h5) ?_
  by_cases h6 : c = 216
  · exact ite_t (beqi h6) (h 1 (by omega))
  refine ite_f (beqf h6) ?_
  by_cases h7 : c = 217
  · exact ite_t (beqi h7) (h 2 (by omega))
  refine ite_f (beqf h7) ?_
  by_cases h8 : c = 218
  · exact ite_t (beqi h8) (h 6 (by omega))
  · exact ite_f (beqf h8) (h 7 (by omega))
abbrev Pc := Int × Int × Int × Int
def cP (p : Pc) : List Value := c29 p.1 p.2.1 p.2.2.1 p.2.2.2
theorem cP_len (p : Pc) : (cP p).length = 4 := rfl
theorem cP_ones (p : Pc) : ∀ u ∈ cP p, u.oneCell' = true := one29 _ _ _ _
/-- The pieces from a place on. -/
def Pcs (s : ByteArray) : Nat → List Pc → Prop
  | _, [] => False
  | a, p :: l => (∃ j, a ≤ j ∧ isMark s j ∧ (∀ k, a ≤ k → k < j → ¬ isMark s k) ∧
      ((208 ≤ bt s ((j + 1 : Nat) : Int) ∧ bt s ((j + 1 : Nat) : Int) ≤ 215 ∧ p = ((a : Int), (bkw s a j : Int), bt s ((j + 1 : Nat) : Int) - 208, ((j + 2 : Nat) : Int)) ∧ Pcs s (j + 2) l) ∨
        (¬ (208 ≤ bt s ((j + 1 : Nat) : Int) ∧ bt s ((j + 1 : Nat) : Int) ≤ 215) ∧ p = ((a : Int), (bkw s a j : Int), -1, (j : Int)) ∧ l = []))) ∨
      ((∀ k, a ≤ k → ¬ isMark s k) ∧ p = ((a : Int), (bkw s a s.size : Int), -2, (s.size : Int)) ∧ l = [])
theorem first_mark (s : ByteArray) (a : Nat) : (∃ j, a ≤ j ∧ isMark s j ∧ ∀ k, a ≤ k → k < j → ¬ isMark s k) ∨ ∀ k, a ≤ k → ¬ isMark s k := by
  have key : ∀ n, (∃ j, a ≤ j ∧ isMark s j ∧ ∀ k, a ≤ k → k < j → ¬ isMark s k) ∨ ∀ k, a ≤ k → k < a + n → ¬ isMark s k := by
    intro n
    induction n with
    | zero => exact .inr fun k h1 h2 => by omega
    | succ n ih =>
      rcases ih with h | h
      · exact .inl h
      · by_cases hm : isMark s (a + n)
        · exact .inl ⟨a + n, by omega, hm, h⟩
        · refine .inr fun k h1 h2 => ?_
          by_cases e : k = a + n
          · subst e; exact hm
          · exact h k h1 (by omega)
  rcases key s.size with h | h
  · exact .inl h
  · exact .inr fun k h1 h2 => h k h1 (by have := h2.1; omega) h2
theorem Pcs.ex (s : ByteArray) : ∀ (n a : Nat), s.size - a ≤ n → ∃ l, Pcs s a l := by
  intro n
  induction n with
  | zero =>
    intro a h
    refine ⟨[_], .inr ⟨fun k h1 h2 => ?_, rfl, rfl⟩⟩
    have := h2.1
    omega
  | succ n ih =>
    intro a h
    rcases first_mark s a with ⟨j, h1, h2, h3⟩ | h1
    · by_cases hr : 208 ≤ bt s ((j + 1 : Nat) : Int) ∧ bt s ((j + 1 : Nat) : Int) ≤ 215
      · obtain ⟨l, hl⟩ := ih (j + 2) (by have := h2.1; omega)
        exact ⟨_ :: l, .inl ⟨j, h1, h2, h3, .inl ⟨hr.1, hr.2, rfl, hl⟩⟩⟩
      · exact ⟨[_], .inl ⟨j, h1, h2, h3, .inr ⟨hr, rfl, rfl⟩⟩⟩
    · exact ⟨[_], .inr ⟨h1, rfl, rfl⟩⟩
theorem Pcs.len {s : ByteArray} : ∀ {l : List Pc} {a : Nat}, Pcs s a l → a ≤ s.size → 1 ≤ l.length ∧ l.length + a ≤ s.size + 1
  | [], _, h, _ => h.elim
  | p :: l, a, h, ha => by
    rcases h with ⟨j, h1, h2, h3, ⟨h4, h5, h6, h7⟩ | ⟨h4, h5, h6⟩⟩ | ⟨h1, h2, h3⟩
    · have := h2.1
      have := Pcs.len h7 (by omega)
      simp; omega
    · subst h6; simp; omega
    · subst h3; simp; omega
/-- From where on the pieces are. -/
def fromOf (n : Nat) (a : Int) : Nat := (min (max a 0) (n : Int)).toNat
theorem fromOf_le (n : Nat) (a : Int) : fromOf n a ≤ n := by unfold fromOf; omega
theorem and7 {x : Nat} (hx : x < 256) (h : 208 ≤ x ∧ x ≤ 215) : IntKind.wrap .i8 (Go.bits .and .u8 (x : Int) 7) = (x : Int) - 208 := by
  have e := gand (k := .u8) (x := x) (y := 7) (by show _ < 2 ^ 8; omega) (by decide) (by
    have : x &&& 7 ≤ 7 := Nat.and_le_right
    exact wu8n (by omega))
  have e2 : x &&& 7 = x % 8 := Nat.and_two_pow_sub_one_eq_mod x 3
  rw [show ((7 : Nat) : Int) = (7 : Int) from rfl] at e
  rw [e, e2, w8 (by omega)]
  omega
theorem Each_seq {s : ByteArray} {pa ps : Nat} {a : Nat} {l : List Pc} {H : Hp} (hs : s.size < 140737488355328) (ha : a ≤ s.size) (hl : Pcs s a l) {T1 T2 : TypeId} (h1 : Bk H pa T1 [.int .i64 (a : Int)]) (h2 : Bk H ps T2 [.string s]) :
    SeqG (fun Y H Q => cuts_Each_1.s Y ⟨pa, 0, none⟩ ⟨ps, 0, none⟩ H Q) H [pa, ps] l := by
  intro Y Q I Z G0 hG h0 hk hlt hY hQ hZ
  unfold cuts_Each_1.s
  refine ldI_i h1 rfl ?_
  refine Fix.intro (fun (x : Int) H' => ∃ i b : Nat, x = (b : Int) ∧ b ≤ s.size ∧ Pcs s b (l.drop i) ∧ (∃ G, I i G H' ∧ ps ∉ G) ∧ Bk H' ps T2 [.string s]) (fun (x : Int) _ => s.size + 1 - x.toNat) ⟨0, a, rfl, ha, hl, ⟨G0, h0, fun hf => hG ps hf (by simp)⟩, h2⟩ ?_
  rintro _ H1 ⟨i, b, rfl, hb, hp, ⟨G, hI, hGs⟩, g2⟩ rec hrec
  have hGl := hlt _ _ _ hI
  obtain ⟨p, r, e⟩ : ∃ p r, l.drop i = p :: r := by
    cases e : l.drop i with
    | nil => rw [e] at hp; exact hp.elim
    | cons p r => exact ⟨p, r, rfl⟩
  rw [e] at hp
  have hget : l[i]? = some p := by
    have := congrArg (fun x => x[0]?) e
    simpa [List.getElem?_drop] using this
  have hdr : l.drop (i + 1) = r := by
    have := congrArg (List.drop 1) e
    simpa [List.drop_drop] using this
  have hlen : i + 1 + r.length = l.length := by
    have := congrArg List.length e
    simp at this
    have := (List.getElem?_eq_some_iff.1 hget).1
    omega
  refine Join.intro (fun (x : Addr) H' => ∃ bp : Nat, x = ⟨bp, 0, none⟩ ∧ H1.size ≤ bp ∧ Bk H' bp 29 (c29 (b : Int) (bkw s b s.size : Int) (-2) (s.size : Int)) ∧ Keep H1 H') ?_ fun J hJ => ?_
  rotate_left
  · refine ldS_i g2 rfl (ldS_i g2 rfl (ldS_i g2 rfl ⟨?_, ?_⟩))
    · refine back_ok hs (Nat.le_refl _) ⟨by rw [g2.cell]; rfl, ?_⟩
      intro b74 H75 c75 f75 f75'
      have k75 : Keep H1 H75 := c75.keep (by simp)
      refine ⟨by rw [(g2.keep k75).cell]; rfl, ?_⟩
      intro H77 c77 hbk
      exact hJ _ _ ⟨b74, rfl, f75, hbk, (k75.ch (F := [])).trans c77 (by simp; omega) |>.keep (by simp)⟩
    · intro b78 H79 c79 f79 f79'
      have k79 : Keep H1 H79 := c79.keep (by simp)
      have q := (g2.keep k79)
      refine ⟨by rw [q.cell]; rfl, by rw [q.cell]; rfl, by rw [q.cell]; rfl, back_ok hs (Nat.le_refl _) ⟨fun _ _ => rfl, by rw [q.cell]; rfl, ?_⟩⟩
      intro H87 c87 hbk
      exact hJ _ _ ⟨b78, rfl, f79, hbk, (k79.ch (F := [])).trans c87 (by simp; omega) |>.keep (by simp)⟩
  rintro _ H11 ⟨bp, rfl, fbp, hbp, k11⟩
  have g11 := g2.keep k11
  have y11 := k11.size
  refine ldS_i g11 rfl (Next_ok hs (by omega) fun x14 H15 hx k15 => ?_)
  rw [Int.toNat_natCast] at hx
  have y15 := k15.size
  intro b16 H18 c18 f18 f18'
  have k18 : Keep H11 H18 := k15.trans (c18.keep (by simp))
  have y18 := k18.size
  have b18 := hbp.keep k18
  have g18 := g11.keep k18
  -- the piece that is told
  have fin : ∀ (s20 : Bool) (H27 : Hp) (K : Unit → Hp → Prop), Bk H27 bp 29 (cP p) → Keep H1 H27 → (s20 = true → ∃ j : Nat, p.2.2.2 = (j : Int) ∧ b < j ∧ j ≤ s.size ∧ Pcs s j r) → (s20 = false → r = []) → (∀ u Hx, K u Hx → Q u Hx) →
      Join (fun (s29 : Bool) (H30 : Hp) => if s29 = true then (Q () H30) else (ldI .i64 H30 ((⟨bp, 0, none⟩ : Addr).add 3) (fun x31 => rec (x31) H30))) (fun (J28 : Bool → Hp → Prop) => ∃ x33 : Int, ∃ x34 : Int, ∃ x35 : Int, ∃ x36 : Int, ldA H27 ⟨bp, 0, none⟩ (c29 x33 x34 x35 x36) ∧ (Y (x33, x34, x35, x36) H27 (fun b38 H39 => if (!b38) = true then (J28 (true) H39) else (J28 ((!s20)) H39)))) := by
    intro s20 H27 K hb27 k27 hs1 hs2 _
    have hbG : bp ∉ G := fun hf => by have := hGl bp hf; omega
    have g27 := g2.keep k27
    refine Join.intro (fun b H' => if b = true then Q () H' else s20 = true ∧ (∃ G', I (i + 1) G' H' ∧ ps ∉ G') ∧ Ch G H27 H') ?_ fun J hJ => ?_
    · intro b H' h
      cases b with
      | true => exact ite_t rfl (by simpa using h)
      | false =>
        simp only [Bool.false_eq_true, if_false] at h
        obtain ⟨h1, h2, h3⟩ := h
        obtain ⟨j, e1, e2, e3, e4⟩ := hs1 h1
        have b39 := hb27.ch h3 hbG
        refine ite_f rfl ?_
        rw [add_mk]
        refine ldI_i b39 (v := p.2.2.2) rfl ?_
        rw [e1]
        exact hrec _ _ ⟨i + 1, j, rfl, e3, by rw [hdr]; exact e4, h2, g27.ch h3 hGs⟩ (by simp only [Int.toNat_natCast]; omega)
    · refine ⟨p.1, p.2.1, p.2.2.1, p.2.2.2, ldA_full hb27, hY i G p H27 _ hget (hk _ _ _ _ hI k27) ?_ ?_⟩
      · intro G' H39 hI39 c39 hG'
        have hps : ps ∉ G' := fun hh => by
          rcases hG' ps hh with h | h
          · exact hGs h
          · have := g27.lt; omega
        refine ite_f rfl (hJ _ _ ?_)
        cases s20 with
        | true => simp; exact ⟨⟨G', hI39, hps⟩, c39⟩
        | false =>
          simp
          have := hs2 rfl
          subst this
          simp at hlen
          rw [hlen] at hI39
          exact hQ _ _ hI39
      · intro H39 hZ39 c39
        exact ite_t rfl (hJ _ _ (by simp; exact hZ _ hZ39))
  have hpv : ∀ {A B : Hp}, Same A B bp → Pv [b16] A B := fun {A B} s j hj => s.block j (by have := hbp.lt; simp at hj; omega)
  refine Join.intro (fun (s20 : Bool) H' => s20 = (x14.2.2.2 && decide (208 ≤ x14.2.2.1 ∧ x14.2.2.1 ≤ 215)) ∧ H18 = H') ?_ fun J hJ => ?_
  rotate_left
  · cases hx14 : x14.2.2.2 with
    | false => exact ite_f rfl (hJ _ _ ⟨by simp [hx14], rfl⟩)
    | true =>
      refine ite_t rfl (Kind_ok fun k hk3 => ⟨fun _ _ => rfl, hJ _ _ ⟨?_, rfl⟩⟩)
      rw [hx14, Bool.true_and]
      by_cases h3 : k = 3
      · rw [beqi h3, dect (hk3.1 h3)]
      · rw [beqf h3, decf fun g => h3 (hk3.2 g)]
  rintro s20 _ ⟨hs20, rfl⟩
  refine Join.intro (fun (_ : Unit) H' => Bk H' bp 29 (if x14.2.2.2 = true then c29 (b : Int) (bkw s b x14.1.toNat : Int) (-1) x14.1 else c29 (b : Int) (bkw s b s.size : Int) (-2) (s.size : Int)) ∧ Keep H1 H') ?_ fun J hJ => ?_
  rotate_left
  · cases hx14 : x14.2.2.2 with
    | false => exact ite_f rfl (hJ _ _ ⟨by rw [if_neg (by rw [hx14]; decide)]; exact b18, k11.trans k18⟩)
    | true =>
      rcases hx with ⟨j, h1, h2, h3, rfl⟩ | ⟨h1, rfl⟩
      · refine ite_t rfl (ldS_i g18 rfl (back_ok hs (by have := h2.1; omega) ⟨fun _ _ => rfl, ?_⟩))
        rw [add_mk, add_mk, add_mk]
        refine st_i b18 (by simp) fun H55 b55 s55 => ⟨hpv s55, st_i b55 (by simp) fun H57 b57 s57 => ⟨hpv s57, st_i b57 (by simp) fun H59 b59 s59 => ⟨hpv s59, hJ _ _ ⟨?_, (((k11.trans k18).same s55 fbp).same s57 fbp).same s59 fbp⟩⟩⟩⟩
        rw [if_pos rfl]
        exact b59
      · cases hx14
  rintro _ H24 ⟨b24, k24⟩
  rcases hx with ⟨j, h1, h2, h3, rfl⟩ | ⟨h1, rfl⟩
  · simp only at hs20 b24 ⊢
    rw [if_pos trivial, Int.toNat_natCast] at b24
    have hj1 := h2.1
    rcases hp with ⟨j', q1, q2, q3, q4⟩ | ⟨q1, _⟩
    rotate_left
    · exact absurd h2 (q1 j h1)
    have ej : j' = j := by
      rcases Nat.lt_trichotomy j' j with g | g | g
      · exact absurd q2 (h3 j' q1 g)
      · exact g
      · exact absurd h2 (q3 j h1 g)
    subst ej
    rcases q4 with ⟨q4, q5, q6, q7⟩ | ⟨q4, q5, q6⟩
    · have e20 : s20 = true := by rw [hs20, dect ⟨q4, q5⟩]; rfl
      subst e20
      refine Join.intro (fun (_ : Unit) H' => Bk H' bp 29 (cP p) ∧ Keep H1 H') (fun _ H27 ⟨b27, k27⟩ => ?_) fun J hJ => ite_t rfl ?_
      · exact fin true H27 (fun _ _ => False) b27 k27 (fun _ => ⟨j' + 2, by rw [q6], by omega, by omega, q7⟩) (fun e => (by cases e)) (fun _ _ h => h.elim)
      · rw [add_mk, add_mk]
        refine st_i b24 (by simp) fun H43 b43 s43 => ⟨hpv s43, st_i b43 (by simp) fun H45 b45 s45 => ⟨hpv s45, hJ _ _ ⟨?_, (k24.same s43 fbp).same s45 fbp⟩⟩⟩
        have hb := bt_range s ((j' + 1 : Nat) : Int)
        have e7 := and7 (x := (bt s ((j' + 1 : Nat) : Int)).toNat) (by omega) (by omega)
        rw [Int.toNat_of_nonneg hb.1] at e7
        rw [e7] at b45
        rw [q6]
        exact b45
    · have e20 : s20 = false := by rw [hs20, decf q4]; rfl
      subst e20
      refine Join.intro (fun (_ : Unit) H' => Bk H' bp 29 (cP p) ∧ Keep H1 H') (fun _ H27 ⟨b27, k27⟩ => ?_) fun J hJ => ite_f rfl (hJ _ _ ⟨?_, k24⟩)
      · exact fin false H27 (fun _ _ => False) b27 k27 (fun e => (by cases e)) (fun _ => q6) (fun _ _ h => h.elim)
      · rw [q5]
        exact b24
  · simp only at hs20 b24 ⊢
    have e20 : s20 = false := hs20
    subst e20
    rcases hp with ⟨j', q1, q2, _⟩ | ⟨q1, q2, q3⟩
    · exact absurd q2 (h1 j' q1)
    refine Join.intro (fun (_ : Unit) H' => Bk H' bp 29 (cP p) ∧ Keep H1 H') (fun _ H27 ⟨b27, k27⟩ => ?_) fun J hJ => ite_f rfl (hJ _ _ ⟨?_, k24⟩)
    · exact fin false H27 (fun _ _ => False) b27 k27 (fun e => (by cases e)) (fun _ => q3) (fun _ _ h => h.elim)
    · rw [if_neg (by decide)] at b24
      subst q2
      exact b24
end Go.Proofs.Ytdcjjoihlnjpnaa.G
