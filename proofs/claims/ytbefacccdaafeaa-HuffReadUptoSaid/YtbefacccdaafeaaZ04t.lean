/- Layer 4: HuffRead. -/
import Derived.Test.YtbefacccdaafeaaZ04s
import Derived.Test.YtbefacccdaafeaaZ04j
import Derived.Test.YtbefacccdaafeaaKHuffRead
namespace Go.Proofs.Ytbefacccdaafeaa.G
open Go.RowKit
set_option linter.unusedVariables false
set_option linter.unusedSimpArgs false
set_option maxRecDepth 20000

theorem Read_nil4 {p : Option Addr} {H : Hp} {Q : Int × Int → Hp → Prop} (h : Q (0, 2) H) : huff_Table_Read.s p none H Q := by
  unfold huff_Table_Read.s
  exact ite_t rfl h
set_option maxHeartbeats 1000000 in
theorem HuffRead_row (c : Cn) (s : Sl) (d : Cn) (s2 : Sl) (f : ByteArray) (a3 a4 : Int) (W : World) (hc : ∀ v ∈ c.1, 0 ≤ v ∧ v ≤ 255) (hs : SlH W.heap (some 1048576) 1 1 (X5 (some 1048576) W.heap) s)
    (hd : ∀ v ∈ d.1, 0 ≤ v ∧ v ≤ 255) (hs2 : SlH W.heap (some 1048576) 1 1 (X5 (some 1048576) W.heap) s2) (hf : f.size ≤ 1048576) (h3 : -9223372036854775808 ≤ a3 ∧ a3 ≤ 9223372036854775807) (h4 : -9223372036854775808 ≤ a4 ∧ a4 ≤ 9223372036854775807) :
    mosaiclaw04_HuffRead.s c s d s2 f a3 a4 W.heap (fun r H' => r = true ∧ Keep W.heap H') := by
  have big : ∀ {s : Sl} {vs : List Nat}, SlV W.heap s 1 cB vs → (s.c = 0 ∨ szL (some 1048576) 1 s.c) → vs.length ≤ 1048576 := fun {s vs} v z => by
    have n := v.n
    have c := v.c
    rcases z with z | z
    · omega
    · have : s.c + 1 ≤ 1048576 := z
      omega
  obtain ⟨vs, v0, hv, z0⟩ := bytes_view hs
  obtain ⟨ws, w0, hw, z1⟩ := bytes_view hs2
  have hl := big v0 z0
  have hl2 := big w0 z1
  unfold mosaiclaw04_HuffRead.s
  intro b1 H2 c2 g1 g1' b3 H4 c4 g3 g3'
  have k4 : Keep W.heap H4 := (c2.keep (by simp)).trans (c4.keep (by simp))
  have y2 := c2.size
  have y4 := c4.size
  refine twin_ok (v0.keep k4) (by omega) fun f1 m1 H6 T6 k6 q6 => ⟨Pv.keep k6 (by simp; omega), ?_⟩
  have y6 := k6.size
  refine New_x4 hc T6.view hv (by omega) fun p H9 P9 k9 => ⟨Pv.keep k9 (by simp; omega), ?_⟩
  have y9 := k9.size
  have k9' := (k4.trans k6).trans k9
  refine twin_ok (w0.keep k9') (by omega) fun f2 m2 H12 U12 k12 q12 => ⟨Pv.keep k12 (by simp; omega), ?_⟩
  have y12 := k12.size
  refine New_x4 hd U12.view hw (by omega) fun u H15 V15 k15 => ⟨Pv.keep k15 (by simp; omega), ?_⟩
  have y15 := k15.size
  have k15' := (k9'.trans k12).trans k15
  refine rNew_x4 hc (v0.keep k15') (by omega) fun r H18 R18 k18 => ⟨Pv.keep k18 (by simp; omega), ?_⟩
  have y18 := k18.size
  refine rNew_x4 hd (w0.keep (k15'.trans k18)) (by omega) fun q H21 S21 k21 => ?_
  have k21' := (k15'.trans k18).trans k21
  have P21 := (((P9.keep k12).keep k15).keep k18).keep k21
  have V21 := (V15.keep k18).keep k21
  have R21 := R18.keep k21
  refine Join.intro (fun b H' => b = false ∧ H21 = H') ?_ fun J hJ => ite_f (bnei (by rw [P21.err.1, R21.err])) (hJ _ _ ⟨bnei (by rw [V21.err.1, S21.err]), rfl⟩)
  rintro _ _ ⟨rfl, rfl⟩
  refine ite_f rfl (Join.intro (fun b H' => b = decide (Chk4 c vs ≠ 0 ∨ Chk4 d ws ≠ 0) ∧ H21 = H') ?_ fun J hJ => ?_)
  rotate_left
  · rw [R21.err, S21.err]
    by_cases h1 : Chk4 c vs = 0
    · refine ite_f (bnei h1) (hJ _ _ ⟨?_, rfl⟩)
      by_cases h2 : Chk4 d ws = 0
      · exact (bnei h2).trans (decf (by omega)).symm
      · exact (bnet h2).trans (dect (.inr h2)).symm
    · exact ite_t (bnet h1) (hJ _ _ ⟨(dect (.inl h1)).symm, rfl⟩)
  rintro _ _ ⟨rfl, rfl⟩
  by_cases hbad : Chk4 c vs ≠ 0 ∨ Chk4 d ws ≠ 0
  · exact ite_t (dect hbad) ⟨rfl, k21'⟩
  refine ite_f (decf hbad) ?_
  rcases P21 with ⟨hz, t, tv, rfl, T21, fT⟩ | ⟨hz, _⟩
  rotate_left
  · exact absurd (.inl hz) hbad
  rcases V21 with ⟨hz', t', tv', rfl, T21', fT'⟩ | ⟨hz', _⟩
  rotate_left
  · exact absurd (.inr hz') hbad
  rcases R21 with ⟨_, rr, sv, sc, rfl, R21, fR⟩ | ⟨hz', _⟩
  rotate_left
  · exact absurd (.inl hz') hbad
  rcases S21 with ⟨_, rr', sv', sc', rfl, R21', fR'⟩ | ⟨hz', _⟩
  rotate_left
  · exact absurd (.inr hz') hbad
  replace T21 : Tab H21 t tv c vs := T21
  replace T21' : Tab H21 t' tv' d ws := T21'
  have hm : May4 c vs := may4 hz
  have hm' : May4 d ws := may4 hz'
  have lT := T21.lts
  have lT' := T21'.lts
  have lR := R21.lts
  have lR' := R21'.lts
  refine Join.intro (fun b H' => b = false ∧ H21 = H') ?_ fun J hJ => ite_f rfl (hJ _ _ ⟨rfl, rfl⟩)
  rintro _ _ ⟨rfl, rfl⟩
  refine ite_f rfl ?_
  refine Read_nil4 ?_
  have ehi : (f.size : Int) = ((f.size : Nat) : Int) := rfl
  obtain ⟨lo1, lo2⟩ := lohi f.size 0 (f.size : Int)
  obtain ⟨xs, e, hcut⟩ := Cut.ex (f := f) (b := hiOf f.size 0 (f.size : Int)) f.size (loOf f.size 0) (by omega) (by omega)
  have hxl := hcut.le
  refine Open_ok (by omega) hcut fun k H34 S34 k34 fk => rOpen_ok (by omega) hcut fun dd ss H36 R36 k36 fd => ?_
  have y34 := k34.size
  have lk := S34.lt
  have S36 := S34.keep k36
  have hl0 : (remB (loOf f.size 0) 7 xs).length ≤ 8388608 := by rw [remB_len]; omega
  generalize remB (loOf f.size 0) 7 xs = l at S36 R36 hl0
  clear S34
  have kB : Keep H21 H36 := k34.trans k36
  have hkd : k ∉ dd :: fp ss := fun hh => by have := fd k hh; omega
  have hdk : ∀ b ∈ dd :: fp ss, b ∉ [k] := fun b hb => by simp; exact fun e => hkd (e ▸ hb)
  refine Join.intro (fun b H' => b = false ∧ ∃ l u s', Src H' k l e u ∧ Rsc H' dd s' l e u ∧ (∀ b ∈ fp s', b ∈ fp ss) ∧ l.length ≤ 8388608 ∧ Ch [k, dd] H36 H') ?_ fun J hJ => ?_
  rotate_left
  · refine ite_f rfl (ite_f rfl (Skip_x S36 fun H72 S72 s72 => ?_))
    refine rSkip_x (R36.ch s72.ch hdk) fun s' H74 R74 s74 f74 => hJ _ _ ⟨by simp, _, _, s', S72.ch s74.ch (by simp; exact fun e => hkd (by simp [e])), R74, f74, by simp; omega, (s72.ch.mono (by simp)).trans s74.ch (by simp)⟩
  rintro _ H39 ⟨rfl, l1, u1, s1, S39, R39, f39, hl1, c39⟩
  refine ite_f rfl (Fix.intro (fun (x : Int) H' => 0 ≤ x ∧ ∃ l u s', Src H' k l e u ∧ Rsc H' dd s' l e u ∧ (∀ b ∈ fp s', b ∈ fp ss) ∧ l.length ≤ 8388608 ∧ Ch [k, dd] H36 H') (fun x _ => (a4 - x).toNat) ⟨by omega, l1, u1, s1, S39, R39, f39, hl1, c39⟩ ?_)
  clear S39 R39 f39 hl1 c39 l1 u1 s1
  rintro i H43 ⟨hi, l, u, s', S43, R43, f43, hl43, c43⟩ rec hrec
  have kF : Keep H21 H43 := (kB.ch (F := [])).trans c43 (fun b hb => .inr (by have := fd dd (by simp); simp at hb; omega)) |>.keep (by simp)
  by_cases hia : i < a4
  rotate_left
  · exact ite_f (decf hia) ⟨rfl, k21'.trans kF⟩
  have hk' : k ∉ dd :: fp s' := fun hh => hkd (by
    rcases List.mem_cons.1 hh with h | h
    · simp [h]
    · simp [f43 k h])
  have hpf : ∀ b ∈ dd :: fp s', b ∉ [k] := fun b hb => by simp; exact fun e => hk' (e ▸ hb)
  have hdf : ∀ b ∈ dd :: fp s', H34.size ≤ b := fun b hb => by
    rcases List.mem_cons.1 hb with rfl | hb
    · exact fd _ (by simp)
    · exact fd b (by simp [f43 b hb])
  have fin : ∀ {H66 : Hp} {n : Nat} {s3 : Sl}, Src H66 k (l.drop n) e (u + n) → Rsc H66 dd s3 (l.drop n) e (u + n) → (∀ b ∈ fp s3, b ∈ fp s') → Ch [k, dd] H43 H66 → ∃ l u s', Src H66 k l e u ∧ Rsc H66 dd s' l e u ∧ (∀ b ∈ fp s', b ∈ fp ss) ∧ l.length ≤ 8388608 ∧ Ch [k, dd] H36 H66 := fun {H66 n s3} a b g c => ⟨_, _, s3, a, b, fun b hb => f43 b (g b hb), by simp; omega, c43.same c⟩
  refine ite_t (dect hia) (Join.intro (fun (x : Int × Int × Int × Int) H' => x.1 = x.2.1 ∧ x.2.2.1 = x.2.2.2 ∧ ∃ l u s', Src H' k l e u ∧ Rsc H' dd s' l e u ∧ (∀ b ∈ fp s', b ∈ fp ss) ∧ l.length ≤ 8388608 ∧ Ch [k, dd] H36 H') ?_ fun J hJ => ?_)
  rotate_left
  · by_cases h2 : (Int.tmod i 2) = 0
    · refine ite_t (beqi h2) (Read_ok4 (T21.keep kF) hm S43 (fun hh => by have := lT k hh; omega) fun H64 S64 c64 => ?_)
      have R64 := (R21.keep kF).ch c64 fun b hb => by have := lR b hb; simp; omega
      refine rRead_ok4 R64 hm (R43.ch c64 hpf) (fun hh => by have := lR dd hh; have := hdf dd (by simp); omega) (by omega) fun s3 H66 S66 c66 f66 => hJ _ _ ⟨rfl, rfl, fin (S64.ch c66 (by simp; exact fun e => hk' (by simp [e]))) S66 f66 ((c64.mono (by simp)).trans c66 (by simp))⟩
    · refine ite_f (beqf h2) (Read_ok4 (T21'.keep kF) hm' S43 (fun hh => by have := lT' k hh; omega) fun H64 S64 c64 => ?_)
      have R64 := (R21'.keep kF).ch c64 fun b hb => by have := lR' b hb; simp; omega
      refine rRead_ok4 R64 hm' (R43.ch c64 hpf) (fun hh => by have := lR' dd hh; have := hdf dd (by simp); omega) (by omega) fun s3 H66 S66 c66 f66 => hJ _ _ ⟨rfl, rfl, fin (S64.ch c66 (by simp; exact fun e => hk' (by simp [e]))) S66 f66 ((c64.mono (by simp)).trans c66 (by simp))⟩
  rintro ⟨x1, x2, x3, x4⟩ H48 ⟨e1, e2, l2, u2, s3, S48, R48, f48, hl48, c48⟩
  simp only at e1 e2
  subst e1 e2
  refine Join.intro (fun b H' => b = false ∧ H48 = H') ?_ fun J hJ => ite_f (bnei rfl) (ite_f (bnei rfl) (Left_ok S48 (rLeft_ok R48 (ite_f (bnei rfl) (At_ok S48 (rAt_ok R48 (hJ _ _ ⟨bnei rfl, rfl⟩)))))))
  rintro _ _ ⟨rfl, rfl⟩
  refine ite_f rfl (Join.intro (fun b H' => H48 = H') ?_ fun J hJ => ?_)
  · rintro b _ rfl
    have kE : Keep H21 H48 := (kB.ch (F := [])).trans c48 (fun b hb => .inr (by have := fd dd (by simp); simp at hb; omega)) |>.keep (by simp)
    cases b with
    | true => exact ite_t rfl ⟨rfl, k21'.trans kE⟩
    | false =>
      refine ite_f rfl ?_
      rw [w64 (by omega)]
      exact hrec _ _ ⟨by omega, l2, u2, s3, S48, R48, f48, hl48, c48⟩ (by omega)
  · by_cases h0 : x3 = 0
    · exact ite_f (bnei h0) (hJ _ _ rfl)
    · exact ite_t (bnet h0) (hJ _ _ rfl)
end Go.Proofs.Ytbefacccdaafeaa.G
