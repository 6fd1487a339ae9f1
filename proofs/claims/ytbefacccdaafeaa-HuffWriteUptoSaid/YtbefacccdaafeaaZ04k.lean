/- Layer 4: HuffWrite. -/
import Derived.Test.YtbefacccdaafeaaZ04j
import Derived.Test.YtbefacccdaafeaaZT
import Derived.Test.YtbefacccdaafeaaKHuffWrite
namespace Go.Proofs.Ytbefacccdaafeaa.G
open Go.RowKit
set_option linter.unusedVariables false
set_option linter.unusedSimpArgs false
set_option maxRecDepth 20000

theorem HuffWrite_row (c : Cn) (s : Sl) (a1 : Sl) (W : World) (hc : ∀ v ∈ c.1, 0 ≤ v ∧ v ≤ 255) (hs : SlH W.heap (some 1048576) 1 1 (X5 (some 1048576) W.heap) s) (h1 : SlH W.heap (some 1048576) 1 1 (X5 (some 1048576) W.heap) a1) :
    mosaiclaw04_HuffWrite.s c s a1 W.heap (fun r H' => r = true ∧ Keep W.heap H') := by
  have big : ∀ {s : Sl} {vs : List Nat}, SlV W.heap s 1 cB vs → (s.c = 0 ∨ szL (some 1048576) 1 s.c) → vs.length ≤ 1048576 := fun {s vs} v z => by
    have n := v.n
    have c := v.c
    rcases z with z | z
    · omega
    · have : s.c + 1 ≤ 1048576 := z
      omega
  obtain ⟨vs, v0, hv, z0⟩ := bytes_view hs
  obtain ⟨ws, w0, hw, z1⟩ := bytes_view h1
  have hl := big v0 z0
  have hl2 := big w0 z1
  have wn := w0.n
  unfold mosaiclaw04_HuffWrite.s
  intro b1 H2 c2 g1 g1'
  have k2 : Keep W.heap H2 := c2.keep (by simp)
  have y2 := k2.size
  refine twin_ok (v0.keep k2) (by omega) fun full m H4 T4 k4 f4 => ⟨Pv.keep k4 (by simp; omega), ?_⟩
  have y4 := k4.size
  refine New_x4 hc T4.view hv (by omega) fun p H7 P7 k7 => ⟨Pv.keep k7 (by simp; omega), ?_⟩
  have y7 := k7.size
  have kA := (k2.trans k4).trans k7
  refine rNew_x4 hc (v0.keep kA) (by omega) fun q H10 Q10 k10 => ⟨Pv.keep k10 (by simp; omega), ?_⟩
  have y10 := k10.size
  have kB := kA.trans k10
  have P10 := P7.keep k10
  refine Join.intro (fun b H' => b = false ∧ H10 = H') ?_ fun J hJ => ite_f (bnei (by rw [P10.err.1, Q10.err])) (hJ _ _ ⟨by rw [P10.err.2, Q10.err]; simp, rfl⟩)
  rintro _ _ ⟨rfl, rfl⟩
  refine ite_f rfl ?_
  rcases P10 with ⟨hz, t, tv, rfl, T10, fT⟩ | ⟨hz, rfl⟩
  rotate_left
  · exact ite_t rfl ⟨rfl, kB⟩
  rcases Q10 with ⟨_, r, sv, sc, rfl, R10, fR⟩ | ⟨hz', _⟩
  rotate_left
  · exact absurd hz hz'
  have hm : May4 c vs := may4 hz
  have lT := T10.lts
  have lR := R10.lts
  refine ite_f rfl (bits_New_ok fun k H16 S16 k16 g16 => ⟨Pv.keep k16 (by simp; omega), rNew_ok fun d H19 S19 k19 g19 => ⟨Pv.keep k19 (by have := k16.size; simp; omega), ?_⟩⟩)
  have y16 := k16.size
  have y19 := k19.size
  have e16 := S16.lts k (by simp)
  have kC := (kB.trans k16).trans k19
  have T19 := (T10.keep k16).keep k19
  have R19 := (R10.keep k16).keep k19
  have TW : Two H19 [k, d] k d [] := Two.new (S16.ch (k19.ch (F := [])) (by simp)) S19 (by omega)
  refine Join.intro (fun b H' => b = false ∧ H19 = H') ?_ fun J hJ => ?_
  rotate_left
  · obtain ⟨b, o, ha, hA⟩ := (v0.keep kC).get (List.getElem?_eq_getElem hm.pos)
    have vn := v0.n
    have := hm.pos
    refine ite_f rfl ⟨by omega, by omega, _, ha, ldI_of0 (by simpa using hA) rfl ?_⟩
    unfold huff_Table_Write.s
    refine Join.intro (fun b H' => b = true ∧ H19 = H') ?_ fun J2 hJ2 => ite_t rfl (hJ2 _ _ ⟨rfl, rfl⟩)
    rintro _ _ ⟨rfl, rfl⟩
    exact ite_t rfl (hJ _ _ ⟨rfl, rfl⟩)
  rintro _ _ ⟨rfl, rfl⟩
  refine ite_f rfl ?_
  refine Fix.intro (fun (x : Int) H' => ∃ (i : Nat) (F : List Nat) (l : List Bool), x = (i : Int) ∧ i ≤ ws.length ∧ Two H' F k d l ∧ (∀ b ∈ F, H10.size ≤ b) ∧ l.length ≤ 16 * i ∧ Ch (F := []) H10 H' ∧ Tab H' t tv c vs ∧ Rtb H' r sv sc c vs) (fun x _ => ws.length - x.toNat) ⟨0, _, _, rfl, by omega, TW, by simp; omega, by simp, (k16.trans k19).ch, T19, R19⟩ ?_
  rintro _ H27 ⟨i, F, l, rfl, hi, T2, fF, ll, c27, T27, R27⟩ rec hrec
  have k27 : Keep H10 H27 := c27.keep (by simp)
  by_cases hil : i < ws.length
  rotate_left
  · refine ite_f (decf (by omega)) ?_
    obtain ⟨s', t', h1, h2, h3, h4⟩ := T2
    have hb : l.length ≤ 140737488355000 := by omega
    refine Pad_ok h1 hb fun s2 H52 a1 c1 f1 => ?_
    have h2' := h2.ch c1 fun b hb => h3.symm b hb
    refine rPad_ok h2' hb fun t2 H54 a2 c2 f2 => ?_
    obtain ⟨F', T4, c4, f4⟩ := Two.both h2 h3 h1 h4 a1 c1 f1 a2 c2 f2
    obtain ⟨s5, t5, q1, q2, q3, q4⟩ := T4
    have hl5 : (l ++ List.replicate ((8 - l.length % 8) % 8) true).length ≤ 140737488355000 := by simp; omega
    refine Text_ok q1 (by omega) fun H56 k56 => rText_ok (q2.ch (k56.ch (F := [])) (by simp)) hl5 fun H58 k58 => ⟨beq_self_eq_true _, ?_⟩
    have kD : Keep H10 H54 := (k27.ch (F := [])).trans c4 (fun b hb => .inr (fF b hb)) |>.keep (by simp)
    exact ((kB.trans kD).trans k56).trans k58
  have kW : Keep W.heap H27 := kB.trans k27
  obtain ⟨x, hx⟩ : ∃ x, ws[i]? = some x := ⟨_, List.getElem?_eq_getElem hil⟩
  obtain ⟨b, o, ha, hA⟩ := (w0.keep kW).get hx
  have hwi := hw _ (List.mem_of_getElem? hx)
  refine ite_t (dect (by omega)) ⟨by omega, by omega, _, ha, ?_⟩
  rw [Int.toNat_natCast]
  refine ldI_of0 hA rfl ?_
  obtain ⟨s', t', h1, h2, h3, h4⟩ := T2
  have hb : l.length ≤ 140737488355000 := by omega
  -- both sinks stand alike: the round's end
  have fin : ∀ {H50 : Hp} {F' : List Nat} {l' : List Bool}, Two H50 F' k d l' → Ch F H27 H50 → (∀ b ∈ F', b ∈ F ∨ H27.size ≤ b) → l'.length ≤ l.length + 16 → rec (IntKind.wrap .i64 ((i : Int) + 1)) H50 := by
    intro H50 F' l' a c f g
    rw [show (i : Int) + 1 = ((i + 1 : Nat) : Int) from by omega, w64n (by omega)]
    have := k27.size
    refine hrec _ _ ⟨i + 1, F', l', rfl, by omega, a, fun b hb => ?_, by omega, ((k27.ch (F := [])).trans c fun b hb => .inr (fF b hb)), T27.ch c fun b hb hh => ?_, R27.ch c fun b hb hh => ?_⟩ (by simp; omega)
    · rcases f b hb with h | h
      · exact fF b h
      · omega
    · have := lT b hb; have := fF b hh; omega
    · have := lR b hb; have := fF b hh; omega
  have lens : ∀ {A B : Hp} {s2 t2 : Sl} {l' : List Bool} {J : Bool → Hp → Prop}, Snk A k s2 l' → Rsn A d t2 l' → l'.length ≤ 140737488355328 → J false A → bits_Sink_Len.s (some ⟨k, 0, none⟩) A (fun x47 H48 => mosaicref01_Sink_Len.s (some ⟨d, 0, none⟩) H48 (fun x49 H50 => J ((x47 != x49)) H50)) := by
    intro A B s2 t2 l' J a1 a2 hl hJ
    refine Len_ok a1 hl (rLen_ok a2 ?_)
    rw [bnei rfl]
    exact hJ
  by_cases hw0 : (lkp (prs c vs) x).1 = 0
  · refine Write_ok4 T27 hm h1 hwi hb (fun _ => ?_) fun h => absurd hw0 h
    refine Join.intro (fun b H' => b = false ∧ H27 = H') ?_ fun J hJ => ⟨by omega, by omega, ldI_of0 hA rfl (rWrite_ok4 R27 hm h2 hb (fun _ => ite_f rfl (lens (B := H27) h1 h2 (by omega) (hJ _ _ ⟨rfl, rfl⟩))) fun h => absurd hw0 h)⟩
    rintro _ _ ⟨rfl, rfl⟩
    exact ite_f rfl (fin ⟨s', t', h1, h2, h3, h4⟩ (Ch.refl _ _) (fun b hb => .inl hb) (by omega))
  · refine Write_ok4 T27 hm h1 hwi hb (fun h => absurd h hw0) fun _ s2 H37 a1 c1 f1 => ?_
    have cF : Ch F H27 H37 := c1.mono fun b hb => .inl ((h4 b).2 (.inl hb))
    have kk : Keep W.heap H37 := (kW.ch (F := [])).trans cF (fun b hb => .inr (by have := fF b hb; have := kB.size; omega)) |>.keep (by simp)
    obtain ⟨b', o', ha', hA'⟩ := (w0.keep kk).get hx
    rw [ha] at ha'
    obtain ⟨rfl, rfl⟩ : b = b' ∧ o = o' := by injection ha' with h; injection h with h1 h2; exact ⟨h1, h2⟩
    have R37 := R27.ch cF fun b hb hh => by have := lR b hb; have := fF b hh; omega
    have h2' := h2.ch c1 fun b hb => h3.symm b hb
    refine Join.intro (fun b H' => b = false ∧ ∃ F' l', Two H' F' k d l' ∧ Ch F H27 H' ∧ (∀ b ∈ F', b ∈ F ∨ H27.size ≤ b) ∧ l'.length ≤ l.length + 16) ?_ fun J hJ => ⟨by omega, by omega, ldI_of0 hA' rfl (rWrite_ok4 R37 hm h2' hb (fun h => absurd h hw0) fun _ t2 H46 a2 c2 f2 => ite_f rfl ?_)⟩
    · rintro _ H' ⟨rfl, F', l', q1, q2, q3, q4⟩
      exact ite_f rfl (fin q1 q2 q3 q4)
    · obtain ⟨F', T4, c4, f4⟩ := Two.both h2 h3 h1 h4 a1 c1 f1 a2 c2 f2
      have hlen : (l ++ bl (lkp (prs c vs) x).1 (lkp (prs c vs) x).2).length ≤ l.length + 16 := by
        have := (lkp_fit hm x).1
        rw [List.length_append, bl_len]; omega
      have T4' := T4
      obtain ⟨s5, t5, q1, q2, q3, q4⟩ := T4
      exact lens (B := H46) q1 q2 (by omega) (hJ _ _ ⟨rfl, F', _, T4', c4, f4, hlen⟩)
end Go.Proofs.Ytbefacccdaafeaa.G
