/- Of this text what the row needs. -/
import Derived.Test.YtdekmgcdijnjiaaQPenCostZ18b
namespace Go.Proofs.Ytdekmgcdijnjiaa.G
open Go.RowKit
set_option linter.unusedVariables false
set_option linter.unusedSimpArgs false
set_option maxRecDepth 20000
noncomputable def pbJ (j : Jb) (cs : List Cp) (ps : List Pa) (BL : List (Ints 64)) : List (Nat × List Int) := ((walkL j.w j.h cs ps j.f.toNat j.u.toNat).map fun x => x.1.toNat).zip (BL.map (·.1))
noncomputable def mJ (j : Jb) (cs : List Cp) (ps : List Pa) (BL : List (Ints 64)) : List Mk3 × Int := mrk (List.replicate ps.length 0) (pbJ j cs ps BL)
theorem rep_rng {n : Nat} : ∀ v ∈ List.replicate n (0 : Int), -32768 ≤ v ∧ v ≤ 32767 := fun v hv => by rw [List.mem_replicate] at hv; omega
section
variable {j : Jb} {cs : List Cp} {ps : List Pa} {BL : List (Ints 64)}
theorem pbJ_in : ∀ x ∈ pbJ j cs ps BL, x.2.length = 64 ∧ x.1 < ps.length := fun x hx => by
  unfold pbJ at hx
  have h1 := List.of_mem_zip (a := x.1) (b := x.2) hx
  obtain ⟨s, hs, h2⟩ := List.mem_map.1 h1.1
  obtain ⟨B, _, h3⟩ := List.mem_map.1 h1.2
  have := walkIn hs
  exact ⟨by rw [← h3]; exact B.2, by omega⟩
theorem mJ_all : (∀ m ∈ (mJ j cs ps BL).1, m.1 < ps.length ∧ syOk3 m.2.1 m.2.2) ∧ (mJ j cs ps BL).1.length ≤ 64 * BL.length := by
  obtain ⟨h1, h2⟩ := mrk_all (pbJ j cs ps BL) (List.replicate ps.length 0) rep_rng fun x hx => (pbJ_in x hx).1
  refine ⟨fun m hm => ?_, ?_⟩
  · obtain ⟨⟨x, hx, e⟩, q⟩ := h1 m hm
    exact ⟨by rw [← e]; exact (pbJ_in x hx).2, q⟩
  · have : (pbJ j cs ps BL).length ≤ BL.length := by unfold pbJ; rw [List.length_zip, List.length_map, List.length_map]; omega
    unfold mJ
    omega
end
section
variable {H : Hp} {j : Jb} {cs : List Cp} {ps : List Pa} {TV : Nat → List Nat}
set_option maxHeartbeats 2000000 in
theorem Encode_ok {a1 : Sl} {BL : List (Ints 64)} {Q : ByteArray × Int → Hp → Prop} (J : JV H j cs ps TV) (hb : SlV H a1 64 cBl BL) (hbl : BL.length ≤ 1048576) (hbv : ∀ X ∈ BL, ∀ v ∈ X.1, -32768 ≤ v ∧ v ≤ 32767)
    (h0 : oChk true j cs ps TV ≠ 0 → ∀ H', Keep H H' → Q (⟨#[]⟩, oChk true j cs ps TV) H')
    (h1 : oChk true j cs ps TV = 0 → (walkL j.w j.h cs ps j.f.toNat j.u.toNat).length ≠ BL.length → ∀ H', Keep H H' → Q (⟨#[]⟩, 252) H')
    (h2 : oChk true j cs ps TV = 0 → (walkL j.w j.h cs ps j.f.toNat j.u.toNat).length = BL.length → (∃ m ∈ (mJ j cs ps BL).1, ¬ hasM j TV ps m) → ∀ H', Keep H H' → Q (⟨#[]⟩, 43) H')
    (h3 : oChk true j cs ps TV = 0 → (walkL j.w j.h cs ps j.f.toNat j.u.toNat).length = BL.length → (∀ m ∈ (mJ j cs ps BL).1, hasM j TV ps m) → (mJ j cs ps BL).2 ≠ 0 → ∀ H', Keep H H' → Q (⟨#[]⟩, (mJ j cs ps BL).2) H')
    (h4 : oChk true j cs ps TV = 0 → (walkL j.w j.h cs ps j.f.toNat j.u.toNat).length = BL.length → (∀ m ∈ (mJ j cs ps BL).1, hasM j TV ps m) → (mJ j cs ps BL).2 = 0 → (bitsM j TV ps (mJ j cs ps BL).1).length ≤ 2147483648 →
      (∃ bs : List Nat, (∀ b ∈ bs, b < 256) ∧ bitsM j TV ps (mJ j cs ps BL).1 ++ List.replicate ((8 - (bitsM j TV ps (mJ j cs ps BL).1).length % 8) % 8) true = bs.flatMap (bl 8) ∧ text (bitsM j TV ps (mJ j cs ps BL).1 ++ List.replicate ((8 - (bitsM j TV ps (mJ j cs ps BL).1).length % 8) % 8) true) = bytesOf (stuff bs)) →
      ∀ H', Keep H H' → Q (text (bitsM j TV ps (mJ j cs ps BL).1 ++ List.replicate ((8 - (bitsM j TV ps (mJ j cs ps BL).1).length % 8) % 8) true), 0) H') :
    pen_Encode.s j.g j.w j.h j.s j.t j.d0.1 j.d0.2 j.d1.1 j.d1.2 j.d2.1 j.d2.2 j.d3.1 j.d3.2 j.a0.1 j.a0.2 j.a1.1 j.a1.2 j.a2.1 j.a2.2 j.a3.1 j.a3.2 j.f j.u a1 H Q := by
  unfold pen_Encode.s
  intro b1 H2 c2 g1 g1'
  have k2 : Keep H H2 := c2.keep (by simp)
  have y2 := c2.size
  have J2 := J.keep k2
  refine open_ok J2 (fun hn H4 k4 => ?_) fun hz b dl al ts us H4 dk htb fr k4 => ?_
  · intro b5 H7 c7 g5 g5'
    exact ite_t (bnet hn) (h0 hn H7 ((k2.trans k4).trans (c7.keep (by simp))))
  obtain ⟨od, oa, tl, ul, td, ta⟩ := htb rfl
  obtain ⟨hP, hR, f0, u0, fT⟩ := ochk_no hz
  obtain ⟨hC, frC, hL, hBd, hUs⟩ := prt_fr hP
  have y4 := k4.size
  intro b5 H7 c7 g5 g5'
  have k7 : Keep H4 H7 := c7.keep (by simp)
  have y7 := c7.size
  refine ite_f rfl (bits_New_ok fun k H9 S9 k9 gk => ⟨Pv.keep k9 (by simp; omega), ?_⟩)
  have y9 := k9.size
  have kl := S9.lts k (by simp)
  intro b11 H13 c13 g11 g11' q5 q11
  have k13 : Keep H9 H13 := c13.keep (by simp)
  have y13 := c13.size
  have kA : Keep H4 H13 := (k7.trans k9).trans k13
  have kH : Keep H H13 := (k2.trans k4).trans kA
  obtain ⟨hMa, hMl⟩ := mJ_all (j := j) (cs := cs) (ps := ps) (BL := BL)
  have fl : ∀ g ∈ b :: (fp dl ++ fp al), g < H4.size := fun g hg => by
    rcases List.mem_cons.1 hg with rfl | hg
    · exact dk.lt
    rcases List.mem_append.1 hg with hg | hg
    · exact od.fp_lt g hg
    · exact oa.fp_lt g hg
  have tdm : ∀ {f : Pa → Nat} {zs : List Nat}, TbL H2 H4 j TV ps f zs [] → TbM H.size H4.size H13 j TV ps f zs := fun {f zs} t i p u hp hu => by
    obtain ⟨q0, sv, q1, q2⟩ := t i p u hp hu
    exact ⟨q0, sv, q1.keep kA, fun x hx => by have := q2 x hx; omega⟩
  have es0 : Es H H13 j TV ps dl al ts us H4.size b b5 k b11 H13.size (mJ j cs ps BL).1 0 ⟨none, 0, 0⟩ :=
    ⟨kH, dk.keep kA, od.kp kA, oa.kp kA, tdm td, tdm ta, ⟨_, q5⟩, ⟨_, q11⟩, by simpa [bitsM] using S9.ch (k13.ch (F := [])) (by simp), by simp [bitsM], by omega, by simp [fp], fun g hg => ⟨by have := fr g hg; omega, fl g hg⟩, g5, by omega, by omega, by omega, by omega⟩
  refine each_ok (W := H) (C := hasM j TV ps) (S := fun m G A => ∃ sk, G = k :: fp sk ∧ H13.size ≤ A.size ∧ Es H A j TV ps dl al ts us H4.size b b5 k b11 H13.size (mJ j cs ps BL).1 m sk) (Zf := fun A => Keep H A) (G0 := [k]) (PB := pbJ j cs ps BL) (M := (mJ j cs ps BL).1) (e := (mJ j cs ps BL).2) (BL := BL) J kH (dk.keep kA) (by have := fr b (by simp); omega) hP f0 u0 fT hb (by omega) hbv rfl rfl rfl ⟨⟨none, 0, 0⟩, by simp [fp], Nat.le_refl _, es0⟩ ?_ ?_ ?_ ?_ ?_ ?_ ?_
  · rintro m G A ⟨sk, rfl, _, es⟩ g hg
    exact es.lts g hg
  · rintro m G A B F ⟨sk, rfl, hs, es⟩ c hF
    exact ⟨sk, rfl, by have := c.size; omega, es.ch c hF⟩
  · intro A B F hA c hF
    exact (hA.ch (F := [])).trans c (fun x hx => .inr (by have := hF x hx; have := kH.size; omega)) |>.keep (by simp)
  · rintro m G A p f x R hM ⟨sk, rfl, hs, es⟩ kA' hp hx hR0 hR1
    obtain ⟨q, hq⟩ : ∃ q, ps[p]? = some q := ⟨_, get_some hp⟩
    refine .inl ⟨_, _, rfl, Encode1_ok es hs hq tl ul hL.2 hM hx (by omega) (fun sk' A' hin es' c' g' => ?_) fun A' hin kA'' c' => hR1 A' hin kA'' c'⟩
    exact hR0 (k :: fp sk') A' hin ⟨sk', rfl, by have := c'.size; omega, es'⟩ c' g'
  · intro hne H15 _ k15
    exact ite_t rfl (h1 hz hne H15 k15)
  · intro heq hex H15 _ k15
    exact ite_t rfl (h2 hz heq hex H15 k15)
  · rintro heq hall Gs H15 ⟨sk, rfl, hs, es⟩ k15
    by_cases he : (mJ j cs ps BL).2 = 0
    rotate_left
    · exact ite_t (bnet he) (h3 hz heq hall he H15 k15)
    refine ite_f (bnei he) ?_
    obtain ⟨T11, f11⟩ := es.f11
    have sn := es.sn
    have hbl' := es.bl
    rw [List.take_length] at sn hbl'
    refine ldP_i f11 rfl (Pad_ok sn (by omega) fun s' H19 n19 c19 f19 => ?_)
    obtain ⟨o1, o2, o3, o4, o5, o6⟩ := es.fo
    have f11' := f11.ch c19 (fun hh => by
      rcases List.mem_cons.1 hh with r | r
      · omega
      · have := es.fr _ r; omega)
    have hp8 : (bitsM j TV ps (mJ j cs ps BL).1 ++ List.replicate ((8 - (bitsM j TV ps (mJ j cs ps BL).1).length % 8) % 8) true).length % 8 = 0 := by rw [List.length_append, List.length_replicate]; omega
    have hoct := snk_octs n19 hp8
    have k19 : Keep H H19 := (k15.ch (F := [])).trans c19 (fun g hg => .inr (es.lts g hg).2.1) |>.keep (by simp)
    refine ldP_i f11' rfl (Text_ok n19 (by rw [List.length_append, List.length_replicate]; omega) fun H23 k23 => h4 hz heq hall he (by omega) hoct H23 (k19.trans k23))
end
end Go.Proofs.Ytdekmgcdijnjiaa.G
