/- Of this text what the row needs. -/
import Derived.Test.YtmnoecpnoofdjaaQPenBackZ18h
import Derived.Test.YtmnoecpnoofdjaaQPenBackZ18p
import Derived.Test.YtmnoecpnoofdjaaQPenBackM02
import Derived.Test.YtmnoecpnoofdjaaQPenBackKPenBack
namespace Go.Proofs.Ytmnoecpnoofdjaa.G
open Go.RowKit
set_option linter.unusedVariables false
set_option linter.unusedSimpArgs false
set_option maxRecDepth 20000
theorem stuff_stL : ∀ {l : List Nat}, (∀ b ∈ l, b < 256) → (stuff l).map UInt8.ofNat = stL (l.map UInt8.ofNat)
 | [], _ => rfl
 | b :: l, h => by
  have hb := h b (by simp)
  have ih := stuff_stL (l := l) fun x hx => h x (by simp [hx])
  have e : stuff (b :: l) = (if b = 255 then [255, 0] else [b]) ++ stuff l := rfl
  rw [e, List.map_append, ih, List.map_cons, stL_cons]
  congr 1
  by_cases q : b = 255
  ·subst q; rfl
  ·rw [if_neg q, if_neg]
   ·rfl
   ·intro hh
    have := congrArg UInt8.toNat hh
    rw [UInt8.toNat_ofNat'] at this
    exact q (by simpa [Nat.mod_eq_of_lt hb] using this)
theorem stuff_free {l : List Nat} (h : ∀ b ∈ l, b < 256) : frL (By (bytesOf (stuff l))) = true := by
 have : By (bytesOf (stuff l)) = (stuff l).map UInt8.ofNat := by simp [By, bytesOf]
 rw [this, stuff_stL h]
 exact stL_free _
section
variable {j : Jb} {cs : List Cp} {ps : List Pa} {TV : Nat → List Nat} {BL : List (Ints 64)}
theorem jchk_of (h : oChk true j cs ps TV = 0) : jChk j cs ps TV = 0 := by
 obtain ⟨h1, h2, h3, h4, h5⟩ := ochk_no h
 have h2 := h2 rfl
 unfold jChk
 rw [if_neg (by omega), if_neg (by omega), if_neg (by omega)]
theorem zip_fst {α β : Type} : ∀ {a : List α} {b : List β}, a.length = b.length → (a.zip b).map (·.1) = a
 | [], _, _ => rfl
 | x :: a, [], h => by simp at h
 | x :: a, y :: b, h => by
  rw [List.zip_cons_cons, List.map_cons, zip_fst (by simpa using h)]
theorem zip_snd {α β : Type} : ∀ {a : List α} {b : List β}, a.length = b.length → (a.zip b).map (·.2) = b
 | [], [], _ => rfl
 | [], y :: b, h => by simp at h
 | x :: a, [], h => by simp at h
 | x :: a, y :: b, h => by
  rw [List.zip_cons_cons, List.map_cons, zip_snd (by simpa using h)]
theorem pen_rd {H : Hp} (J : JV H j cs ps TV) (hck : oChk true j cs ps TV = 0) (hln : (walkL j.w j.h cs ps j.f.toNat j.u.toNat).length = BL.length) (her : (mJ j cs ps BL).2 = 0) (hall : ∀ m ∈ (mJ j cs ps BL).1, hasM j TV ps m) (Z : List Bool) :
  ∃ P, rdL (jT j TV ps) (jR0 ps (bitsM j TV ps (mJ j cs ps BL).1 ++ Z)) (cat (jL j cs ps) j.u.toNat) = ⟨0, P, Z, BL.map (·.1), (bitsM j TV ps (mJ j cs ps BL).1).length⟩ := by
 have hz := jchk_of hck
 have hw := mrk_wr (j := j) (cs := cs) (ps := ps) (TV := TV) (fun q hq => jT_ok J hz hq) (pbJ j cs ps BL) (List.replicate ps.length 0) [] [] [] (Wr.nil fun p => by
  rw [List.getD_eq_getElem?_getD, List.getElem?_replicate]; split <;> rfl) (by simp) pbJ_in her hall
 obtain ⟨P', P, h1, h2, h3⟩ := hw
 refine ⟨P, ?_⟩
 have h3 := h3 Z
 have hl : ((walkL j.w j.h cs ps j.f.toNat j.u.toNat).map fun x => x.1.toNat).length = (BL.map (·.1)).length := by rw [List.length_map, List.length_map, hln]
 have e1 : (pbJ j cs ps BL).map (·.1) = cat (jL j cs ps) j.u.toNat := by
  rw [← walk_map]; exact zip_fst hl
 have e2 : (pbJ j cs ps BL).map (·.2) = BL.map (·.1) := zip_snd hl
 rw [List.nil_append, List.nil_append, List.nil_append, e1, e2] at h3
 exact h3
theorem same18_ok {H : Hp} {a b : Sl} {xs ys : List (Ints 64)} {Q : Bool → Hp → Prop} (ha : Own H 57 64 a (xs.flatMap cBl)) (hb : SlV H b 64 cBl ys) (hl : xs.length ≤ 140737488355328) (he : xs = ys) (h : Q true H) : mosaiclaw18_sameBlocks.s a b H Q := by
 subst he
 have na := ha.count cBl_len (by omega)
 have nb := hb.n
 unfold mosaiclaw18_sameBlocks.s
 refine ite_f (bnei (by omega)) ?_
 refine Fix.intro (fun (x : Int) H' => ∃ i : Nat, x = (i : Int) ∧ i ≤ xs.length ∧ H = H') (fun x _ => xs.length - x.toNat) ⟨0, rfl, by omega, rfl⟩ ?_
 rintro _ _ ⟨i, rfl, hi, rfl⟩ rec hrec
 by_cases hil : i < xs.length
 ·obtain ⟨x, hx⟩ : ∃ x, xs[i]? = some x := ⟨_, get_some hil⟩
  obtain ⟨p, hpa, hA⟩ := ha.at cBl_len (by omega) hx
  obtain ⟨q, o, hqb, hB⟩ := hb.get hx
  refine ite_t (dect (by omega)) ⟨by omega, by omega, _, hpa, x, hA, by omega, by omega, _, hqb, x, hB, ite_f (by simp) ?_⟩
  rw [show (i : Int) + 1 = ((i + 1 : Nat) : Int) from by omega, w64n (by omega)]
  exact hrec _ _ ⟨i + 1, rfl, by omega, rfl⟩ (by simp; omega)
 ·exact ite_f (decf (by omega)) h
theorem padd_ones8 {l : List (Bool × Nat)} {m : Nat} (h : l.map (·.1) = List.replicate m true) (hm : m < 8) : padd l = true := by
 have hl : l.length = m := by have := congrArg List.length h; simpa using this
 unfold padd
 rw [Bool.and_eq_true, List.all_eq_true]
 refine ⟨dect (by omega), fun x hx => ?_⟩
 have : x.1 ∈ l.map (·.1) := List.mem_map.2 ⟨x, hx, rfl⟩
 rw [h] at this
 exact (List.mem_replicate.1 this).2
def EncB (j : Jb) (cs : List Cp) (ps : List Pa) (TV : Nat → List Nat) (BL : List (Ints 64)) (r : ByteArray × Int) : Prop :=
 (r.2 ≠ 0 ∧ r.1 = ⟨#[]⟩) ∨ (Good8 j cs ps TV BL ∧ (∀ m ∈ (mJ j cs ps BL).1, hasM j TV ps m) ∧ (bitsM j TV ps (mJ j cs ps BL).1).length ≤ 2147483648 ∧ r = (text (padded8 (bitsM j TV ps (mJ j cs ps BL).1)), 0) ∧
  ∃ bs : List Nat, (∀ b ∈ bs, b < 256) ∧ padded8 (bitsM j TV ps (mJ j cs ps BL).1) = bs.flatMap (bl 8) ∧ text (padded8 (bitsM j TV ps (mJ j cs ps BL).1)) = bytesOf (stuff bs))
theorem Encode_b {H : Hp} {a1 : Sl} {Q : ByteArray × Int → Hp → Prop} (J : JV H j cs ps TV) (hb : SlV H a1 64 cBl BL) (hbl : BL.length ≤ 1048576) (hbv : ∀ X ∈ BL, ∀ v ∈ X.1, -32768 ≤ v ∧ v ≤ 32767)
  (h : ∀ r H', EncB j cs ps TV BL r → Keep H H' → Q r H') :
  pen_Encode.s j.g j.w j.h j.s j.t j.d0.1 j.d0.2 j.d1.1 j.d1.2 j.d2.1 j.d2.2 j.d3.1 j.d3.2 j.a0.1 j.a0.2 j.a1.1 j.a1.2 j.a2.1 j.a2.2 j.a3.1 j.a3.2 j.f j.u a1 H Q :=
 Encode_ok J hb hbl hbv (fun hn H' q => h _ H' (.inl ⟨hn, rfl⟩) q) (fun _ _ H' q => h _ H' (.inl ⟨(by decide), rfl⟩) q) (fun _ _ _ H' q => h _ H' (.inl ⟨(by decide), rfl⟩) q) (fun _ _ _ he H' q => h _ H' (.inl ⟨he, rfl⟩) q) fun e1 e2 e3 e4 e5 e6 H' q =>
  h _ H' (.inr ⟨⟨e1, e2, e4⟩, e3, e5, rfl, e6⟩) q
end
set_option maxHeartbeats 2000000 in
theorem PenBack_row (g w h : Int) (s t : Sl) (d0 : Cn) (e0 : Sl) (d1 : Cn) (e1 : Sl) (d2 : Cn) (e2 : Sl) (d3 : Cn) (e3 : Sl) (a0 : Cn) (f0 : Sl) (a1 : Cn) (f1 : Sl) (a2 : Cn) (f2 : Sl) (a3 : Cn) (f3 : Sl) (f u : Int) (bsl : Sl) (ahead behind : ByteArray) (W : World)
  (hg : 0 ≤ g ∧ g ≤ 255) (hw : -9223372036854775808 ≤ w ∧ w ≤ 9223372036854775807) (hh : -9223372036854775808 ≤ h ∧ h ≤ 9223372036854775807)
  (hs : SlH W.heap (some 1048576) 4 4 (X100 (some 1048576) W.heap) s) (ht : SlH W.heap (some 1048576) 16 3 (X76 (some 1048576) W.heap) t)
  (c0 : ∀ v ∈ d0.1, 0 ≤ v ∧ v ≤ 255) (z0 : SlH W.heap (some 1048576) 1 1 (X5 (some 1048576) W.heap) e0) (c1 : ∀ v ∈ d1.1, 0 ≤ v ∧ v ≤ 255) (z1 : SlH W.heap (some 1048576) 1 1 (X5 (some 1048576) W.heap) e1)
  (c2 : ∀ v ∈ d2.1, 0 ≤ v ∧ v ≤ 255) (z2 : SlH W.heap (some 1048576) 1 1 (X5 (some 1048576) W.heap) e2) (c3 : ∀ v ∈ d3.1, 0 ≤ v ∧ v ≤ 255) (z3 : SlH W.heap (some 1048576) 1 1 (X5 (some 1048576) W.heap) e3)
  (b0 : ∀ v ∈ a0.1, 0 ≤ v ∧ v ≤ 255) (y0 : SlH W.heap (some 1048576) 1 1 (X5 (some 1048576) W.heap) f0) (b1 : ∀ v ∈ a1.1, 0 ≤ v ∧ v ≤ 255) (y1 : SlH W.heap (some 1048576) 1 1 (X5 (some 1048576) W.heap) f1)
  (b2 : ∀ v ∈ a2.1, 0 ≤ v ∧ v ≤ 255) (y2 : SlH W.heap (some 1048576) 1 1 (X5 (some 1048576) W.heap) f2) (b3 : ∀ v ∈ a3.1, 0 ≤ v ∧ v ≤ 255) (y3 : SlH W.heap (some 1048576) 1 1 (X5 (some 1048576) W.heap) f3)
  (hf : -9223372036854775808 ≤ f ∧ f ≤ 9223372036854775807) (hu : -9223372036854775808 ≤ u ∧ u ≤ 9223372036854775807) (hbs : SlH W.heap (some 1048576) 128 64 (X57 (some 1048576) W.heap) bsl) (hah : ahead.size ≤ 1048576) (hbe : behind.size ≤ 1048576) (hm : Mx W.heap) :
  mosaiclaw18_PenBack.s g w h s t d0 e0 d1 e1 d2 e2 d3 e3 a0 f0 a1 f1 a2 f2 a3 f3 f u bsl ahead behind W.heap (fun r H' => r = true ∧ Keep W.heap H') := by
 obtain ⟨cs, ps, TV, J⟩ := job_view8 (j := ⟨g, w, h, s, t, (d0, e0), (d1, e1), (d2, e2), (d3, e3), (a0, f0), (a1, f1), (a2, f2), (a3, f3), f, u⟩) hs ht (by
  intro x hx
  simp only [Jb.sp, List.mem_cons, List.mem_nil_iff, or_false] at hx
  rcases hx with rfl | rfl | rfl | rfl | rfl | rfl | rfl | rfl
  ·exact ⟨c0, z0⟩
  ·exact ⟨c1, z1⟩
  ·exact ⟨c2, z2⟩
  ·exact ⟨c3, z3⟩
  ·exact ⟨b0, y0⟩
  ·exact ⟨b1, y1⟩
  ·exact ⟨b2, y2⟩
  ·exact ⟨b3, y3⟩) hf hu
 obtain ⟨BL, hbV, hbv, hbl⟩ := blocks_view8 hbs
 generalize hJ : (⟨g, w, h, s, t, (d0, e0), (d1, e1), (d2, e2), (d3, e3), (a0, f0), (a1, f1), (a2, f2), (a3, f3), f, u⟩ : Jb) = j at J
 have key : mosaiclaw18_PenBack.s j.g j.w j.h j.s j.t j.d0.1 j.d0.2 j.d1.1 j.d1.2 j.d2.1 j.d2.2 j.d3.1 j.d3.2 j.a0.1 j.a0.2 j.a1.1 j.a1.2 j.a2.1 j.a2.2 j.a3.1 j.a3.2 j.f j.u bsl ahead behind W.heap (fun r H' => r = true ∧ Keep W.heap H') := by
  clear hJ c0 c1 c2 c3 b0 b1 b2 b3 z0 z1 z2 z3 y0 y1 y2 y3 hs ht hg hw hh hf hu hbs
  have hju := J.hu
  have hbn := hbV.n
  unfold mosaiclaw18_PenBack.s
  intro p1 H2 c2 g1 g1'
  have k2 : Keep W.heap H2 := c2.keep (by simp)
  have y2 := k2.size
  refine awake18_ok fun H4 k4 => ⟨Pv.keep k4 (by simp; omega), ?_⟩
  have y4 := k4.size
  have kA := k2.trans k4
  have d1 := (hbV.keep kA).cells cBl_len cBl_ones
  refine ⟨BL.flatMap cBl, d1.1, d1.2, apS_list (xs := []) (ys := BL) (Own.nil _ _ _) cBl_len cBl_ones rfl (by omega) hbn (by simp; omega) (by omega) fun l7 H8 o8 c8 f8 => ?_⟩
  rw [List.nil_append] at o8
  have k8 : Keep H4 H8 := c8.keep (by simp [fp])
  have y8 := k8.size
  have kB := kA.trans k8
  refine ⟨Pv.keep k8 (by simp; omega), twin18_ok (J.keep kB) fun k H14 Jk sk k14 => ⟨Pv.keep k14 (by simp; omega), ?_⟩⟩
  have y14 := k14.size
  have kC := kB.trans k14
  refine Encode_b Jk ((o8.kp k14).view cBl_len (by omega)) hbl hbv fun x16 H17 r16 k17 => ⟨Pv.keep k17 (by simp; omega), ?_⟩
  have y17 := k17.size
  have kD := kC.trans k17
  rcases r16 with ⟨hne, hem⟩ | ⟨gd, hall, hbits, rfl, bs, hb256, hpad, htx⟩
  ·refine ite_t (bnet hne) (Join.intro (fun (b : Bool) H' => b = true ∧ H17 = H') ?_ fun J19 hJ19 => ite_t rfl (hJ19 _ _ ⟨by rw [hem]; exact beq_self_eq_true _, rfl⟩))
   rintro _ _ ⟨rfl, rfl⟩
   exact ⟨rfl, kD⟩
  dsimp only
  refine ite_f rfl ?_
  have eck := gd.ck
  have eln := gd.ln
  have eer := gd.er
  rw [sk.oChk] at eck
  rw [sk.walk] at eln
  rw [sk.mJ] at eer hall hbits hpad htx ⊢
  rw [sk.bitsM] at hbits hpad htx ⊢
  replace hall : ∀ m ∈ (mJ j cs ps BL).1, hasM j TV ps m := fun m hm => (sk.hasM m).1 (hall m hm)
  clear Jk sk gd
  generalize hlk : bitsM j TV ps (mJ j cs ps BL).1 = lk at hbits hpad htx ⊢
  rw [htx]
  have hfree := stuff_free hb256
  unfold padded8 at hpad
  generalize hm8' : (8 - lk.length % 8) % 8 = m at hpad
  have hm8 : m < 8 := by omega
  have hbl8 := congrArg List.length hpad
  rw [flat8_len, List.length_append, List.length_replicate] at hbl8
  have hsl := stuff_len bs
  have hts : (bytesOf (stuff bs)).size = (stuff bs).length := bytesOf_size _
  have hsb := stuff_byte hb256
  clear htx
  generalize htt : bytesOf (stuff bs) = tx at hts hfree ⊢
  have hzA : (ahead ++ tx).size = ahead.size + tx.size := ByteArray.size_append
  have hzB : (ahead ++ tx ++ behind).size = ahead.size + tx.size + behind.size := by rw [ByteArray.size_append, hzA]
  refine ⟨by omega, by omega, twin18_ok (J.keep kD) fun k H25 Jk sk k25 => ⟨Pv.keep k25 (by simp; omega), ?_⟩⟩
  have y25 := k25.size
  have kE := kD.trans k25
  have ew : IntKind.wrap .i64 ((ahead.size : Int) + (tx.size : Int)) = ((ahead.size + tx.size : Nat) : Int) := by rw [w64 (by omega)]; omega
  rw [ew]
  have lo2 : loOf (ahead ++ tx ++ behind).size (ahead.size : Int) = ahead.size := by unfold loOf; rw [hzB]; omega
  have hi2 : hiOf (ahead ++ tx ++ behind).size (ahead.size : Int) ((ahead.size + tx.size : Nat) : Int) = ahead.size + tx.size := by unfold hiOf; rw [lo2, hzB]; omega
  have hc1 : Cut (ahead ++ tx ++ behind) (ahead.size + tx.size) ahead.size bs (ahead.size + tx.size) := by
   rw [hts]
   exact cut_stuff bs ahead.size fun i y hy => by
    have := bytesOf_get hsb hy
    rw [htt] at this
    rw [byt_mid this.1, this.2]
  -- the job that is read is the one that was written
  rw [← sk.oChk] at eck
  rw [← sk.walk] at eln
  rw [← sk.mJ] at eer hall hlk
  rw [← sk.bitsM] at hlk
  replace hall : ∀ m ∈ (mJ k cs ps BL).1, hasM k TV ps m := fun m hm => (sk.hasM m).2 (hall m hm)
  have hz := jchk_of eck
  obtain ⟨hP, _, ff0, uu0, _⟩ := ochk_no eck
  have hku : k.u ≤ 1048576 := by
   have e1 := walk_len hP k.f.toNat k.u.toNat
   have e2 := Nat.mul_le_mul (Nat.le_refl k.u.toNat) (each_le hP).1
   omega
  refine Decode_okU (xs := bs) (e := ahead.size + tx.size) Jk (by omega) (by rw [hi2, lo2]; exact hc1) (fun _ => hku) (fun hz' => absurd hz hz') fun _ r un l hl hr sl BL' H28 o28 w28 f28 k28 => ⟨Pv.keep k28 (by simp; omega), ?_⟩
  rw [lo2] at hl
  have hlb : l.map (·.1) = lk ++ List.replicate m true := by rw [hl, remB_fst, hpad]
  rw [hlb] at hr
  have hL1 : (jRd k cs ps TV (lk ++ List.replicate m true) k.u.toNat).1 = rdL (jT k TV ps) (jR0 ps (lk ++ List.replicate m true)) (cat (jL k cs ps) k.u.toNat) := rdU_L _ _ _
  have hN := jRd_n (j := k) (cs := cs) (ps := ps) (TV := TV) (lk ++ List.replicate m true) k.u.toNat
  obtain ⟨P, hP'⟩ := pen_rd Jk eck eln eer hall (List.replicate m true)
  rw [hlk] at hP'
  rw [hr] at hL1 hN
  dsimp only at hL1 hN
  rw [hP'] at hL1
  have hun : un = k.u.toNat := hN.2.1 (by rw [hL1])
  subst hL1
  subst hun
  have hdrop : (l.drop lk.length).map (·.1) = List.replicate m true := by rw [List.map_drop, hlb, List.drop_left' rfl]
  have hst : jSt (⟨0, P, List.replicate m true, BL.map (·.1), lk.length⟩ : Rdg) l (decide (ahead.size + tx.size = hiOf (ahead ++ tx ++ behind).size (ahead.size : Int) ((ahead.size + tx.size : Nat) : Int))) = 1 := by
   unfold jSt
   rw [if_neg n00, if_pos ⟨padd_ones8 hdrop hm8, by rw [hi2]; exact dect rfl⟩]
  rw [hst, if_pos rfl] at w28
  rw [hst]
  have hBB : BL' = BL := ints_inj w28
  have y28 := k28.size
  intro b30 H32 c32 g30 g30'
  have k32 : Keep H28 H32 := c32.keep (by simp)
  have y32 := k32.size
  have kF := (kE.trans k28).trans k32
  have o32 := o28.kp k32
  refine ite_t rfl (Free_ok (hm.keep kF) (by omega) ⟨Pv.keep (Keep.refl _) (by simp; omega), ?_⟩)
  rw [hfree]
  refine ite_t rfl (ite_t rfl (ite_t rfl (ite_t (beqi (by show ((k.u.toNat : Nat) : Int) = j.u; rw [← sk.u]; omega)) (same18_ok o32 (hbV.keep kF) (by rw [hBB]; omega) hBB ⟨rfl, kF⟩))))
 subst hJ
 exact key
end Go.Proofs.Ytmnoecpnoofdjaa.G
