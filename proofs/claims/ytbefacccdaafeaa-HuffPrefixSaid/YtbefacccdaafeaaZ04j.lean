/- Layer 4: HuffCodes: a table's codes beside the document's. -/
import Derived.Test.YtbefacccdaafeaaZ04r
import Derived.Test.YtbefacccdaafeaaZ04c
import Derived.Test.YtbefacccdaafeaaKHuffCodes
namespace Go.Proofs.Ytbefacccdaafeaa.G
open Go.RowKit
set_option linter.unusedVariables false
set_option linter.unusedSimpArgs false
set_option maxRecDepth 20000

/-- What lies on the heap while codes are gone over: the blocks of r, left, the answer, the function and the count. -/
structure CK (W : Hp) (r t : Nat) (a2 : Int) (b1 b3 b5 pa b29 : Nat) (n : Int) (H : Hp) : Prop where
  k1 : Bk H b1 35 [.pointer (some ⟨r, 0, none⟩)]
  k3 : Bk H b3 3 [.int .i64 a2]
  k5 : ∃ v, Bk H b5 4 [.bool v]
  ka : Bk H pa 32 [.pointer (some ⟨t, 0, none⟩)]
  k29 : Bk H b29 3 [.int .i64 n]
  kp : Keep W H
  lt : W.size ≤ b1 ∧ b1 < b3 ∧ b3 < b5 ∧ b5 < pa ∧ pa < b29
section
variable {W H H' : Hp} {r t : Nat} {a2 : Int} {b1 b3 b5 pa b29 : Nat} {n m : Int}
theorem CK.keep (h : CK W r t a2 b1 b3 b5 pa b29 n H) (k : Keep H H') : CK W r t a2 b1 b3 b5 pa b29 n H' :=
  ⟨h.k1.keep k, h.k3.keep k, h.k5.imp fun v b => b.keep k, h.ka.keep k, h.k29.keep k, h.kp.trans k, h.lt⟩
theorem CK.above {l : Nat} (h : CK W r t a2 b1 b3 b5 pa b29 n H) (k : Same H H' l) (hl : b29 < l) : CK W r t a2 b1 b3 b5 pa b29 n H' := by
  have := h.lt
  exact ⟨h.k1.same k (by omega), h.k3.same k (by omega), h.k5.imp fun v b => b.same k (by omega), h.ka.same k (by omega), h.k29.same k (by omega), h.kp.same k (by omega), h.lt⟩
theorem CK.set (h : CK W r t a2 b1 b3 b5 pa b29 n H) (b : Bk H' b29 3 [.int .i64 m]) (k : Same H H' b29) : CK W r t a2 b1 b3 b5 pa b29 m H' := by
  have := h.lt
  exact ⟨h.k1.same k (by omega), h.k3.same k (by omega), h.k5.imp fun v b => b.same k (by omega), h.ka.same k (by omega), b, h.kp.same k (by omega), h.lt⟩
end
section
variable {c : Cn} {vs : List Nat} {t r : Nat} {s sv sc : Sl}
theorem codes_ok {a2 : Int} {H0 : Hp} {Q : Bool → Hp → Prop} (T : Tab H0 t s c vs) (R : Rtb H0 r sv sc c vs) (hm : May4 c vs) (hv : ∀ v ∈ vs, v < 256) (hQ : ∀ H', Keep H0 H' → Q true H') :
    mosaiclaw04_codes.s (some ⟨t, 0, none⟩) (some ⟨r, 0, none⟩) a2 H0 Q := by
  unfold mosaiclaw04_codes.s
  intro b1 H2 c2 g1 g1' b3 H4 c4 g3 g3' b5 H6 c6 g5 g5' hb5
  have k2 : Keep H0 H2 := c2.keep (by simp)
  have k4 : Keep H2 H4 := c4.keep (by simp)
  have k6 : Keep H4 H6 := c6.keep (by simp)
  have k06 := (k2.trans k4).trans k6
  have y2 := k2.size
  have y4 := k4.size
  have y6 := k6.size
  have T6 := T.keep k06
  have R6 := R.keep k06
  refine Fix.intro (fun (x : Int) H' => ∃ i : Nat, x = (i : Int) ∧ i ≤ 256 ∧ H6 = H') (fun x _ => 256 - x.toNat) ⟨0, rfl, by omega, rfl⟩ ?_
  rintro _ _ ⟨i, rfl, hi, rfl⟩ rec hrec
  by_cases h256 : i < 256
  · refine ite_t (dect (by omega)) ?_
    rw [wu8n h256]
    refine Code_ok T6 hm h256 ⟨fun _ _ => rfl, rCode_ok R6 hm ⟨fun _ _ => rfl, Join.intro (fun b H' => b = false ∧ H6 = H') ?_ fun J hJ => ?_⟩⟩
    · rintro _ _ ⟨rfl, rfl⟩
      refine ite_f rfl ?_
      rw [show (i : Int) + 1 = ((i + 1 : Nat) : Int) from by omega, w64n (by omega)]
      exact hrec _ _ ⟨i + 1, rfl, by omega, rfl⟩ (by simp; omega)
    · exact ite_f (bnei rfl) (hJ _ _ ⟨bnei rfl, rfl⟩)
  refine ite_f (decf (by omega)) ?_
  clear hrec rec hi h256 i
  unfold huff_Table_All.s
  intro pa H27 c27 g27 g27' hpa
  have k27 : Keep H6 H27 := c27.keep (by simp)
  refine ⟨Pv.keep k27 (by simp; omega), ?_⟩
  intro b29 H31 c31 g29 g29' hk1 hk3 hk29
  have k31 : Keep H27 H31 := c31.keep (by simp)
  have y27 := k27.size
  have y31 := k31.size
  have ck : CK H0 r t a2 b1 b3 b5 pa b29 0 H31 := ⟨hk1, hk3, ⟨_, (hb5.keep k27).keep k31⟩, hpa.keep k31, hk29, (k06.trans k27).trans k31, by omega, by omega, by omega, by omega, by omega⟩
  clear hk1 hk3 hk29 hpa hb5 T6 R6
  have hTl := T.lts
  have hRl := R.lts
  have hlt := ck.lt
  have hpl := prs_len hm
  have hmost := hm.most
  have hcn : sc.n = vs.length := by
    have := (R.oc.view cW_len (by omega)).n
    rwa [cds_len, hm.len] at this
  have hvn : sv.n = vs.length := (R.ov.view cB_len (by omega)).n
  -- a round's comparison
  have cmp : ∀ {i : Nat} {x : Int × ByteArray} {H : Hp} {J : Bool → Hp → Prop}, ((prs c vs).map itm)[i]? = some x → CK H0 r t a2 b1 b3 b5 pa b29 i H → J false H →
      ldI .i64 H (⟨b29, 0, none⟩ : Addr) (fun x54 => ldP H (⟨b1, 0, none⟩ : Addr) (fun x56 => someA x56 (fun p58 => ldL H (p58.add 1) (fun x60 => if decide ((x60.n : Int) ≤ x54) = true then (J (true) H) else (ldP H (⟨b1, 0, none⟩ : Addr) (fun x62 => someA x62 (fun p64 => ldL H (p64.add 0) (fun x66 => ldI .i64 H (⟨b29, 0, none⟩ : Addr) (fun x68 => 0 ≤ x68 ∧ x68 < (x66.n : Int) ∧ someA x66.a (fun p72 => ldI .u8 H (p72.add (Int.toNat x68 * 1)) (fun x74 => if (x.1 != x74) = true then (J (true) H) else (ldP H (⟨b1, 0, none⟩ : Addr) (fun x76 => someA x76 (fun p78 => ldL H (p78.add 1) (fun x80 => ldI .i64 H (⟨b29, 0, none⟩ : Addr) (fun x82 => 0 ≤ x82 ∧ x82 < (x80.n : Int) ∧ someA x80.a (fun p86 => ldS H (p86.add (Int.toNat x82 * 1)) (fun x88 => J ((!(x.2.toList == x88.toList))) H)))))))))))))))))) := by
    intro i x H J hx hc hJ
    have Rh := R.keep hc.kp
    rw [List.getElem?_map] at hx
    cases hp : (prs c vs)[i]? with
    | none => rw [hp] at hx; cases hx
    | some q =>
      obtain ⟨v, n, w⟩ := q
      rw [hp] at hx
      injection hx with hx
      subst hx
      obtain ⟨q1, q2⟩ := prs_of hp
      have hi := (List.getElem?_eq_some_iff.1 q1).1
      obtain ⟨b, o, ha, hA⟩ := (Rh.ov.view cB_len (by omega)).get q1
      obtain ⟨b', o', ha', hA'⟩ := (Rh.oc.view cW_len (by omega)).get q2
      refine ldI_i hc.k29 rfl (ldP_i hc.k1 rfl ⟨_, rfl, ldL_a Rh.bk rfl (ite_f (decf (by omega)) (ldP_i hc.k1 rfl ⟨_, rfl, ldL_a Rh.bk rfl (ldI_i hc.k29 rfl ⟨by omega, by omega, _, ha, ?_⟩)⟩))⟩)
      rw [Int.toNat_natCast]
      refine ldI_of0 hA rfl (ite_f (bnei rfl) (ldP_i hc.k1 rfl ⟨_, rfl, ldL_a Rh.bk rfl (ldI_i hc.k29 rfl ⟨by omega, by omega, _, ha', ?_⟩)⟩))
      rw [Int.toNat_natCast]
      have := hA'.2 0 _ rfl
      rw [Addr.add, if_pos rfl] at this
      refine ⟨_, this, ?_⟩
      show J (!((tx (bl n w)).toList == (tx (bl n w)).toList)) H
      rw [beq_self_eq_true]
      exact hJ
  refine Join.intro (fun Ds H' => (∃ n, CK H0 r t a2 b1 b3 b5 pa b29 n H') ∧ Dfr Ds H' ∧ ∀ D ∈ Ds, b29 < D) ?_ fun J hJ => ?_
  · rintro Ds H34 ⟨⟨n, hc⟩, hd, hd'⟩
    refine st_i hc.k29 (by simp) fun H35 b35 s35 => ?_
    have hc35 := hc.set b35 s35
    have hd35 : Dfr Ds H35 := Dfr.ch s35.ch hd fun D h => by have := hd' D h; simp; omega
    have hz := hc35.k29.lt
    refine Rg_i fun rr H39 hr k39 s39 hD hl => ?_
    have hc39 := hc35.keep k39
    refine All_seq4 (T.keep hc39.kp) hm hv hc39.ka _ _ [H35.size + 1, b29] (fun i H' => CK H0 r t a2 b1 b3 b5 pa b29 i H' ∧ Lp H' (H35.size + 1) rr ∧ Dfr (H35.size :: Ds) H') (fun _ => False) ?_ ?_ ?_ ?_ ?_ (fun _ h => h.elim)
    · intro k hk
      have h0 : k ∉ t :: fp s := fun hh => by
        have := hTl k hh
        simp at hk; omega
      simp at hk
      refine ⟨by omega, fun hh => ?_⟩
      rcases List.mem_cons.1 hh with rfl | hh
      · omega
      · exact h0 hh
    · exact ⟨by simpa using hc39, hl, hD, fun h => by have := hd35.lt _ h; omega, hd35.keep k39⟩
    · exact fun i H H' ⟨h1, h2, h3⟩ k => ⟨h1.keep k, h2.ch (k.ch (F := [])) (by simp), h3.keep k⟩
    · rintro i x H42 K hx ⟨h1, h2, h3⟩ c42 hT hF
      refine ⟨h2, h2, Up_s h2 fun H45 s45 l45 => ?_⟩
      have z1 := h1.k29.lt
      have z2 := h2.lt
      have h45 := h1.above s45 (by omega)
      have dS : ∀ {A B}, Same A B (H35.size + 1) → Dfr (H35.size :: Ds) A → Dfr (H35.size :: Ds) B := fun s h => Dfr.ch s.ch h fun D h' => by
        rcases List.mem_cons.1 h' with rfl | h'
        · simp
        · have := hd35.lt D h'
          simp; omega
      refine Join.intro (fun b H' => b = false ∧ H' = H45) ?_ ?_
      · rintro _ _ ⟨rfl, rfl⟩
        refine ite_f rfl (ldI_i h45.k29 rfl (st_i h45.k29 (by simp) fun H52 b52 s52 => ?_))
        have l52 := l45.ch s52.ch (by simp; omega)
        have hil := (List.getElem?_eq_some_iff.1 hx).1
        rw [List.length_map, hpl] at hil
        rw [show (i : Int) + 1 = ((i + 1 : Nat) : Int) from by omega, w64n (by omega)] at b52
        have h52 := h45.set b52 s52
        refine ⟨l52, hT _ ⟨(h52.above putL_same (by omega)), putL_lp l52, dS putL_same (Dfr.ch s52.ch (dS s45 h3) fun D h' => ?_)⟩ ?_⟩
        · rcases List.mem_cons.1 h' with rfl | h'
          · simp; omega
          · have := hd' D h'
            simp; omega
        · exact ((s45.ch.mono (by simp)).trans s52.ch (by simp)).trans putL_same.ch (by simp)
      · exact fun J hJ => cmp hx h45 (hJ _ _ ⟨rfl, rfl⟩)
    · rintro H43 ⟨h1, h2, h3⟩ c43
      refine .inl ⟨h2, Up_s h2 fun H91 s91 _ => ?_⟩
      have z1 := h1.k29.lt
      have d91 : Dfr (H35.size :: Ds) H91 := Dfr.ch s91.ch h3 fun D h' => by
        rcases List.mem_cons.1 h' with rfl | h'
        · simp
        · have := hd35.lt D h'
          simp; omega
      have h91 := h1.above s91 (by omega)
      have R91 := R.keep h91.kp
      obtain ⟨v, b5'⟩ := h91.k5
      refine ldI_i h91.k29 rfl (ldP_i h91.k1 rfl ⟨_, rfl, ldL_a R91.bk rfl (st_i b5' (by simp) fun H101 b101 s101 => ?_)⟩)
      rw [List.length_map, hpl, hcn, beqi rfl] at b101
      refine tkD_ok (Dfr.ch s101.ch d91 fun D h' => ?_) fun H102 c102 z102 => ?_
      · rcases List.mem_cons.1 h' with rfl | h'
        · simp; omega
        · have := hd' D h'
          simp; omega
      · have hDs : ∀ k ∈ H35.size :: Ds, b29 < k := fun k hk => by
          rcases List.mem_cons.1 hk with rfl | hk
          · omega
          · exact hd' k hk
        refine ldB_i (b101.ch c102 fun hk => by have := hDs _ hk; omega) rfl (hQ _ ?_)
        refine (((h91.kp.same s101 (by omega)).ch (F := [])).trans c102 fun k hk => .inr ?_).keep (by simp)
        have := hDs k hk
        omega
  · have hz := ck.k29.lt
    refine Rg_i fun rr H39 hr k39 s39 hD hl => ?_
    have hc39 := ck.keep k39
    refine All_seq4 (T.keep hc39.kp) hm hv hc39.ka _ _ [H31.size + 1, b29] (fun i H' => CK H0 r t a2 b1 b3 b5 pa b29 i H' ∧ Lp H' (H31.size + 1) rr ∧ Dfr [H31.size] H')
      (fun H' => (∃ n, CK H0 r t a2 b1 b3 b5 pa b29 n H') ∧ Lp H' (H31.size + 1) (dn rr (.exit 2)) ∧ Dfr [H31.size] H') ?_ ?_ ?_ ?_ ?_ ?_
    · intro k hk
      have h0 : k ∉ t :: fp s := fun hh => by
        have := hTl k hh
        simp at hk; omega
      simp at hk
      refine ⟨by omega, fun hh => ?_⟩
      rcases List.mem_cons.1 hh with rfl | hh
      · omega
      · exact h0 hh
    · exact ⟨by simpa using hc39, hl, hD, by simp, trivial⟩
    · exact fun i H H' ⟨h1, h2, h3⟩ k => ⟨h1.keep k, h2.ch (k.ch (F := [])) (by simp), h3.keep k⟩
    · rintro i x H42 K hx ⟨h1, h2, h3⟩ c42 hT hF
      refine ⟨h2, h2, Up_s h2 fun H45 s45 l45 => ?_⟩
      have z1 := h1.k29.lt
      have z2 := h2.lt
      have h45 := h1.above s45 (by omega)
      have dS : ∀ {A B}, Same A B (H31.size + 1) → Dfr [H31.size] A → Dfr [H31.size] B := fun s h => Dfr.ch s.ch h (by simp)
      refine ldI_i h45.k29 rfl (ldI_i h45.k3 rfl ?_)
      by_cases he : (i : Int) = a2
      · refine ite_t (beqi he) ⟨l45, hF _ ⟨⟨_, h45.above putL_same (by omega)⟩, putL_lp l45, dS putL_same (dS s45 h3)⟩ ?_⟩
        exact (s45.ch.mono (by simp)).trans putL_same.ch (by simp)
      refine ite_f (beqf he) (Join.intro (fun b H' => b = false ∧ H' = H45) ?_ ?_)
      · rintro _ _ ⟨rfl, rfl⟩
        refine ite_f rfl (ldI_i h45.k29 rfl (st_i h45.k29 (by simp) fun H52 b52 s52 => ?_))
        have l52 := l45.ch s52.ch (by simp; omega)
        have hil := (List.getElem?_eq_some_iff.1 hx).1
        rw [List.length_map, hpl] at hil
        rw [show (i : Int) + 1 = ((i + 1 : Nat) : Int) from by omega, w64n (by omega)] at b52
        have h52 := h45.set b52 s52
        refine ⟨l52, hT _ ⟨(h52.above putL_same (by omega)), putL_lp l52, dS putL_same (Dfr.ch s52.ch (dS s45 h3) (by simp; omega))⟩ ?_⟩
        exact ((s45.ch.mono (by simp)).trans s52.ch (by simp)).trans putL_same.ch (by simp)
      · exact fun J hJ => cmp hx h45 (hJ _ _ ⟨rfl, rfl⟩)
    · rintro H43 ⟨h1, h2, h3⟩ c43
      have z1 := h1.k29.lt
      refine .inl ⟨h2, Up_s h2 fun H91 s91 _ => hJ _ _ ⟨⟨_, h1.above s91 (by omega)⟩, Dfr.ch s91.ch h3 (by simp), by simp; omega⟩⟩
    · rintro H43 ⟨⟨n, h1⟩, h2, h3⟩ c43
      have z1 := h1.k29.lt
      refine .inr (.inl ⟨h2, Up_s h2 fun H91 s91 _ => hJ _ _ ⟨⟨_, h1.above s91 (by omega)⟩, Dfr.ch s91.ch h3 (by simp), by simp; omega⟩⟩)
end

/-! ### the law -/
/-- A table of the program, made from block L on, or none. -/
def One4 (L : Nat) (H : Hp) (p : Option Addr × Int) (c : Cn) (vs : List Nat) : Prop :=
  (Chk4 c vs = 0 ∧ ∃ t tv, p = (some ⟨t, 0, none⟩, 0) ∧ Tab H t tv c vs ∧ ∀ b ∈ t :: fp tv, L ≤ b) ∨ (Chk4 c vs ≠ 0 ∧ p = (none, Chk4 c vs))
/-- A table of the document, made from block L on, or none. -/
def rOne4 (L : Nat) (H : Hp) (q : Option Addr × Int) (c : Cn) (vs : List Nat) : Prop :=
  (Chk4 c vs = 0 ∧ ∃ r sv sc, q = (some ⟨r, 0, none⟩, 0) ∧ Rtb H r sv sc c vs ∧ ∀ b ∈ r :: (fp sv ++ fp sc), L ≤ b) ∨ (Chk4 c vs ≠ 0 ∧ q = (none, Chk4 c vs))
theorem One4.ch {L : Nat} {H H' : Hp} {p : Option Addr × Int} {c : Cn} {vs : List Nat} {F : List Nat} (h : One4 L H p c vs) (k : Ch F H H') (hF : ∀ b ∈ F, b < L) : One4 L H' p c vs := by
  rcases h with ⟨h0, t, tv, h1, h2, h3⟩ | h
  · exact .inl ⟨h0, t, tv, h1, h2.ch k fun b hb hf => by have := h3 b hb; have := hF b hf; omega, h3⟩
  · exact .inr h
theorem One4.keep {L : Nat} {H H' : Hp} {p : Option Addr × Int} {c : Cn} {vs : List Nat} (h : One4 L H p c vs) (k : Keep H H') : One4 L H' p c vs := h.ch (k.ch (F := [])) (by simp)
theorem rOne4.ch {L : Nat} {H H' : Hp} {p : Option Addr × Int} {c : Cn} {vs : List Nat} {F : List Nat} (h : rOne4 L H p c vs) (k : Ch F H H') (hF : ∀ b ∈ F, b < L) : rOne4 L H' p c vs := by
  rcases h with ⟨h0, t, tv, sc, h1, h2, h3⟩ | h
  · exact .inl ⟨h0, t, tv, sc, h1, h2.ch k fun b hb hf => by have := h3 b hb; have := hF b hf; omega, h3⟩
  · exact .inr h
theorem rOne4.keep {L : Nat} {H H' : Hp} {p : Option Addr × Int} {c : Cn} {vs : List Nat} (h : rOne4 L H p c vs) (k : Keep H H') : rOne4 L H' p c vs := h.ch (k.ch (F := [])) (by simp)
theorem One4.err {L : Nat} {H : Hp} {p : Option Addr × Int} {c : Cn} {vs : List Nat} (h : One4 L H p c vs) : p.2 = Chk4 c vs ∧ p.1.isNone = !(Chk4 c vs == 0) := by
  rcases h with ⟨h0, t, tv, rfl, _⟩ | ⟨h0, rfl⟩
  · exact ⟨h0.symm, by rw [beqi h0]; rfl⟩
  · exact ⟨rfl, by rw [beqf h0]; rfl⟩
theorem rOne4.err {L : Nat} {H : Hp} {p : Option Addr × Int} {c : Cn} {vs : List Nat} (h : rOne4 L H p c vs) : p.2 = Chk4 c vs := by
  rcases h with ⟨h0, t, tv, sc, rfl, _⟩ | ⟨h0, rfl⟩
  · exact h0.symm
  · rfl
theorem New_x4 {c : Cn} {s : Sl} {vs : List Nat} {H : Hp} {Q : Option Addr × Int → Hp → Prop} (hc : cOk c) (hs : SlV H s 1 cB vs) (hv : ∀ v ∈ vs, v < 256) (hl : vs.length ≤ 140737488355328)
    (h : ∀ p H', One4 H.size H' p c vs → Keep H H' → Q p H') : huff_New.s c s H Q :=
  New_ok4 hc hs hv hl (fun h0 H' k => h _ H' (.inr ⟨h0, rfl⟩) k) fun h0 t tv H' T k hf => h _ H' (.inl ⟨h0, t, tv, rfl, T, hf⟩) k
theorem rNew_x4 {c : Cn} {s : Sl} {vs : List Nat} {H : Hp} {Q : Option Addr × Int → Hp → Prop} (hc : cOk c) (hs : SlV H s 1 cB vs) (hl : vs.length ≤ 140737488355328)
    (h : ∀ p H', rOne4 H.size H' p c vs → Keep H H' → Q p H') : mosaicref04_New.s c s H Q :=
  rNew_ok4 hc hs hl (fun h0 H' k => h _ H' (.inr ⟨h0, rfl⟩) k) fun h0 r sv sc H' T k hf => h _ H' (.inl ⟨h0, r, sv, sc, rfl, T, hf⟩) k
theorem codes_x {L L' : Nat} {H : Hp} {p q : Option Addr × Int} {c : Cn} {vs : List Nat} {a2 : Int} {Q : Bool → Hp → Prop} (hp : One4 L H p c vs) (hq : rOne4 L' H q c vs) (h0 : Chk4 c vs = 0) (hv : ∀ v ∈ vs, v < 256) (hQ : ∀ H', Keep H H' → Q true H') : mosaiclaw04_codes.s p.1 q.1 a2 H Q := by
  rcases hp with ⟨_, t, tv, rfl, T, _⟩ | ⟨h, _⟩
  · rcases hq with ⟨_, r, sv, sc, rfl, R, _⟩ | ⟨h, _⟩
    · exact codes_ok T R (may4 h0) hv hQ
    · exact absurd h0 h
  · exact absurd h0 h

/-! ### the law -/
/-- The cells of a twin are written over. -/
theorem over_ok {full m : Sl} {vs : List Nat} {H : Hp} {x : Int} {P : Hp → Hp → Prop} {Q : Hp → Prop} (ht : Tw H full m vs) (hl : vs.length + 12 ≤ 140737488355328) (hP : ∀ A B, Ch (fp full) A B → B.size = A.size → H.size ≤ A.size → P A B) (hQ : ∀ H', Ch (fp full) H H' → Q H') :
    ∃ k32, Fix (fun (rec37 : Int → Hp → Prop) (s34 : Int) (H35 : Hp) => if decide (s34 < (m.n : Int)) = true then (0 ≤ s34 ∧ s34 < (m.n : Int) ∧ someA m.a (fun p40 => st H35 (p40.add (Int.toNat s34 * 1)) (.int .u8 x) (fun H42 => P H35 H42 ∧ (rec37 ((IntKind.wrap .i64 (s34 + 1))) H42)))) else Q H35) k32 (0) H := by
  have hv := (ht.1.view cB_len (by omega))
  have hvn := hv.n
  simp at hvn
  have hm : m = ⟨full.a, vs.length, full.c⟩ := by rw [ht.2, slS_zero]; simp
  rcases ht.1 with ⟨h1, h2⟩ | ⟨b, sp, ha, hb, hln, hsp, hle⟩
  · rw [h1] at hvn
    simp at hvn
  subst hm
  simp only
  have hcl : ((vs ++ List.replicate 12 77).flatMap cB ++ sp).length = full.n + sp.length := by rw [List.length_append, fm_len cB_len]; simp; omega
  refine Fix.intro (fun (x : Int) H' => ∃ (i : Nat) (cs : List Value), x = (i : Int) ∧ i ≤ vs.length ∧ Bk H' b 5 cs ∧ cs.length = full.n + sp.length ∧ Ch (fp full) H H') (fun x _ => vs.length - x.toNat) ⟨0, _, rfl, by omega, hb, hcl, Ch.refl _ _⟩ ?_
  rintro _ H1 ⟨i, cs, rfl, hi, b1, l1, c1⟩ rec hrec
  by_cases hil : i < vs.length
  · refine ite_t (dect (by omega)) ⟨by omega, by omega, _, ha, ?_⟩
    rw [Int.toNat_natCast]
    refine st_a b1 (by omega) fun H2 b2 s2 => ?_
    have hs : Ch (fp full) H1 H2 := s2.ch.mono (by simp [fp, ha])
    refine ⟨hP _ _ hs s2.size c1.size, ?_⟩
    rw [show (i : Int) + 1 = ((i + 1 : Nat) : Int) from by omega, w64n (by omega)]
    exact hrec _ _ ⟨i + 1, _, rfl, by omega, b2, by simp [l1], c1.same hs⟩ (by simp; omega)
  · exact ite_f (decf (by omega)) (hQ _ c1)
theorem HuffCodes_row (c : Cn) (s : Sl) (d : Cn) (s2 : Sl) (a2 : Int) (W : World) (hc : ∀ v ∈ c.1, 0 ≤ v ∧ v ≤ 255) (hs : SlH W.heap none 1 1 (X5 none W.heap) s) (hd : ∀ v ∈ d.1, 0 ≤ v ∧ v ≤ 255) (hs2 : SlH W.heap none 1 1 (X5 none W.heap) s2) (ha2 : -9223372036854775808 ≤ a2 ∧ a2 ≤ 9223372036854775807) :
    mosaiclaw04_HuffCodes.s c s d s2 a2 W.heap (fun r H' => r = true ∧ Keep W.heap H') := by
  have big : ∀ {s : Sl} {vs : List Nat}, SlV W.heap s 1 cB vs → (s.c = 0 ∨ szL none 1 s.c) → vs.length ≤ 140737488351232 := fun {s vs} v z => by
    have n := v.n
    have c := v.c
    rcases z with z | z
    · omega
    · have : s.c * 1 ≤ 140737488351232 := z
      omega
  obtain ⟨vs, v0, hv, z0⟩ := bytes_view hs
  obtain ⟨ws, w0, hw, z1⟩ := bytes_view hs2
  have hl := big v0 z0
  have hl2 := big w0 z1
  unfold mosaiclaw04_HuffCodes.s
  intro b1 H2 c2 g1 g1' b3 H4 c4 g3 g3'
  have k2 : Keep W.heap H2 := c2.keep (by simp)
  have k4 := k2.trans (c4.keep (by simp))
  have y2 := k2.size
  have y4 := c4.size
  refine twin_ok (v0.keep k4) (by omega) fun f1 m1 H6 T6 k6 q6 => ⟨Pv.keep k6 (by simp; omega), ?_⟩
  have y6 := k6.size
  intro b8 H10 c10 g8 g8'
  have k10 := (k4.trans k6).trans (c10.keep (by simp))
  have y10 := c10.size
  have T10 := T6.ch c10 (by simp)
  refine twin_ok (w0.keep k10) (by omega) fun f2 m2 H12 U12 k12 q12 => ⟨Pv.keep k12 (by simp; omega), ?_⟩
  have y12 := k12.size
  intro b14 H16 c16 g14 g14'
  have y16 := c16.size
  have k16 := (k10.trans k12).trans (c16.keep (by simp))
  have T16 := (T10.keep k12).ch c16 (by simp)
  have U16 := U12.ch c16 (by simp)
  have lt1 := T6.1.fp_lt
  have lt2 := U12.1.fp_lt
  refine New_x4 hc T16.view hv (by omega) fun p H18 P18 k18 => ⟨Pv.keep k18 (by simp; omega), ?_⟩
  have y18 := k18.size
  have U18 := U16.keep k18
  refine New_x4 hd U18.view hw (by omega) fun u H21 V21 k21 => ⟨Pv.keep k21 (by simp; omega), ?_⟩
  have y21 := k21.size
  have k21' := (k16.trans k18).trans k21
  refine rNew_x4 hc (v0.keep k21') (by omega) fun r H24 R24 k24 => ⟨Pv.keep k24 (by simp; omega), ?_⟩
  have y24 := k24.size
  refine rNew_x4 hd (w0.keep (k21'.trans k24)) (by omega) fun q H27 S27 k27 => ⟨Pv.keep k27 (by simp; omega), ?_⟩
  have y27 := k27.size
  have k27' := (k21'.trans k24).trans k27
  have P27 := ((P18.keep k21).keep k24).keep k27
  have V27 := (V21.keep k24).keep k27
  have R27 := R24.keep k27
  have T27 := (((T16.keep k18).keep k21).keep k24).keep k27
  have U27 := ((U18.keep k21).keep k24).keep k27
  refine Join.intro (fun b H' => b = false ∧ Keep H27 H') ?_ fun J hJ => ?_
  rotate_left
  · refine ite_f (bnei (by rw [P27.err.1, R27.err])) (ite_f (bnei (by rw [V27.err.1, S27.err])) (ite_f ?_ (ite_f ?_ ?_)))
    · rw [P27.err.2, R27.err]; simp
    · rw [V27.err.2, S27.err]; simp
    refine kept_ok (v0.keep k27') T27 (by omega) fun H78 k78 => ⟨Pv.keep k78 (by simp; omega), ite_f rfl ?_⟩
    have y78 := k78.size
    exact kept_ok (w0.keep (k27'.trans k78)) (U27.keep k78) (by omega) fun H81 k81 => ⟨Pv.keep k81 (by simp; omega), hJ _ _ ⟨rfl, k78.trans k81⟩⟩
  rintro _ H31 ⟨rfl, k31⟩
  have y31 := k31.size
  have P31 := P27.keep k31
  have V31 := V27.keep k31
  have R31 := R27.keep k31
  have S31 := S27.keep k31
  refine ite_f rfl (over_ok (T27.keep k31) (by omega) (fun A B cc _ hA => Pv.ch cc fun b hb => ⟨by simp at hb; omega, fun hh => by have := lt1 b hh; simp at hb; omega⟩) fun H47 c47 => ?_)
  have y47 := c47.size
  have U47 := (U27.keep k31).ch c47 fun b hb hh => by have := lt1 b hh; have := q12 b hb; omega
  refine over_ok U47 (by omega) (fun A B cc _ hA => Pv.ch cc fun b hb => ⟨by simp at hb; omega, fun hh => by have := lt2 b hh; simp at hb; omega⟩) fun H58 c58 => ?_
  have P58 := (P31.ch c47 fun b hb => by have := lt1 b hb; omega).ch c58 fun b hb => by have := lt2 b hb; omega
  have V58 := (V31.ch c47 fun b hb => by have := lt1 b hb; omega).ch c58 fun b hb => by have := lt2 b hb; omega
  have R58 := (R31.ch c47 fun b hb => by have := lt1 b hb; omega).ch c58 fun b hb => by have := lt2 b hb; omega
  have S58 := (S31.ch c47 fun b hb => by have := lt1 b hb; omega).ch c58 fun b hb => by have := lt2 b hb; omega
  have k58 : Keep W.heap H58 := (((k27'.trans k31).ch (F := [])).trans c47 fun b hb => .inr (by have := q6 b hb; omega)).trans c58 (fun b hb => .inr (by have := q12 b hb; omega)) |>.keep (by simp)
  refine Join.intro (fun b H' => b = (decide (Chk4 c vs = 0) && decide (Chk4 d ws = 0)) ∧ H58 = H') ?_ fun J hJ => ?_
  rotate_left
  · rw [P58.err.2]
    by_cases h1 : Chk4 c vs = 0
    · refine ite_t (by rw [beqi h1]; rfl) ?_
      rw [V58.err.2]
      by_cases h2 : Chk4 d ws = 0
      · rw [beqi h2]; exact hJ _ _ ⟨by rw [dect h1, dect h2]; rfl, rfl⟩
      · rw [beqf h2]; exact hJ _ _ ⟨by rw [dect h1, decf h2]; rfl, rfl⟩
    · exact ite_f (by rw [beqf h1]; rfl) (hJ _ _ ⟨by rw [decf h1]; rfl, rfl⟩)
  rintro _ _ ⟨rfl, rfl⟩
  by_cases h1 : Chk4 c vs = 0
  · by_cases h2 : Chk4 d ws = 0
    · refine ite_t (by rw [dect h1, dect h2]; rfl) ?_
      refine Join.intro (fun b H' => b = true ∧ Keep H58 H') ?_ fun J hJ => ?_
      · rintro _ H61 ⟨rfl, k61⟩
        refine Join.intro (fun b H' => b = true ∧ Keep H58 H') ?_ fun J hJ => ?_
        · rintro _ H64 ⟨rfl, k64⟩
          exact ⟨rfl, k58.trans k64⟩
        · exact ite_t rfl (codes_x (P58.keep k61) (R58.keep k61) h1 hv fun H' k' => hJ _ _ ⟨rfl, k61.trans k'⟩)
      · exact codes_x P58 R58 h1 hv fun H' k' => ite_t rfl (codes_x (V58.keep k') (S58.keep k') h2 hw fun H'' k'' => hJ _ _ ⟨rfl, k'.trans k''⟩)
    · refine ite_f (by rw [dect h1, decf h2]; rfl) (ite_f (by rw [P58.err.2, beqi h1]; rfl) ?_)
      exact codes_x P58 R58 h1 hv fun H' k' => ite_t rfl (ite_t (by rw [V58.err.2, beqf h2]; rfl) ⟨rfl, k58.trans k'⟩)
  · refine ite_f (by rw [decf h1]; rfl) (ite_t (by rw [P58.err.2, beqf h1]; rfl) ?_)
    by_cases h2 : Chk4 d ws = 0
    · refine ite_f (by rw [V58.err.2, beqi h2]; rfl) ?_
      exact codes_x V58 S58 h2 hw fun H' k' => ⟨rfl, k58.trans k'⟩
    · exact ite_t (by rw [V58.err.2, beqf h2]; rfl) ⟨rfl, k58⟩
end Go.Proofs.Ytbefacccdaafeaa.G
