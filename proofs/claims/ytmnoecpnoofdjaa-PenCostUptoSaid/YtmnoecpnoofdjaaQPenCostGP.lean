/- Of this text what the row needs. -/
import Derived.Test.YtmnoecpnoofdjaaQPenCostGH
import Derived.Test.YtmnoecpnoofdjaaRows
import Derived.SizedLaws
import Derived.JoinedCond
import Derived.ProofKit
import Derived.ChangeOld
import Derived.Carry
namespace Go.Proofs.Ytmnoecpnoofdjaa.G
open Go.RowKit
set_option linter.unusedVariables false
set_option linter.unusedSimpArgs false
def Sz {H : Type} (m : Option Nat) (P : Program) (t : TypeId) (d : DataW H) : Prop := match m with | none => ∀ x ∈ d.weights P t, x ≤ reachBytes | some n => Rows.uptoBulk d ≤ n
def szL (m : Option Nat) (by_ n : Nat) : Prop := match m with | none => n * by_ ≤ reachBytes | some b => n + 1 ≤ b
theorem bulk_mem {H : Type} {d : DataW H} : ∀ {l : List (DataW H)}, d ∈ l → Rows.uptoBulk d ≤ Rows.uptoBulkAll l
  | x :: r, h => by
    simp only [Rows.uptoBulkAll]
    rcases List.mem_cons.1 h with rfl | h
    · omega
    · have := bulk_mem h; omega
theorem bulk_one {H : Type} (d : DataW H) : 1 ≤ Rows.uptoBulk d := by
  cases d with
  | lit l => cases l <;> simp [Rows.uptoBulk]
  | _ => simp [Rows.uptoBulk]
theorem bulk_len {H : Type} : ∀ l : List (DataW H), l.length ≤ Rows.uptoBulkAll l
  | [] => by simp [Rows.uptoBulkAll]
  | x :: r => by
    have := bulk_one x
    have := bulk_len r
    simp only [Rows.uptoBulkAll, List.length_cons]; omega
theorem weights_all {H : Type} {P : Program} {e : TypeId} : ∀ {l : List (DataW H)} {d : DataW H}, d ∈ l → ∀ x ∈ d.weights P e, x ∈ DataW.weightsAll P e l
  | y :: r, d, h, x, hx => by
    simp only [DataW.weightsAll, List.mem_append]
    rcases List.mem_cons.1 h with rfl | h
    · exact .inl hx
    · exact .inr (weights_all h x hx)
theorem sz_slice {H : Type} {m : Option Nat} {P : Program} {t e : TypeId} {es sp : List (DataW H)} (ht : P.underlying t = some (.slice e)) (h : Sz m P t (.slice es sp)) : szL m (P.bytesOf e) (es.length + sp.length) ∧ ∀ d, d ∈ es ∨ d ∈ sp → Sz m P e d := by
  cases m with
  | none =>
    unfold Sz at h
    unfold DataW.weights at h
    simp only [ht] at h
    refine ⟨h _ (by simp), fun d hd x hx => h x ?_⟩
    simp only [List.mem_cons, List.mem_append]
    rcases hd with hd | hd
    · exact .inr (.inl (weights_all hd x hx))
    · exact .inr (.inr (weights_all hd x hx))
  | some n =>
    simp only [Sz, Rows.uptoBulk] at h
    have h1 := bulk_len es
    have h2 := bulk_len sp
    refine ⟨by simp only [szL]; omega, fun d hd => ?_⟩
    simp only [Sz]
    rcases hd with hd | hd <;> have := bulk_mem hd <;> omega
theorem sz_struct {H : Type} {m : Option Nat} {P : Program} {t : TypeId} {fs : Array Field} {ps : List (DataW H)} (ht : P.underlying t = some (.struct fs)) (h : Sz m P t (.agg ps)) : ∀ (j : Nat) f d, fs[j]? = some f → ps[j]? = some d → Sz m P f.type d := by
  intro j f d hf hd
  cases m with
  | none =>
    unfold Sz at h
    unfold DataW.weights at h
    simp only [ht] at h
    exact fun x hx => h x (DataW.weights_mem_each (ts := fs.toList.map (·.type)) (j := j) (by simp [hf]) hd x hx)
  | some n =>
    simp only [Sz, Rows.uptoBulk] at h ⊢
    have := bulk_mem (List.mem_of_getElem? hd)
    omega
theorem sz_array {H : Type} {m : Option Nat} {P : Program} {t e : TypeId} {n : Nat} {ps : List (DataW H)} (ht : P.underlying t = some (.array n e)) (h : Sz m P t (.agg ps)) : ∀ d ∈ ps, Sz m P e d := by
  intro d hd
  cases m with
  | none =>
    unfold Sz at h
    unfold DataW.weights at h
    simp only [ht] at h
    exact fun x hx => h x (weights_all hd x hx)
  | some n =>
    simp only [Sz, Rows.uptoBulk] at h ⊢
    have := bulk_mem hd
    omega
def Rd (P : Program) (W : World) (m : Option Nat) (t : TypeId) (cs : List Value) : Prop := ∃ (H : Type) (enc : TypeId × Value → H) (fuel : Nat) (x : DataW H × List MemPlace), DataW.trod enc P W 0 (fun _ => true) true fuel t cs = some x ∧ Sz m P t x.1
section
variable {P : Program} {W : World} {m : Option Nat} {t e : TypeId} {cs : List Value}
theorem Rd.of {H : Type} {enc : TypeId × Value → H} {v : Value} {d : DataW H} {ps : List MemPlace} (h : DataW.Trod enc P W 0 (fun _ => true) true t v d ps) (hs : Sz m P t d) : Rd P W m t v.cells.toList := by
  obtain ⟨f, hf⟩ := h
  exact ⟨_, _, f, _, hf, hs⟩
theorem rd_int {k : IntKind} (ht : P.underlying t = some (.int k)) (h : Rd P W m t cs) : ∃ n, cs = [.int k n] ∧ (Lit.int k n).wf = true := by
  obtain ⟨H, enc, fuel, x, h, hsz⟩ := h
  cases fuel with
  | zero => simp [DataW.trod] at h
  | succ fuel =>
    unfold DataW.trod at h
    rw [ht] at h
    split at h <;> simp_all
def SlR (P : Program) (W : World) (m : Option Nat) (e : TypeId) (s : Sl) : Prop :=
  (s.a = none ∧ s.n = 0 ∧ s.c = 0) ∨ (∃ p, s.a = some p ∧ s.n ≤ s.c ∧ szL m (P.bytesOf e) s.c ∧ ∀ i, i < s.c → ∃ xs, W.cells? 0 (p.add (i * P.cellsOf e)) (P.cellsOf e) = some xs ∧ Rd P W m e xs)
theorem mapM_get {α β : Type} {f : α → Option β} : ∀ {l : List α} {r : List β}, l.mapM f = some r → r.length = l.length ∧ ∀ (j : Nat) (x : α), l[j]? = some x → ∃ y, f x = some y ∧ r[j]? = some y
  | [], r, h => by
    simp at h; subst h
    exact ⟨rfl, fun j x hx => by simp at hx⟩
  | a :: l, r, h => by
    rw [List.mapM_cons] at h
    cases ha : f a with
    | none => simp [ha] at h
    | some b =>
      cases hl : l.mapM f with
      | none => simp [ha, hl] at h
      | some q =>
        simp [ha, hl] at h
        subst h
        obtain ⟨h1, h2⟩ := mapM_get hl
        refine ⟨by simp [h1], fun j x hx => ?_⟩
        cases j with
        | zero => simp at hx; subst hx; exact ⟨b, ha, rfl⟩
        | succ j => simpa using h2 j x (by simpa using hx)
theorem mapM_some {α β : Type} {f : α → Option β} {l : List α} {r : List β} (h : l.mapM f = some r) (x : α) (hx : x ∈ l) : ∃ y, f x = some y := by
  obtain ⟨j, hj⟩ := List.mem_iff_getElem?.1 hx
  obtain ⟨y, hy, _⟩ := (mapM_get h).2 j x hj
  exact ⟨y, hy⟩
theorem rd_slice (ht : P.underlying t = some (.slice e)) (h : Rd P W m t cs) : ∃ s : Sl, cs = [.slice s.a s.n s.c] ∧ SlR P W m e s := by
  obtain ⟨H, enc, fuel, x, h, hsz⟩ := h
  cases fuel with
  | zero => simp [DataW.trod] at h
  | succ fuel =>
    unfold DataW.trod at h
    rw [ht] at h
    split at h <;> try (simp_all; done)
    · rename_i h1
      exact ⟨⟨none, 0, 0⟩, rfl, .inl ⟨rfl, rfl, rfl⟩⟩
    · rename_i e' a len cap h1
      simp only [Option.some.injEq, TypeDesc.slice.injEq] at h1
      subst h1
      simp only at h
      split at h
      · rename_i hc
        simp only [if_true] at h
        cases h2 : (List.range len).mapM fun i => (W.cells? 0 (a.add (i * P.cellsOf e)) (P.cellsOf e)).bind (DataW.trod enc P W 0 (fun _ => true) true fuel e) with
        | none => simp [h2] at h
        | some elems =>
          cases h3 : (List.range (cap - len)).mapM fun j => (W.cells? 0 (a.add ((len + j) * P.cellsOf e)) (P.cellsOf e)).bind (DataW.trod enc P W 0 (fun _ => true) true fuel e) with
          | none => simp [h2, h3] at h
          | some rest =>
            simp [h2, h3] at h
            subst h
            obtain ⟨g1, g2⟩ := sz_slice ht hsz
            obtain ⟨l2, m2⟩ := mapM_get h2
            obtain ⟨l3, m3⟩ := mapM_get h3
            simp at g1 l2 l3
            rw [l2, l3, show len + (cap - len) = cap from by omega] at g1
            refine ⟨⟨some a, len, cap⟩, rfl, .inr ⟨a, rfl, hc.2.1, g1, fun i hi => ?_⟩⟩
            have key : ∃ y, (W.cells? 0 (a.add (i * P.cellsOf e)) (P.cellsOf e)).bind (DataW.trod enc P W 0 (fun _ => true) true fuel e) = some y ∧ (y ∈ elems ∨ y ∈ rest) := by
              by_cases hil : i < len
              · obtain ⟨y, hy, hm⟩ := m2 i i (by simp [hil])
                exact ⟨y, hy, .inl (List.mem_of_getElem? hm)⟩
              · have hi' : i < cap := hi
                obtain ⟨y, hy, hm⟩ := m3 (i - len) (i - len) (by rw [List.getElem?_range (by omega)])
                rw [show len + (i - len) = i from by omega] at hy
                exact ⟨y, hy, .inr (List.mem_of_getElem? hm)⟩
            obtain ⟨y, hy, hm⟩ := key
            cases hx : W.cells? 0 (a.add (i * P.cellsOf e)) (P.cellsOf e) with
            | none => simp [hx] at hy
            | some xs =>
              rw [hx] at hy
              refine ⟨xs, rfl, _, _, _, _, hy, g2 _ ?_⟩
              rcases hm with hm | hm
              · exact .inl (List.mem_map_of_mem hm)
              · exact .inr (List.mem_map_of_mem hm)
      · cases h
theorem rd_struct {fs : Array Field} (ht : P.underlying t = some (.struct fs)) (h : Rd P W m t cs) : cs.length = P.cellsOf t ∧ ∀ (j : Nat) (f : Field), fs[j]? = some f → Rd P W m f.type ((cs.drop f.offset).take (P.cellsOf f.type)) := by
  obtain ⟨H, enc, fuel, x, h, hsz⟩ := h
  cases fuel with
  | zero => simp [DataW.trod] at h
  | succ fuel =>
    unfold DataW.trod at h
    rw [ht] at h
    split at h <;> try (simp_all; done)
    rename_i c0 o0 c1 fs' h1
    simp only [Option.some.injEq, TypeDesc.struct.injEq] at h1
    subst h1
    split at h
    · rename_i hl
      refine ⟨hl, fun j f hj => ?_⟩
      cases h2 : fs.toList.mapM (fun (f : Field) => DataW.trod enc P W 0 (fun _ => true) true fuel f.type ((c0.drop f.offset).take (P.cellsOf f.type))) with
      | none => simp [h2] at h
      | some xs =>
        simp [h2] at h
        subst h
        obtain ⟨y, hy, hm⟩ := (mapM_get h2).2 j f (by simpa using hj)
        exact ⟨_, _, _, _, hy, sz_struct ht hsz j f _ hj (by simp [hm])⟩
    · cases h
theorem rd_array {n : Nat} (ht : P.underlying t = some (.array n e)) (h : Rd P W m t cs) : cs.length = P.cellsOf t ∧ ∀ i, i < n → Rd P W m e ((cs.drop (i * P.cellsOf e)).take (P.cellsOf e)) := by
  obtain ⟨H, enc, fuel, x, h, hsz⟩ := h
  cases fuel with
  | zero => simp [DataW.trod] at h
  | succ fuel =>
    unfold DataW.trod at h
    rw [ht] at h
    split at h <;> try (simp_all; done)
    rename_i c0 o0 c1 n' e' h1
    simp only [Option.some.injEq, TypeDesc.array.injEq] at h1
    obtain ⟨rfl, rfl⟩ := h1
    split at h
    · rename_i hl
      refine ⟨hl, fun i hi => ?_⟩
      cases h2 : (List.range n).mapM fun i => DataW.trod enc P W 0 (fun _ => true) true fuel e ((c0.drop (i * P.cellsOf e)).take (P.cellsOf e)) with
      | none => simp [h2] at h
      | some xs =>
        simp [h2] at h
        subst h
        obtain ⟨y, hy, hm⟩ := (mapM_get h2).2 i i (by simp [hi])
        exact ⟨_, _, _, _, hy, sz_array ht hsz _ (List.mem_map_of_mem (List.mem_of_getElem? hm))⟩
    · cases h
theorem rd_field {fs : Array Field} {j o sz : Nat} {f : Field} {T : TypeId} (hf : ∀ (j : Nat) (f : Field), fs[j]? = some f → Rd P W m f.type ((cs.drop f.offset).take (P.cellsOf f.type))) (hj : fs[j]? = some f) (ht : f.type = T) (ho : f.offset = o) (hz : P.cellsOf T = sz) : Rd P W m T ((cs.drop o).take sz) := by
  subst ht ho hz
  exact hf j f hj
theorem arr_ints {n : Nat} {k : IntKind} {lo hi : Int} (he : P.cellsOf e = 1) (hi' : ∀ xs, Rd P W m e xs → ∃ m, xs = [.int k m] ∧ (Lit.int k m).wf = true) (hb : ∀ m, (Lit.int k m).wf = true → lo ≤ m ∧ m ≤ hi) (hl : cs.length = n)
    (hf : ∀ i, i < n → Rd P W m e ((cs.drop (i * P.cellsOf e)).take (P.cellsOf e))) : ∃ x : Ints n, cs = ints k x.1 ∧ ∀ v ∈ x.1, lo ≤ v ∧ v ≤ hi := by
  subst hl
  have key : ∀ c ∈ cs, ∃ m, c = .int k m ∧ lo ≤ m ∧ m ≤ hi := by
    intro c hc
    obtain ⟨i, hi, rfl⟩ := List.getElem_of_mem hc
    have := hf i hi
    rw [he, Nat.mul_one, List.drop_eq_getElem_cons hi] at this
    obtain ⟨m, hm, hw⟩ := hi' _ this
    rw [List.take_succ_cons, List.take_zero] at hm
    exact ⟨m, by injection hm, hb m hw⟩
  clear hf
  induction cs with
  | nil => exact ⟨⟨[], rfl⟩, rfl, by simp⟩
  | cons c cs ih =>
    obtain ⟨m, rfl, h1⟩ := key c (by simp)
    obtain ⟨x, hx, hv⟩ := ih (fun c hc => key c (by simp [hc]))
    refine ⟨⟨m :: x.1, by simp [x.2]⟩, by simp only [ints, List.map_cons]; rw [← ints, ← hx], fun v hv' => ?_⟩
    rcases List.mem_cons.1 hv' with rfl | h
    · exact h1
    · exact hv v h
def pieces (cs : List Value) : Nat → List Nat → List (List Value)
  | _, [] => []
  | o, s :: l => (cs.drop o).take s :: pieces cs (o + s) l
theorem split_cells (cs : List Value) : ∀ (szs : List Nat) (o : Nat), cs.length = o + szs.sum → cs.drop o = (pieces cs o szs).flatten
  | [], o, h => by simp at h; simp [pieces, List.drop_eq_nil_of_le, h]
  | s :: l, o, h => by
    rw [pieces, List.flatten_cons, ← split_cells cs l (o + s) (by simp at h; omega), ← List.drop_drop, List.take_append_drop]
def SlH (H : Hp) (m : Option Nat) (by_ sz : Nat) (X : List Value → Prop) (s : Sl) : Prop :=
  (s.n = 0 ∧ s.c = 0) ∨ (∃ b o, s.a = some ⟨b, o, none⟩ ∧ 0 < s.c ∧ s.n ≤ s.c ∧ szL m by_ s.c ∧ ∀ i, i < s.c → ∃ xs, X xs ∧ xs.length = sz ∧ ldA H ⟨b, o + i * sz, none⟩ xs)
theorem cells_ldA {a : Addr} {n : Nat} {xs : List Value} (h : W.cells? 0 a n = some xs) (hs : a.spot = none) : xs.length = n ∧ ldA W.heap a xs := by
  unfold World.cells? at h
  rw [if_pos (Nat.zero_le _)] at h
  have key : ∀ (l : List Nat) (r : List Value), l.mapM (fun i => W.cell? (a.add i)) = some r → r.length = l.length ∧ ∀ (j : Nat) (i : Nat) (v : Value), l[j]? = some i → r[j]? = some v → W.cell? (a.add i) = some v := by
    intro l
    induction l with
    | nil => intro r hr; simp at hr; subst hr; simp
    | cons x l ih =>
      intro r hr
      rw [List.mapM_cons] at hr
      cases hx : W.cell? (a.add x) with
      | none => simp [hx] at hr
      | some v =>
        cases hl : l.mapM (fun i => W.cell? (a.add i)) with
        | none => simp [hx, hl] at hr
        | some q =>
          simp [hx, hl] at hr
          subst hr
          obtain ⟨h1, h2⟩ := ih q hl
          refine ⟨by simp [h1], fun j i u hj hu => ?_⟩
          cases j with
          | zero => simp at hj hu; subst hj; subst hu; exact hx
          | succ j => exact h2 j i u (by simpa using hj) (by simpa using hu)
  obtain ⟨h1, h2⟩ := key _ _ h
  refine ⟨by simpa using h1, hs, fun j v hv => ?_⟩
  have hj : j < n := by
    have := (List.getElem?_eq_some_iff.1 hv).1
    rw [h1] at this
    simpa using this
  exact h2 j j v (by simp [hj]) hv
theorem slH_of {X : List Value → Prop} {s : Sl} {sz by_ : Nat} (h : SlR P W m e s) (hz : P.cellsOf e = sz) (hb : P.bytesOf e = by_) (hp : 0 < sz) (hX : ∀ xs, Rd P W m e xs → X xs) : SlH W.heap m by_ sz X s := by
  subst hz hb
  rcases h with ⟨h1, h2, h3⟩ | ⟨p, h1, h2, h3, h4⟩
  · exact .inl ⟨h2, h3⟩
  · rcases Nat.eq_zero_or_pos s.c with h0 | h0
    · exact .inl ⟨by omega, h0⟩
    · have hs : p.spot = none := by
        obtain ⟨xs, hx, _⟩ := h4 0 h0
        rw [Nat.zero_mul] at hx
        cases hsp : p.spot with
        | none => rfl
        | some q =>
          exfalso
          have hc : W.cell? ((p.add 0).add 0) = none := by
            rw [cell_eq]
            simp only [Addr.add, if_true]
            unfold cellAt
            split
            · rw [hsp]; simp
            · rfl
          unfold World.cells? at hx
          rw [if_pos (Nat.zero_le _)] at hx
          have hm : (0 : Nat) ∈ List.range (P.cellsOf e) := by simpa using hp
          obtain ⟨y, hy⟩ := mapM_some hx 0 hm
          rw [hc] at hy
          cases hy
      obtain ⟨b, o, sp⟩ := p
      simp only at hs
      subst hs
      refine .inr ⟨b, o, h1, h0, h2, h3, fun i hi => ?_⟩
      obtain ⟨xs, hx, hr⟩ := h4 i hi
      rw [add_mk] at hx
      obtain ⟨hl, hd⟩ := cells_ldA hx rfl
      exact ⟨xs, hX xs hr, hl, hd⟩
theorem scal_cells {v x : Value} (hv : ∀ cs, v ≠ .agg cs) (h : v.cells.toList = [x]) : v = x := by
  cases v <;> simp [Value.cells] at h <;> first | exact h | exact absurd rfl (hv _)
theorem ok_scal {w : World} {r : Reach} {base : Nat} {v : Value} {dsc : TypeDesc} (ht : P.underlying t = some dsc) (hd : dsc.isRow = false) (h : Value.okWide P w r base t v) : ∀ cs, v ≠ .agg cs := by
  intro cs e
  subst e
  cases dsc <;> simp_all [Value.okWide, Cell.okWide, Cell.ok]
theorem ok_agg {w : World} {r : Reach} {base : Nat} {v : Value} {dsc : TypeDesc} (ht : P.underlying t = some dsc) (hd : dsc.isRow = true) (h : Value.okWide P w r base t v) : ∃ cs, v = .agg cs := by
  cases dsc <;> simp_all [Value.okWide]
  · obtain ⟨cs, h, _⟩ := h; exact ⟨cs, h⟩
  · obtain ⟨cs, h, _⟩ := h; exact ⟨cs, h⟩
theorem open_scal {w : World} {r : Reach} {base : Nat} {v x : Value} {dsc : TypeDesc} (ht : P.underlying t = some dsc) (hd : dsc.isRow = false) (h : Value.okWide P w r base t v) (hc : v.cells.toList = [x]) : v = x := scal_cells (ok_scal ht hd h) hc
theorem open_agg {w : World} {r : Reach} {base : Nat} {v : Value} {dsc : TypeDesc} {xs : List Value} (ht : P.underlying t = some dsc) (hd : dsc.isRow = true) (h : Value.okWide P w r base t v) (hc : v.cells.toList = xs) : v = .agg xs.toArray := by
  obtain ⟨cs, rfl⟩ := ok_agg ht hd h
  subst hc
  simp [Value.cells]
theorem sz_upto {H : Type} {ds gs : List (DataW H)} (h : Rows.uptoSmall H (ds ++ gs) = true) : ∀ (j : Nat) (t : TypeId) d, ds[j]? = some d → Sz (some 1048576) P t d := by
  intro j t d hd
  have h1 : Rows.uptoBulkAll (ds ++ gs) ≤ 1048576 := of_decide_eq_true h
  have h2 := bulk_mem (List.mem_append_left gs (List.mem_of_getElem? hd))
  simp only [Sz]
  omega
theorem trodAll_below {H : Type} {enc : TypeId × Value → H} {W' : World} (hl : laidOutB P = true) (hb : Below W.heap.size W W') : ∀ (ts : List TypeId) (vs : List Value) (ds : List (DataW H)) (ps : List MemPlace), ts.all (fun t => P.readableRec t && decide (t < P.types.size)) = true →
    DataW.TrodAll enc P W 0 (fun _ => true) true ts vs ds ps → DataW.TrodAll enc P W' 0 (fun b => decide (b < W.heap.size)) true ts vs ds ps
  | [], [], [], ps, _, h => h
  | t :: ts, v :: vs, d :: ds, ps, ht, h => by
    obtain ⟨p, q, h1, h2, e⟩ := h
    simp only [List.all_cons, Bool.and_eq_true, decide_eq_true_eq] at ht
    refine ⟨p, q, Below.trod hl ht.1.1 ht.1.2 h1 hb ?_, trodAll_below hl hb ts vs ds q (by simpa using ht.2) h2, e⟩
    obtain ⟨f, hf⟩ := h1
    exact DataW.trod_lt f t _ _ hf
  | [], _ :: _, _, _, _, h => h.elim
  | [], [], _ :: _, _, _, h => h.elim
  | _ :: _, [], _, _, _, h => h.elim
  | _ :: _, _ :: _, [], _, _, h => h.elim
end
end Go.Proofs.Ytmnoecpnoofdjaa.G
