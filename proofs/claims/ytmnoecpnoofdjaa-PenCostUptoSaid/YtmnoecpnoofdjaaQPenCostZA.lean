/- Of this text what the row needs. -/
import Derived.Test.YtmnoecpnoofdjaaQPenCostGV
namespace Go.Proofs.Ytmnoecpnoofdjaa.G
open Go.RowKit
set_option linter.unusedVariables false
set_option linter.unusedSimpArgs false
section
variable {H : Hp} {b o : Nat} {T : TypeId} {cs : List Value}
theorem ldI_a {k : IntKind} {v : Int} {K : Int → Prop} (h : Bk H b T cs) (hv : cs[o]? = some (.int k v)) (hK : K v) : ldI k H ((⟨b, 0, none⟩ : Addr).add o) K := by rw [add_mk, Nat.zero_add]; exact ldI_i h hv hK
theorem ldB_a {v : Bool} {K : Bool → Prop} (h : Bk H b T cs) (hv : cs[o]? = some (.bool v)) (hK : K v) : ldB H ((⟨b, 0, none⟩ : Addr).add o) K := by rw [add_mk, Nat.zero_add]; exact ldB_i h hv hK
theorem ldP_a {v : Option Addr} {K : Option Addr → Prop} (h : Bk H b T cs) (hv : cs[o]? = some (.pointer v)) (hK : K v) : ldP H ((⟨b, 0, none⟩ : Addr).add o) K := by rw [add_mk, Nat.zero_add]; exact ldP_i h hv hK
theorem ldL_a {v : Sl} {K : Sl → Prop} (h : Bk H b T cs) (hv : cs[o]? = some (.slice v.a v.n v.c)) (hK : K v) : ldL H ((⟨b, 0, none⟩ : Addr).add o) K := by rw [add_mk, Nat.zero_add]; exact ldL_i h hv hK
theorem cell_a {v : Value} (h : Bk H b T cs) (hv : cs[o]? = some v) : cellAt H ((⟨b, 0, none⟩ : Addr).add o) = some v := by rw [add_mk, Nat.zero_add, h.cell]; exact hv
theorem st_a {v : Value} {K : Hp → Prop} (h : Bk H b T cs) (ho : o < cs.length) (hK : ∀ H', Bk H' b T (cs.set o v) → Same H H' b → K H') : st H ((⟨b, 0, none⟩ : Addr).add o) v K := by rw [add_mk, Nat.zero_add]; exact st_i h ho hK
theorem ldA_a {xs : List Value} (h : Bk H b T cs) (hx : ∀ j v, xs[j]? = some v → cs[o + j]? = some v) : ldA H ((⟨b, 0, none⟩ : Addr).add o) xs := by rw [add_mk, Nat.zero_add]; exact ldA_i h hx
end
theorem gand {k : IntKind} {x y : Nat} (hx : x < 2 ^ k.bits) (hy : y < 2 ^ k.bits) (hw : IntKind.wrap k ((x &&& y : Nat) : Int) = ((x &&& y : Nat) : Int)) : Go.bits .and k (x : Int) (y : Int) = ((x &&& y : Nat) : Int) := by
  show IntKind.wrap k ((BitVec.ofInt k.bits (x : Int) &&& BitVec.ofInt k.bits (y : Int)).toNat : Int) = _
  rw [BitVec.toNat_and, BitVec.ofInt_natCast, BitVec.ofInt_natCast, BitVec.toNat_ofNat, BitVec.toNat_ofNat, Nat.mod_eq_of_lt hx, Nat.mod_eq_of_lt hy]
  exact hw
theorem gor {k : IntKind} {x y : Nat} (hx : x < 2 ^ k.bits) (hy : y < 2 ^ k.bits) (hw : IntKind.wrap k ((x ||| y : Nat) : Int) = ((x ||| y : Nat) : Int)) : Go.bits .or k (x : Int) (y : Int) = ((x ||| y : Nat) : Int) := by
  show IntKind.wrap k ((BitVec.ofInt k.bits (x : Int) ||| BitVec.ofInt k.bits (y : Int)).toNat : Int) = _
  rw [BitVec.toNat_or, BitVec.ofInt_natCast, BitVec.ofInt_natCast, BitVec.toNat_ofNat, BitVec.toNat_ofNat, Nat.mod_eq_of_lt hx, Nat.mod_eq_of_lt hy]
  exact hw
theorem wu32n {x : Nat} (h : x < 4294967296) : IntKind.wrap .u32 (x : Int) = (x : Int) := wu32 (by omega)
theorem wu8n {x : Nat} (h : x < 256) : IntKind.wrap .u8 (x : Int) = (x : Int) := wu8 (by omega)
theorem w64n {x : Nat} (h : x ≤ 9223372036854775807) : IntKind.wrap .i64 (x : Int) = (x : Int) := w64 (by omega)
theorem pow_lt {a b : Nat} (h : a ≤ b) : 2 ^ a ≤ 2 ^ b := Nat.pow_le_pow_right (by omega) h
theorem shln {k : IntKind} {x n : Nat} (hn : n ≤ k.bits) (hw : IntKind.wrap k ((x * 2 ^ n : Nat) : Int) = ((x * 2 ^ n : Nat) : Int)) : shlI k (x : Int) (n : Int) = ((x * 2 ^ n : Nat) : Int) := by
  unfold shlI
  rw [Int.toNat_natCast, Nat.min_eq_left hn, show (x : Int) * 2 ^ n = ((x * 2 ^ n : Nat) : Int) from by push_cast; rfl]
  exact hw
theorem shrn {k : IntKind} {x n : Nat} (hn : n ≤ k.bits) : shrI k (x : Int) (n : Int) = ((x / 2 ^ n : Nat) : Int) := by
  unfold shrI
  rw [Int.toNat_natCast, Nat.min_eq_left hn, show (x : Int) / 2 ^ n = ((x / 2 ^ n : Nat) : Int) from by push_cast; rfl]
theorem mask32 {n : Nat} (hn : n ≤ 31) : IntKind.wrap .u32 (shlI .u32 1 (n : Int) - 1) = ((2 ^ n - 1 : Nat) : Int) := by
  have h := pow_lt hn
  have h1 : (2 : Nat) ^ 31 = 2147483648 := rfl
  have h2 : 0 < 2 ^ n := Nat.pow_pos (by omega)
  have e := shln (k := .u32) (x := 1) (n := n) (by show n ≤ 32; omega) (wu32n (by omega))
  rw [show ((1 : Nat) : Int) = (1 : Int) from rfl] at e
  rw [e, Nat.one_mul, show ((2 ^ n : Nat) : Int) - 1 = ((2 ^ n - 1 : Nat) : Int) from by omega]
  exact wu32n (by omega)
def low (v : Int) (n : Nat) : Nat := (v % ((2 ^ n : Nat) : Int)).toNat
theorem low_cast (v : Int) (n : Nat) : ((low v n : Nat) : Int) = v % ((2 ^ n : Nat) : Int) := Int.toNat_of_nonneg (Int.emod_nonneg _ (by have : 0 < 2 ^ n := Nat.pow_pos (by omega); omega))
theorem low_lt (v : Int) (n : Nat) : low v n < 2 ^ n := by
  have := Int.emod_lt_of_pos v (b := ((2 ^ n : Nat) : Int)) (by have : 0 < 2 ^ n := Nat.pow_pos (by omega); omega)
  have := low_cast v n
  omega
theorem low_mod (v : Int) {n m : Nat} (h : n ≤ m) : low v m % 2 ^ n = low v n := by
  apply Int.natCast_inj.1
  rw [Int.natCast_emod, low_cast, low_cast, Int.emod_emod_of_dvd _ (Int.natCast_dvd_natCast.2 (Nat.pow_dvd_pow 2 h))]
theorem wrap_u32 (v : Int) : IntKind.wrap .u32 v = ((low v 32 : Nat) : Int) := by rw [low_cast, IntKind.wrap_u32]; rfl
theorem and_mask32 (v : Int) {n : Nat} (hn : n ≤ 31) : Go.bits .and .u32 (IntKind.wrap .u32 v) (IntKind.wrap .u32 (shlI .u32 1 (n : Int) - 1)) = ((low v n : Nat) : Int) := by
  have h := pow_lt hn
  have h1 : (2 : Nat) ^ 31 = 2147483648 := rfl
  have hl := low_lt v 32
  have h2 : (2 : Nat) ^ 32 = 4294967296 := rfl
  rw [mask32 hn, wrap_u32, gand (k := .u32) hl (by show _ < 2 ^ 32; omega), Nat.and_two_pow_sub_one_eq_mod, low_mod v (by omega)]
  rw [Nat.and_two_pow_sub_one_eq_mod, low_mod v (by omega)]
  have := low_lt v n
  exact wu32n (by omega)
theorem and_mask (a : Int) {n : Nat} (hn : n ≤ 62) : Go.bits .and .i64 a (((2 ^ n : Nat) : Int) - 1) = a % ((2 ^ n : Nat) : Int) := by
  have h0 : 0 < (2 : Nat) ^ n := Nat.pow_pos (by omega)
  have h1 : (2 : Nat) ^ n ≤ 2 ^ 62 := Nat.pow_le_pow_right (by omega) hn
  have h62 : (2 : Nat) ^ 62 = 4611686018427387904 := rfl
  have hd : ((2 ^ n : Nat) : Int) ∣ ((2 ^ 64 : Nat) : Int) := by
    refine Int.natCast_dvd_natCast.2 (Nat.pow_dvd_pow 2 (by omega))
  show IntKind.wrap .i64 ((BitVec.ofInt 64 a &&& BitVec.ofInt 64 (((2 ^ n : Nat) : Int) - 1)).toNat : Int) = _
  rw [BitVec.toNat_and]
  have hm : (BitVec.ofInt 64 (((2 ^ n : Nat) : Int) - 1)).toNat = 2 ^ n - 1 := by
    rw [BitVec.toNat_ofInt]
    rw [show (((2 ^ n : Nat) : Int) - 1) = ((2 ^ n - 1 : Nat) : Int) from by omega]
    rw [show ((2 ^ 64 : Nat) : Int) = (18446744073709551616 : Int) from rfl]
    omega
  rw [hm, Nat.and_two_pow_sub_one_eq_mod, BitVec.toNat_ofInt]
  have e : ((((a % ((2 ^ 64 : Nat) : Int)).toNat % 2 ^ n : Nat)) : Int) = a % ((2 ^ n : Nat) : Int) := by
    rw [Int.natCast_emod, Int.toNat_of_nonneg (Int.emod_nonneg _ (by simp)), Int.emod_emod_of_dvd _ hd]
  rw [e]
  have h2 := Int.emod_nonneg a (b := ((2 ^ n : Nat) : Int)) (by omega)
  have h3 := Int.emod_lt_of_pos a (b := ((2 ^ n : Nat) : Int)) (by omega)
  exact w64 (by omega)
def bl : Nat → Nat → List Bool
  | 0, _ => []
  | n + 1, v => v.testBit n :: bl n v
theorem bl_len : ∀ (n v : Nat), (bl n v).length = n
  | 0, _ => rfl
  | n + 1, v => by simp [bl, bl_len n v]
theorem bl_mod {v m : Nat} : ∀ {n : Nat}, n ≤ m → bl n (v % 2 ^ m) = bl n v
  | 0, _ => rfl
  | n + 1, h => by
    rw [bl, bl, bl_mod (by omega), Nat.testBit_mod_two_pow]
    simp [show n < m from by omega]
theorem bl_app {b v : Nat} : ∀ a, bl (a + b) v = bl a (v / 2 ^ b) ++ bl b v
  | 0 => by simp [bl]
  | a + 1 => by
    rw [show a + 1 + b = (a + b) + 1 from by omega, bl, bl_app a, bl, Nat.testBit_div_two_pow, show a + b = b + a from by omega]
    rfl
theorem bl_put {n m x y : Nat} (hy : y < 2 ^ m) : bl (n + m) (x * 2 ^ m + y) = bl n x ++ bl m y := by
  have h0 : 0 < 2 ^ m := Nat.pow_pos (by omega)
  rw [bl_app]
  congr 1
  · rw [Nat.mul_comm, Nat.mul_add_div h0, Nat.div_eq_of_lt hy, Nat.add_zero]
  · rw [← bl_mod (Nat.le_refl m), Nat.mul_comm, Nat.mul_add_mod, Nat.mod_eq_of_lt hy]
def num (l : List Bool) : Nat := l.foldl (fun v b => 2 * v + b.toNat) 0
theorem num_bl (n v : Nat) : num (bl n v) = v % 2 ^ n := by
  have key : ∀ n v a, (bl n v).foldl (fun v b => 2 * v + b.toNat) a = a * 2 ^ n + v % 2 ^ n := by
    intro n
    induction n with
    | zero => intro v a; simp [bl, Nat.mod_one]
    | succ n ih =>
      intro v a
      rw [bl, List.foldl_cons, ih, Nat.pow_succ]
      have h1 : v.testBit n = decide (v / 2 ^ n % 2 = 1) := Nat.testBit_eq_decide_div_mod_eq
      have h2 : v % (2 ^ n * 2) = v % 2 ^ n + 2 ^ n * (v / 2 ^ n % 2) := Nat.mod_mul
      rw [h2, h1]
      have h3 : v / 2 ^ n % 2 = 0 ∨ v / 2 ^ n % 2 = 1 := by omega
      have h4 : 2 * a * 2 ^ n = a * (2 ^ n * 2) := by rw [Nat.mul_comm 2 a, Nat.mul_assoc, Nat.mul_comm 2]
      rcases h3 with h3 | h3
      · simp [h3, h4]
      · simp [h3, Nat.add_mul, h4]; omega
  have := key n v 0
  simpa [num] using this
end Go.Proofs.Ytmnoecpnoofdjaa.G
