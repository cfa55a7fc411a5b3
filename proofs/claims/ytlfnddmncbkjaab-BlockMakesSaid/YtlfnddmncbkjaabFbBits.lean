/- Plain facts on words: bit operations of the model as numbers. No program in sight. -/
import Derived.WalkKit
namespace Go.Proofs.Ytlfnddmncbkjaab.Fb
set_option linter.unusedVariables false
set_option linter.unusedSimpArgs false
open Go.RowKit

theorem ret_int {k : IntKind} {a b : Int} (h : a = b) : Ending.returned (.int k a) = .returned (.int k b) := by rw [h]
theorem ret_bool {a b : Bool} (h : a = b) : Ending.returned (.bool a) = .returned (.bool b) := by rw [h]

theorem wf_u32 {a : Int} (h : (Lit.int .u32 a).wf = true) : 0 ≤ a ∧ a < 4294967296 := by
  have h2 : 0 ≤ a ∧ a ≤ 4294967295 := by simpa [Lit.wf, IntKind.min, IntKind.max, IntKind.signed, IntKind.bits] using h
  omega
theorem wf_i64 {a : Int} (h : (Lit.int .i64 a).wf = true) : -9223372036854775808 ≤ a ∧ a ≤ 9223372036854775807 := by
  simpa [Lit.wf, IntKind.min, IntKind.max, IntKind.signed, IntKind.bits] using h
theorem wf_i32 {a : Int} (h : (Lit.int .i32 a).wf = true) : -2147483648 ≤ a ∧ a ≤ 2147483647 := by
  simpa [Lit.wf, IntKind.min, IntKind.max, IntKind.signed, IntKind.bits] using h
theorem wf_u8 {a : Int} (h : (Lit.int .u8 a).wf = true) : 0 ≤ a ∧ a < 256 := by
  have h2 : 0 ≤ a ∧ a ≤ 255 := by simpa [Lit.wf, IntKind.min, IntKind.max, IntKind.signed, IntKind.bits] using h
  omega
theorem wf_u16 {a : Int} (h : (Lit.int .u16 a).wf = true) : 0 ≤ a ∧ a < 65536 := by
  have h2 : 0 ≤ a ∧ a ≤ 65535 := by simpa [Lit.wf, IntKind.min, IntKind.max, IntKind.signed, IntKind.bits] using h
  omega

theorem ofInt_toNat32 (x : Int) (h : 0 ≤ x) (h' : x < 4294967296) : (BitVec.ofInt 32 x).toNat = x.toNat := by
  rw [BitVec.toNat_ofInt]; congr 1; exact Int.emod_eq_of_lt h (by simpa using h')

theorem and32 (x y : Int) (hx : 0 ≤ x) (hx' : x < 4294967296) (hy : 0 ≤ y) (hy' : y < 4294967296) : bits .and .u32 x y = ((x.toNat &&& y.toNat : Nat) : Int) := by
  have h := ofInt_toNat32 x hx hx'
  have h2 := ofInt_toNat32 y hy hy'
  have hle : x.toNat &&& y.toNat ≤ x.toNat := Nat.and_le_left
  show IntKind.u32.wrap (((BitVec.ofInt 32 x &&& BitVec.ofInt 32 y).toNat : Nat) : Int) = _
  rw [BitVec.toNat_and, h, h2, IntKind.wrap_u32]
  omega
theorem or32 (x y : Int) (hx : 0 ≤ x) (hx' : x < 4294967296) (hy : 0 ≤ y) (hy' : y < 4294967296) : bits .or .u32 x y = ((x.toNat ||| y.toNat : Nat) : Int) := by
  have h := ofInt_toNat32 x hx hx'
  have h2 := ofInt_toNat32 y hy hy'
  have hle : x.toNat ||| y.toNat < 2 ^ 32 := Nat.or_lt_two_pow (by omega) (by omega)
  show IntKind.u32.wrap (((BitVec.ofInt 32 x ||| BitVec.ofInt 32 y).toNat : Nat) : Int) = _
  rw [BitVec.toNat_or, h, h2, IntKind.wrap_u32]
  omega
theorem xor32 (x y : Int) (hx : 0 ≤ x) (hx' : x < 4294967296) (hy : 0 ≤ y) (hy' : y < 4294967296) : bits .xor .u32 x y = ((x.toNat ^^^ y.toNat : Nat) : Int) := by
  have h := ofInt_toNat32 x hx hx'
  have h2 := ofInt_toNat32 y hy hy'
  have hle : x.toNat ^^^ y.toNat < 2 ^ 32 := Nat.xor_lt_two_pow (by omega) (by omega)
  show IntKind.u32.wrap (((BitVec.ofInt 32 x ^^^ BitVec.ofInt 32 y).toNat : Nat) : Int) = _
  rw [BitVec.toNat_xor, h, h2, IntKind.wrap_u32]
  omega
/-- a mask of the lowest bits is a remainder -/
theorem mask32 (x : Int) (k : Nat) (hk : k ≤ 32) (m : Int) (hm : m = 2 ^ k - 1) (hx : 0 ≤ x) (hx' : x < 4294967296) : bits .and .u32 x m = x % 2 ^ k := by
  have hp : (2 : Nat) ^ k ≤ 2 ^ 32 := Nat.pow_le_pow_right (by decide) hk
  have hp0 : 0 < (2 : Nat) ^ k := Nat.pow_pos (by decide)
  have e : ((2 : Int) ^ k) = ((2 ^ k : Nat) : Int) := by norm_cast
  have em : m = ((2 ^ k - 1 : Nat) : Int) := by rw [hm, e]; omega
  rw [and32 x m hx hx' (by omega) (by omega), em, e]
  have : x.toNat &&& ((2 ^ k - 1 : Nat) : Int).toNat = x.toNat % 2 ^ k := by
    rw [Int.toNat_natCast, Nat.and_two_pow_sub_one_eq_mod]
  rw [this]
  have hx2 : x = (x.toNat : Int) := by omega
  conv => rhs; rw [hx2]
  norm_cast

/-- bits that lie above all of another number's are added -/
theorem or_hi (a x : Int) (k : Nat) (hk : k ≤ 32) (ha : 0 ≤ a) (ha' : a < 2 ^ k) (hx : 0 ≤ x) (h : x * 2 ^ k < 4294967296) : bits .or .u32 a (x * 2 ^ k) = a + x * 2 ^ k := by
  have hp : (0 : Int) < 2 ^ k := Int.pow_pos (by decide)
  have h0 : 0 ≤ x * 2 ^ k := Int.mul_nonneg hx (Int.le_of_lt hp)
  obtain ⟨a, rfl⟩ := Int.eq_ofNat_of_zero_le ha
  obtain ⟨x, rfl⟩ := Int.eq_ofNat_of_zero_le hx
  have e : ((2 : Int) ^ k) = ((2 ^ k : Nat) : Int) := by rw [Int.natCast_pow]; rfl
  rw [e] at ha' h h0 ⊢
  have e2 : (x : Int) * ((2 ^ k : Nat) : Int) = ((x * 2 ^ k : Nat) : Int) := (Int.natCast_mul _ _).symm
  rw [e2] at h h0 ⊢
  have ha2 : a < 2 ^ k := by exact_mod_cast ha'
  have h32 : (2:Nat) ^ k ≤ 4294967296 := by
    have := Nat.pow_le_pow_right (n := 2) (by decide) hk
    simpa using this
  rw [or32 _ _ (by omega) (by omega) (by omega) (by omega)]
  rw [Int.toNat_natCast, Int.toNat_natCast, Nat.or_comm, ← Nat.shiftLeft_eq, ← Nat.shiftLeft_add_eq_or_of_lt ha2, Nat.shiftLeft_eq]
  omega
theorem wrap32_small (a : Int) : -2147483648 ≤ wrap32 a ∧ wrap32 a ≤ 2147483647 := by
  unfold wrap32; omega
theorem tdiv_small (a b : Int) (ha : -2147483648 ≤ a) (ha' : a ≤ 2147483647) (h0 : ¬ b = 0) (h1 : ¬ b = -1) : -2147483648 ≤ a.tdiv b ∧ a.tdiv b ≤ 2147483647 := by
  have h : (a.tdiv b).natAbs = a.natAbs / b.natAbs := Int.natAbs_tdiv a b
  have h2 : a.natAbs / b.natAbs ≤ a.natAbs := Nat.div_le_self _ _
  by_cases hb : b.natAbs = 1
  · have hb1 : b = 1 := by omega
    subst hb1; simp; omega
  · have h3 : a.natAbs / b.natAbs ≤ a.natAbs / 2 := Nat.div_le_div_left (by omega) (by decide)
    omega
theorem mul_natAbs_le (x y : Int) (A B : Nat) (hx : x.natAbs ≤ A) (hy : y.natAbs ≤ B) : (x * y).natAbs ≤ A * B := by
  rw [Int.natAbs_mul]; exact Nat.mul_le_mul hx hy
/-- the upper half of a product that fits 64 bits, signed -/
theorem hi64 (n : Int) (h : n.natAbs ≤ 9223372034707292160) : IntKind.u64.wrap (wrap64 n) / 4294967296 % 4294967296 = n / 4294967296 % 4294967296 := by
  rw [IntKind.wrap_u64]; unfold wrap64; omega
theorem mulh_eq (x y : Int) (hx : -2147483648 ≤ x ∧ x ≤ 2147483647) (hy : -2147483648 ≤ y ∧ y ≤ 4294967295) :
    IntKind.u64.wrap (wrap64 (x * y)) / 4294967296 % 4294967296 = x * y / 4294967296 % 4294967296 := by
  refine hi64 _ ?_
  have := mul_natAbs_le x y 2147483648 4294967295 (by omega) (by omega)
  omega
theorem wrap64_small (x : Int) (hx : -9223372036854775808 ≤ x ∧ x ≤ 9223372036854775807) : wrap64 x = x := by unfold wrap64; omega
theorem mulhu_eq (x y : Int) (hx : 0 ≤ x) (hx' : x < 4294967296) (hy : 0 ≤ y) (hy' : y < 4294967296) :
    IntKind.u64.wrap (x * y) / 4294967296 % 4294967296 = x * y / 4294967296 % 4294967296 := by
  rw [IntKind.wrap_u64]; omega

end Go.Proofs.Ytlfnddmncbkjaab.Fb
