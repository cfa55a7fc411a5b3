/- What package word computes, as plain functions on integers. No program in sight. -/
import Derived.Test.YtlfnddmncbkjaabFbBits
namespace Go.Proofs.Ytlfnddmncbkjaab.Fb
set_option linter.unusedVariables false
set_option linter.unusedSimpArgs false
open Go.RowKit

def divq (a b : Int) : Int := if b = 0 then -1 else if b = -1 then wrap32 (-a) else a.tdiv b
def divr (a b : Int) : Int := if b = 0 then a else if b = -1 then 0 else a.tmod b

def quot (op a b : Int) : Int :=
  if (op == 42) = true then divq (wrap32 a) (wrap32 b) % 4294967296
  else if (op == 44) = true then divr (wrap32 a) (wrap32 b) % 4294967296
  else if op = 43 then (if b = 0 then 4294967295 else a / b)
  else if op = 45 then (if b = 0 then a else a % b)
  else 0

def alu (op a b : Int) : Int :=
  if (op == 28) = true then (a + b) % 4294967296
  else if (op == 29) = true then (a - b) % 4294967296
  else if (op == 37) = true then bits .and .u32 a b
  else if (op == 36) = true then bits .or .u32 a b
  else if (op == 33) = true then bits .xor .u32 a b
  else if (op == 30) = true then a * 2 ^ (b % 32).toNat % 4294967296
  else if (op == 34) = true then a / 2 ^ (b % 32).toNat
  else if (op == 35) = true then wrap32 a / 2 ^ (b % 32).toNat % 4294967296
  else if (op == 31) = true then (if wrap32 a < wrap32 b then 1 else 0)
  else if (op == 32) = true then (if a < b then 1 else 0)
  else if (op == 38) = true then a * b % 4294967296
  else if (op == 39) = true then wrap32 a * wrap32 b / 4294967296 % 4294967296
  else if (op == 40) = true then wrap32 a * b / 4294967296 % 4294967296
  else if (op == 41) = true then a * b / 4294967296 % 4294967296
  else quot op a b

def holds (op a b : Int) : Bool :=
  if (op == 5) = true then a == b
  else if (op == 6) = true then a != b
  else if (op == 7) = true then decide (wrap32 a < wrap32 b)
  else if (op == 8) = true then decide (wrap32 b ≤ wrap32 a)
  else if (op == 9) = true then decide (a < b)
  else if (op == 10) = true then decide (b ≤ a)
  else false

def amo (op old b : Int) : Int :=
  if (op == 48) = true then b
  else if (op == 49) = true then (old + b) % 4294967296
  else if (op == 50) = true then bits .xor .u32 old b
  else if (op == 51) = true then bits .and .u32 old b
  else if (op == 52) = true then bits .or .u32 old b
  else if (op == 53) = true then min (wrap32 old) (wrap32 b) % 4294967296
  else if (op == 54) = true then max (wrap32 old) (wrap32 b) % 4294967296
  else if (op == 55) = true then min old b
  else if (op == 56) = true then max old b
  else 0

def U32 (x : Int) : Prop := 0 ≤ x ∧ x < 4294967296
theorem ite_lo {c : Prop} [Decidable c] {x y : Int} (hx : U32 x) (hy : U32 y) : U32 (if c then x else y) := by split <;> assumption
theorem mod_lo (x : Int) : U32 (x % 4294967296) := by unfold U32; omega
theorem bits_lo (o : BinOp) (a b : Int) : U32 (bits o .u32 a b) := by
  unfold U32 bits; simp only [IntKind.wrap_u32]; omega
theorem quot_lo (op a b : Int) (ha : U32 a) (hb : U32 b) : U32 (quot op a b) := by
  unfold quot
  refine ite_lo (mod_lo _) (ite_lo (mod_lo _) (ite_lo (ite_lo (by unfold U32; omega) ?_) (ite_lo ?_ (by unfold U32; omega))))
  · exact ⟨Int.ediv_nonneg ha.1 hb.1, Int.lt_of_le_of_lt (Int.ediv_le_self _ ha.1) ha.2⟩
  · by_cases h0 : b = 0
    · rw [if_pos h0]; exact ha
    · rw [if_neg h0]
      have := Int.emod_nonneg a h0
      have := Int.emod_lt_of_pos a (show 0 < b by have := hb.1; omega)
      have := hb.2
      unfold U32; omega
theorem alu_lo (op a b : Int) (ha : U32 a) (hb : U32 b) : U32 (alu op a b) := by
  have hq := quot_lo op a b ha hb
  have h2 : U32 (a / 2 ^ (b % 32).toNat) :=
    ⟨Int.ediv_nonneg ha.1 (Int.pow_nonneg (by decide)), Int.lt_of_le_of_lt (Int.ediv_le_self _ ha.1) ha.2⟩
  have h0 : U32 0 := by unfold U32; omega
  have h1 : U32 1 := by unfold U32; omega
  unfold alu
  repeat' (first | exact mod_lo _ | exact bits_lo _ _ _ | exact h2 | exact hq | exact h0 | exact h1 | refine ite_lo ?_ ?_)
theorem amo_lo (op a b : Int) (ha : U32 a) (hb : U32 b) : U32 (amo op a b) := by
  have h0 : U32 0 := by unfold U32; omega
  have hmin : U32 (min a b) := by unfold U32 at *; omega
  have hmax : U32 (max a b) := by unfold U32 at *; omega
  unfold amo
  repeat' (first | exact mod_lo _ | exact bits_lo _ _ _ | exact hb | exact hmin | exact hmax | exact h0 | refine ite_lo ?_ ?_)

theorem alu_add (a b : Int) : alu 28 a b = (a + b) % 4294967296 := rfl
theorem alu_mul (a b : Int) : alu 38 a b = a * b % 4294967296 := rfl
theorem alu_mulhu (a b : Int) : alu 41 a b = a * b / 4294967296 % 4294967296 := rfl
theorem alu_div (a b : Int) : alu 42 a b = divq (wrap32 a) (wrap32 b) % 4294967296 := rfl
theorem alu_divu (a b : Int) : alu 43 a b = if b = 0 then 4294967295 else a / b := rfl
theorem alu_rem (a b : Int) : alu 44 a b = divr (wrap32 a) (wrap32 b) % 4294967296 := rfl
theorem alu_remu (a b : Int) : alu 45 a b = if b = 0 then a else a % b := rfl
theorem alu_sltu (a b : Int) : alu 32 a b = if a < b then 1 else 0 := rfl

theorem back_mod (q b t : Int) : (q % 4294967296 * b % 4294967296 + t % 4294967296) % 4294967296 = (q * b + t) % 4294967296 := by
  have h : q % 4294967296 = q - 4294967296 * (q / 4294967296) := by omega
  have e : q % 4294967296 * b = q * b - 4294967296 * (q / 4294967296 * b) := by rw [h, Int.sub_mul, Int.mul_assoc]
  rw [e]
  omega
theorem shift_mod (q b B t : Int) (e : Int) (hb : b = B + 4294967296 * e) : (q * b + t) % 4294967296 = (q * B + t) % 4294967296 := by
  have h : q * b = q * B + 4294967296 * (q * e) := by rw [hb, Int.mul_add, Int.mul_left_comm]
  rw [h]; omega
theorem wrap32_mod (a : Int) : ∃ e, a = wrap32 a + 4294967296 * e := by
  refine ⟨(a + 2147483648) / 4294967296, ?_⟩
  unfold wrap32; omega
/-- what is divided, signed -/
theorem div_back (a b : Int) (ha : U32 a) (hb : U32 b) (h0 : b ≠ 0) :
    (divq (wrap32 a) (wrap32 b) % 4294967296 * b % 4294967296 + divr (wrap32 a) (wrap32 b) % 4294967296) % 4294967296 = a := by
  obtain ⟨e, he⟩ := wrap32_mod b
  obtain ⟨d, hd⟩ := wrap32_mod a
  have hz : wrap32 b ≠ 0 := by have := hb.1; have := hb.2; unfold wrap32; omega
  rw [back_mod, shift_mod _ b _ _ e he]
  have h := Int.mul_tdiv_add_tmod (wrap32 a) (wrap32 b)
  have := ha.1
  have := ha.2
  unfold divq divr
  rw [if_neg hz, if_neg hz]
  by_cases h1 : wrap32 b = -1
  · rw [if_pos h1, if_pos h1, h1]
    obtain ⟨f, hf⟩ := wrap32_mod (-wrap32 a)
    omega
  · rw [if_neg h1, if_neg h1, Int.mul_comm, h]
    omega
theorem divu_back (a b : Int) (ha : U32 a) (hb : U32 b) (h0 : b ≠ 0) : (a / b * b % 4294967296 + a % b) % 4294967296 = a := by
  have h := Int.mul_ediv_add_emod a b
  rw [Int.mul_comm] at h
  have := ha.1
  have := ha.2
  omega
theorem wrap32_back (a : Int) (ha : U32 a) : wrap32 a % 4294967296 = a := by
  have := ha.1; have := ha.2; unfold wrap32; omega
theorem wrap32_0 : wrap32 0 = 0 := by unfold wrap32; rfl
theorem alu_div0 (a : Int) : alu 42 a 0 = 4294967295 := by
  rw [alu_div, wrap32_0]; rfl
theorem alu_divu0 (a : Int) : alu 43 a 0 = 4294967295 := rfl
theorem alu_rem0 (a : Int) (ha : U32 a) : alu 44 a 0 = a := by
  rw [alu_rem, wrap32_0, divr, if_pos rfl, wrap32_back a ha]
theorem alu_remu0 (a : Int) : alu 45 a 0 = a := rfl
/-- the product, upper and lower half -/
theorem halves (a b : Int) (ha : 0 ≤ a) (ha' : a < 4294967296) (hb : 0 ≤ b) (hb' : b < 4294967296) :
    a * b / 4294967296 % 4294967296 * 4294967296 + a * b % 4294967296 = a * b ∧ 0 ≤ a * b ∧ a * b < 18446744073709551616 := by
  have h0 : 0 ≤ a * b := Int.mul_nonneg ha hb
  have h1 := mul_natAbs_le a b 4294967295 4294967295 (by omega) (by omega)
  omega
end Go.Proofs.Ytlfnddmncbkjaab.Fb
