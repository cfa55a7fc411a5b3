/- Words as instructions: plain functions on numbers. No program in sight. -/
import Derived.Test.YtlfnddmncbkjaabFbRef1
namespace Go.Proofs.Ytlfnddmncbkjaab.Fb
set_option linter.unusedVariables false
set_option linter.unusedSimpArgs false
open Go.RowKit

structure InsD where
  op : Int
  rd : Int
  rs1 : Int
  rs2 : Int
  imm : Int
deriving DecidableEq
def ilist (i : InsD) : List Value := [.int .i64 i.op, .int .i64 i.rd, .int .i64 i.rs1, .int .i64 i.rs2, .int .i32 i.imm]
def icells (i : InsD) : Array Value := #[.int .i64 i.op, .int .i64 i.rd, .int .i64 i.rs1, .int .i64 i.rs2, .int .i32 i.imm]
def i0 : InsD := ⟨0, 0, 0, 0, 0⟩
structure InsD.Wf (i : InsD) : Prop where
  op : -9223372036854775808 ≤ i.op ∧ i.op ≤ 9223372036854775807
  rd : -9223372036854775808 ≤ i.rd ∧ i.rd ≤ 9223372036854775807
  rs1 : -9223372036854775808 ≤ i.rs1 ∧ i.rs1 ≤ 9223372036854775807
  rs2 : -9223372036854775808 ≤ i.rs2 ∧ i.rs2 ≤ 9223372036854775807
  imm : -2147483648 ≤ i.imm ∧ i.imm ≤ 2147483647

structure KindD where
  form : Int
  low : Int
  mid : Int
  up : Int
/-- the kinds of the instructions 1 to 59 -/
def kinds : List KindD := [⟨0, 55, 0, 0⟩, ⟨0, 23, 0, 0⟩, ⟨1, 111, 0, 0⟩, ⟨2, 103, 0, 0⟩,
  ⟨4, 99, 0, 0⟩, ⟨4, 99, 1, 0⟩, ⟨4, 99, 4, 0⟩, ⟨4, 99, 5, 0⟩, ⟨4, 99, 6, 0⟩, ⟨4, 99, 7, 0⟩,
  ⟨2, 3, 0, 0⟩, ⟨2, 3, 1, 0⟩, ⟨2, 3, 2, 0⟩, ⟨2, 3, 4, 0⟩, ⟨2, 3, 5, 0⟩,
  ⟨5, 35, 0, 0⟩, ⟨5, 35, 1, 0⟩, ⟨5, 35, 2, 0⟩,
  ⟨2, 19, 0, 0⟩, ⟨2, 19, 2, 0⟩, ⟨2, 19, 3, 0⟩, ⟨2, 19, 4, 0⟩, ⟨2, 19, 6, 0⟩, ⟨2, 19, 7, 0⟩,
  ⟨3, 19, 1, 0⟩, ⟨3, 19, 5, 0⟩, ⟨3, 19, 5, 32⟩,
  ⟨6, 51, 0, 0⟩, ⟨6, 51, 0, 32⟩, ⟨6, 51, 1, 0⟩, ⟨6, 51, 2, 0⟩, ⟨6, 51, 3, 0⟩, ⟨6, 51, 4, 0⟩, ⟨6, 51, 5, 0⟩, ⟨6, 51, 5, 32⟩, ⟨6, 51, 6, 0⟩, ⟨6, 51, 7, 0⟩,
  ⟨6, 51, 0, 1⟩, ⟨6, 51, 1, 1⟩, ⟨6, 51, 2, 1⟩, ⟨6, 51, 3, 1⟩, ⟨6, 51, 4, 1⟩, ⟨6, 51, 5, 1⟩, ⟨6, 51, 6, 1⟩, ⟨6, 51, 7, 1⟩,
  ⟨7, 47, 2, 2⟩, ⟨7, 47, 2, 3⟩, ⟨7, 47, 2, 1⟩, ⟨7, 47, 2, 0⟩, ⟨7, 47, 2, 4⟩, ⟨7, 47, 2, 12⟩, ⟨7, 47, 2, 8⟩, ⟨7, 47, 2, 16⟩, ⟨7, 47, 2, 20⟩, ⟨7, 47, 2, 24⟩, ⟨7, 47, 2, 28⟩,
  ⟨2, 15, 0, 0⟩, ⟨8, 115, 0, 0⟩, ⟨8, 115, 0, 1⟩]
def knownOp (op : Int) : Bool := decide (1 ≤ op ∧ op ≤ 59)
def kindOf (op : Int) : KindD := if knownOp op = true then kinds.getD (op - 1).toNat ⟨0, 0, 0, 0⟩ else ⟨0, 0, 0, 0⟩
def klist (k : KindD) : List Value := [.int .i64 k.form, .int .u32 k.low, .int .u32 k.mid, .int .u32 k.up]
def kcells (k : KindD) : Array Value := #[.int .i64 k.form, .int .u32 k.low, .int .u32 k.mid, .int .u32 k.up]

/-- is a word of a kind? -/
def tellsB (k : KindD) (w : Int) : Bool :=
  if (w % 128 != k.low) = true then false
  else if (k.form == 0) = true then true
  else if (k.form == 1) = true then true
  else if (k.form == 8) = true then w == k.low + k.up * 1048576
  else if (k.form == 3) = true then (w / 4096 % 8 == k.mid) && (w / 33554432 % 128 == k.up)
  else if (k.form == 6) = true then (w / 4096 % 8 == k.mid) && (w / 33554432 % 128 == k.up)
  else if (k.form == 7) = true then (w / 4096 % 8 == k.mid) && (w / 134217728 % 32 == k.up)
  else w / 4096 % 8 == k.mid

/-- a number of so many bits, signed: 2^b = 2 * h -/
def sgn (h n : Int) : Int := if h ≤ n then n - 2 * h else n
def immU (w : Int) : Int := wrap32 (w - w % 4096)
def immJ (w : Int) : Int := sgn 1048576 (w / 2147483648 % 2 * 1048576 + w / 4096 % 256 * 4096 + w / 1048576 % 2 * 2048 + w / 2097152 % 1024 * 2)
def immI (w : Int) : Int := sgn 2048 (w / 1048576 % 4096)
def immB (w : Int) : Int := sgn 4096 (w / 2147483648 % 2 * 4096 + w / 128 % 2 * 2048 + w / 33554432 % 64 * 32 + w / 256 % 16 * 2)
def immS (w : Int) : Int := sgn 2048 (w / 33554432 % 128 * 32 + w / 128 % 32)
/-- a word of a form, read -/
def readS (op form w : Int) : InsD :=
  if (form == 0) = true then ⟨op, w / 128 % 32, 0, 0, immU w⟩
  else if (form == 1) = true then ⟨op, w / 128 % 32, 0, 0, immJ w⟩
  else if (form == 2) = true then ⟨op, w / 128 % 32, w / 32768 % 32, 0, immI w⟩
  else if (form == 3) = true then ⟨op, w / 128 % 32, w / 32768 % 32, 0, w / 1048576 % 32⟩
  else if (form == 4) = true then ⟨op, 0, w / 32768 % 32, w / 1048576 % 32, immB w⟩
  else if (form == 5) = true then ⟨op, 0, w / 32768 % 32, w / 1048576 % 32, immS w⟩
  else if (form == 7) = true then ⟨op, w / 128 % 32, w / 32768 % 32, w / 1048576 % 32, w / 33554432 % 4⟩
  else if (form == 8) = true then ⟨op, 0, 0, 0, 0⟩
  else ⟨op, w / 128 % 32, w / 32768 % 32, w / 1048576 % 32, 0⟩
/-- does the word tell the instruction number op? -/
def matchB (op w : Int) : Bool := tellsB (kindOf op) w && ((op != 46) || (w / 1048576 % 32 == 0))
def opsList : List Int := [1, 2, 3, 4, 5, 6, 7, 8, 9, 10, 11, 12, 13, 14, 15, 16, 17, 18, 19, 20, 21, 22, 23, 24, 25, 26, 27, 28, 29, 30, 31, 32, 33, 34, 35, 36, 37, 38, 39, 40, 41, 42, 43, 44, 45, 46, 47, 48, 49, 50, 51, 52, 53, 54, 55, 56, 57, 58, 59]
def decOp (w : Int) : Option Int := opsList.find? (fun op => matchB op w)
/-- the instruction that a word is -/
def dec (w : Int) : Option InsD := (decOp w).map fun op => readS op (kindOf op).form w

theorem opsList_get (j : Nat) (h : j < 59) : opsList[j]? = some ((j : Int) + 1) := by
  have hk : ∀ i : Fin 59, opsList[i.val]? = some ((i.val : Int) + 1) := by decide
  exact hk ⟨j, h⟩
theorem find_at {α : Type} (p : α → Bool) : ∀ (l : List α) (k : Nat) (x : α), l[k]? = some x → p x = true → (∀ j y, j < k → l[j]? = some y → p y = false) → l.find? p = some x
  | [], k, x, h, _, _ => by simp at h
  | y :: r, 0, x, h, hp, _ => by
    simp at h; subst h; simp [hp]
  | y :: r, k + 1, x, h, hp, hn => by
    have hy := hn 0 y (by omega) rfl
    rw [List.find?_cons, hy]
    exact find_at p r k x (by simpa using h) hp (fun j z hj hz => hn (j + 1) z (by omega) (by simpa using hz))
theorem decOp_at (w : Int) (k : Nat) (hk : k < 59) (h : matchB ((k : Int) + 1) w = true) (hn : ∀ j : Nat, j < k → matchB ((j : Int) + 1) w = false) : decOp w = some ((k : Int) + 1) :=
  find_at _ _ k _ (opsList_get k hk) h (fun j y hj hy => by
    rw [opsList_get j (by omega)] at hy
    injection hy with hy
    subst hy
    exact hn j hj)
theorem decOp_none (w : Int) (hn : ∀ j : Nat, j < 59 → matchB ((j : Int) + 1) w = false) : decOp w = none := by
  unfold decOp
  rw [List.find?_eq_none]
  intro x hx
  obtain ⟨j, hj, rfl⟩ := List.getElem_of_mem hx
  have hj2 : j < 59 := by simpa [opsList] using hj
  have h1 := opsList_get j hj2
  rw [List.getElem?_eq_getElem hj] at h1
  injection h1 with h1
  rw [h1, hn j hj2]
  simp
theorem decOp_known {w op : Int} (h : decOp w = some op) : 1 ≤ op ∧ op ≤ 59 := by
  have hm := List.mem_of_find?_eq_some h
  have hk : ∀ x ∈ opsList, 1 ≤ x ∧ x ≤ 59 := by decide
  exact hk op hm
theorem decOp_match {w op : Int} (h : decOp w = some op) : matchB op w = true := List.find?_some (p := fun op => matchB op w) h

/-- signed, as the program reckons it -/
theorem sgn_shift (n h s : Int) (hs : 0 < s) (hh : 2 * h * s = 4294967296) (hn : 0 ≤ n) (hn' : n < 2 * h) : wrap32 (n * s % 4294967296) / s = sgn h n := by
  have e0 : n * s < 4294967296 := by
    rw [← hh]; exact Int.mul_lt_mul_of_pos_right hn' hs
  have e1 : 0 ≤ n * s := Int.mul_nonneg hn (Int.le_of_lt hs)
  rw [Int.emod_eq_of_lt e1 e0]
  unfold sgn
  have e2 : h * s = 2147483648 := by rw [Int.mul_assoc] at hh; omega
  split
  · rename_i hc
    have e3 : 2147483648 ≤ n * s := by rw [← e2]; exact Int.mul_le_mul_of_nonneg_right hc (Int.le_of_lt hs)
    rw [show wrap32 (n * s) = (n - 2 * h) * s from by rw [Int.sub_mul, hh]; unfold wrap32; omega, Int.mul_ediv_cancel _ (by omega)]
  · rename_i hc
    have e3 : n * s < 2147483648 := by rw [← e2]; exact Int.mul_lt_mul_of_pos_right (by omega) hs
    rw [show wrap32 (n * s) = n * s from by unfold wrap32; omega, Int.mul_ediv_cancel _ (by omega)]
/-- a higher part and a lower one -/
theorem or_lo (x a : Int) (k : Nat) (hk : k ≤ 32) (ha : 0 ≤ a) (ha' : a < 2 ^ k) (hx : 0 ≤ x) (h : x * 2 ^ k < 4294967296) : bits .or .u32 (x * 2 ^ k) a = x * 2 ^ k + a := by
  have hc : bits .or .u32 (x * 2 ^ k) a = bits .or .u32 a (x * 2 ^ k) := by
    have hp : (0 : Int) < 2 ^ k := Int.pow_pos (by decide)
    have h0 : 0 ≤ x * 2 ^ k := Int.mul_nonneg hx (Int.le_of_lt hp)
    have hp2 : (2 : Int) ^ k ≤ 4294967296 := by
      have := Nat.pow_le_pow_right (n := 2) (by decide) hk
      have e : ((2 : Int) ^ k) = ((2 ^ k : Nat) : Int) := by rw [Int.natCast_pow]; rfl
      rw [e]; simpa using (Int.ofNat_le.2 this)
    rw [or32 _ _ h0 h ha (by omega), or32 _ _ ha (by omega) h0 h, Nat.or_comm]
  rw [hc, or_hi a x k hk ha ha' hx h]; omega
theorem andNot12 (x : Int) (hx : U32 x) : bits .andNot .u32 x 4095 = x - x % 4096 := by
  obtain ⟨n, rfl⟩ := Int.eq_ofNat_of_zero_le hx.1
  have hn : n < 4294967296 := by have := hx.2; omega
  show IntKind.u32.wrap (((BitVec.ofInt 32 (n : Int) &&& ~~~ BitVec.ofInt 32 4095).toNat : Nat) : Int) = _
  have hb : ∀ i : Fin 32, (BitVec.ofInt 32 4095).getLsbD i.val = decide (i.val < 12) := by decide
  have e : BitVec.ofInt 32 (n : Int) &&& ~~~ BitVec.ofInt 32 4095 = (BitVec.ofInt 32 (n : Int) >>> 12) <<< 12 := by
    apply BitVec.eq_of_getLsbD_eq
    intro i hi
    rw [BitVec.getLsbD_and, BitVec.getLsbD_not, hb ⟨i, hi⟩, BitVec.getLsbD_shiftLeft, BitVec.getLsbD_ushiftRight]
    by_cases h : i < 12
    · simp [h, hi]
    · simp [h, hi]; rw [show 12 + (i - 12) = i from by omega, BitVec.getLsbD_eq_getElem hi]
  rw [e, BitVec.toNat_shiftLeft, BitVec.toNat_ushiftRight, BitVec.ofInt_natCast, BitVec.toNat_ofNat, IntKind.wrap_u32, Nat.shiftLeft_eq, Nat.shiftRight_eq_div_pow]
  omega
end Go.Proofs.Ytlfnddmncbkjaab.Fb
