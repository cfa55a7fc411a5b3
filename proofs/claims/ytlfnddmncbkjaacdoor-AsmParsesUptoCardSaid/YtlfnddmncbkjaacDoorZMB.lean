/- Instructions as text: plain. No program in sight. -/
import Derived.Test.YtlfnddmncbkjaacDoorZFbEnc
import Derived.Lib.ItoaMem
import Derived.Lib.ItoaLen
import Derived.Lib.Join
import Derived.Test.YtlfnddmncbkjaacDoorZMA
import Derived.Lib.FieldsP
import Derived.Lib.ParseIntB
import Derived.Lib.Bytealg
import Derived.Lib.ParseIntBCases
import Derived.Laws.RangeString
namespace Go.Proofs.YtlfnddmncbkjaacDoor.Fb
set_option linter.unusedVariables false
set_option linter.unusedSimpArgs false
open Go.RowKit
def bs (l : List UInt8) : ByteArray := ⟨l.toArray⟩
theorem bs_app (a b : List UInt8) : bs a ++ bs b = bs (a ++ b) := by
  apply ByteArray.ext
  show (bs a ++ bs b).data = _
  rw [ByteArray.data_append]
  simp [bs]
theorem bs_size (l : List UInt8) : (bs l).size = l.length := by simp [bs, ByteArray.size]
theorem bs_inj {a b : List UInt8} (h : bs a = bs b) : a = b := by
  have := congrArg (fun x : ByteArray => x.data.toList) h
  simpa [bs] using this
/-- the names, as the program lists them -/
def fullL : List (List UInt8) := [[108, 117, 105], [97, 117, 105, 112, 99], [106, 97, 108], [106, 97, 108, 114], [98, 101, 113], [98, 110, 101], [98, 108, 116], [98, 103, 101], [98, 108, 116, 117], [98, 103, 101, 117], [108, 98], [108, 104], [108, 119], [108, 98, 117], [108, 104, 117], [115, 98], [115, 104], [115, 119], [97, 100, 100, 105], [115, 108, 116, 105], [115, 108, 116, 105, 117], [120, 111, 114, 105], [111, 114, 105], [97, 110, 100, 105], [115, 108, 108, 105], [115, 114, 108, 105], [115, 114, 97, 105], [97, 100, 100], [115, 117, 98], [115, 108, 108], [115, 108, 116], [115, 108, 116, 117], [120, 111, 114], [115, 114, 108], [115, 114, 97], [111, 114], [97, 110, 100], [109, 117, 108], [109, 117, 108, 104], [109, 117, 108, 104, 115, 117], [109, 117, 108, 104, 117], [100, 105, 118], [100, 105, 118, 117], [114, 101, 109], [114, 101, 109, 117], [108, 114, 46, 119], [115, 99, 46, 119], [97, 109, 111, 115, 119, 97, 112, 46, 119], [97, 109, 111, 97, 100, 100, 46, 119], [97, 109, 111, 120, 111, 114, 46, 119], [97, 109, 111, 97, 110, 100, 46, 119], [97, 109, 111, 111, 114, 46, 119], [97, 109, 111, 109, 105, 110, 46, 119], [97, 109, 111, 109, 97, 120, 46, 119], [97, 109, 111, 109, 105, 110, 117, 46, 119], [97, 109, 111, 109, 97, 120, 117, 46, 119], [102, 101, 110, 99, 101], [101, 99, 97, 108, 108], [101, 98, 114, 101, 97, 107]]
/-- the names, as the document lists them -/
def baseL : List (List UInt8) := [[108, 117, 105], [97, 117, 105, 112, 99], [106, 97, 108], [106, 97, 108, 114], [98, 101, 113], [98, 110, 101], [98, 108, 116], [98, 103, 101], [98, 108, 116, 117], [98, 103, 101, 117], [108, 98], [108, 104], [108, 119], [108, 98, 117], [108, 104, 117], [115, 98], [115, 104], [115, 119], [97, 100, 100, 105], [115, 108, 116, 105], [115, 108, 116, 105, 117], [120, 111, 114, 105], [111, 114, 105], [97, 110, 100, 105], [115, 108, 108, 105], [115, 114, 108, 105], [115, 114, 97, 105], [97, 100, 100], [115, 117, 98], [115, 108, 108], [115, 108, 116], [115, 108, 116, 117], [120, 111, 114], [115, 114, 108], [115, 114, 97], [111, 114], [97, 110, 100], [109, 117, 108], [109, 117, 108, 104], [109, 117, 108, 104, 115, 117], [109, 117, 108, 104, 117], [100, 105, 118], [100, 105, 118, 117], [114, 101, 109], [114, 101, 109, 117], [108, 114], [115, 99], [97, 109, 111, 115, 119, 97, 112], [97, 109, 111, 97, 100, 100], [97, 109, 111, 120, 111, 114], [97, 109, 111, 97, 110, 100], [97, 109, 111, 111, 114], [97, 109, 111, 109, 105, 110], [97, 109, 111, 109, 97, 120], [97, 109, 111, 109, 105, 110, 117], [97, 109, 111, 109, 97, 120, 117], [102, 101, 110, 99, 101], [101, 99, 97, 108, 108], [101, 98, 114, 101, 97, 107]]
/-- the names in a row -/
def namesL : List UInt8 := ((([108, 117, 105, 32, 97, 117, 105, 112, 99, 32, 106, 97, 108, 32, 106, 97, 108, 114, 32, 98, 101, 113, 32, 98, 110, 101, 32, 98, 108, 116, 32, 98, 103, 101, 32, 98, 108, 116].append [117, 32, 98, 103, 101, 117, 32, 108, 98, 32, 108, 104, 32, 108, 119, 32, 108, 98, 117, 32, 108, 104, 117, 32, 115, 98, 32, 115, 104, 32, 115, 119, 32, 97, 100, 100, 105, 32]).append ([115, 108, 116, 105, 32, 115, 108, 116, 105, 117, 32, 120, 111, 114, 105, 32, 111, 114, 105, 32, 97, 110, 100, 105, 32, 115, 108, 108, 105, 32, 115, 114, 108, 105, 32, 115, 114, 97].append [105, 32, 97, 100, 100, 32, 115, 117, 98, 32, 115, 108, 108, 32, 115, 108, 116, 32, 115, 108, 116, 117, 32, 120, 111, 114, 32, 115, 114, 108, 32, 115, 114, 97, 32, 111, 114, 32, 97])).append (([110, 100, 32, 109, 117, 108, 32, 109, 117, 108, 104, 32, 109, 117, 108, 104, 115, 117, 32, 109, 117, 108, 104, 117, 32, 100, 105, 118, 32, 100, 105, 118, 117, 32, 114, 101, 109, 32].append [114, 101, 109, 117, 32, 108, 114, 46, 119, 32, 115, 99, 46, 119, 32, 97, 109, 111, 115, 119, 97, 112, 46, 119, 32, 97, 109, 111, 97, 100, 100, 46, 119, 32, 97, 109, 111, 120, 111]).append ([114, 46, 119, 32, 97, 109, 111, 97, 110, 100, 46, 119, 32, 97, 109, 111, 111, 114, 46, 119, 32, 97, 109, 111, 109, 105, 110, 46, 119, 32, 97, 109, 111, 109, 97, 120, 46, 119].append [32, 97, 109, 111, 109, 105, 110, 117, 46, 119, 32, 97, 109, 111, 109, 97, 120, 117, 46, 119, 32, 102, 101, 110, 99, 101, 32, 101, 99, 97, 108, 108, 32, 101, 98, 114, 101, 97, 107])))
def sfx (imm : Int) : List UInt8 := if imm = 1 then [46, 114, 108] else if imm = 2 then [46, 97, 113] else if imm = 3 then [46, 97, 113, 114, 108] else []
def nameS (op imm : Int) : List UInt8 := fullL.getD (op - 1).toNat [] ++ (if 46 ≤ op ∧ op ≤ 56 then sfx imm else [])
def regS (n : Int) : List UInt8 := 120 :: Lib.itoa n
def atS (n : Int) (num : List UInt8) : List UInt8 := num ++ 40 :: (regS n ++ [41])
def partsS (i : InsD) : List (List UInt8) :=
  if i.op ≤ 2 then [regS i.rd, Lib.itoa (i.imm / 4096)]
  else if i.op = 3 then [regS i.rd, Lib.itoa i.imm]
  else if i.op = 4 ∨ (19 ≤ i.op ∧ i.op ≤ 27) ∨ i.op = 57 then [regS i.rd, regS i.rs1, Lib.itoa i.imm]
  else if i.op ≤ 10 then [regS i.rs1, regS i.rs2, Lib.itoa i.imm]
  else if i.op ≤ 15 then [regS i.rd, atS i.rs1 (Lib.itoa i.imm)]
  else if i.op ≤ 18 then [regS i.rs2, atS i.rs1 (Lib.itoa i.imm)]
  else if i.op ≤ 45 then [regS i.rd, regS i.rs1, regS i.rs2]
  else if i.op = 46 then [regS i.rd, atS i.rs1 []]
  else if i.op ≤ 56 then [regS i.rd, regS i.rs2, atS i.rs1 []]
  else []
def textS (i : InsD) : List UInt8 := if partsS i = [] then nameS i.op i.imm else nameS i.op i.imm ++ 32 :: Lib.join (partsS i) [44]
theorem full_len : fullL.length = 59 := rfl
theorem base_len : baseL.length = 59 := rfl
theorem full_short : ∀ k, k < 59 → (fullL.getD k []).length ≤ 10 := by decide
theorem base_short : ∀ k, k < 59 → (baseL.getD k []).length ≤ 10 := by decide
theorem full_base : ∀ k, k < 59 → fullL.getD k [] = baseL.getD k [] ++ (if 45 ≤ k ∧ k ≤ 55 then [46, 119] else []) := by decide
theorem full_base' {op : Int} (h : 1 ≤ op ∧ op ≤ 59) : fullL.getD (op - 1).toNat [] = baseL.getD (op - 1).toNat [] ++ (if 46 ≤ op ∧ op ≤ 56 then [46, 119] else []) := by
  rw [full_base _ (by omega)]
  congr 1
  by_cases c : 46 ≤ op ∧ op ≤ 56
  · rw [if_pos c, if_pos (by omega)]
  · rw [if_neg c, if_neg (by omega)]
theorem sfx_len (imm : Int) : (sfx imm).length ≤ 5 := by unfold sfx; (repeat' split) <;> simp
theorem itoa_short (n : Int) (h : -9223372036854775808 ≤ n ∧ n ≤ 9223372036854775807) : (Lib.itoa n).length ≤ 21 := Lib.itoa_length_le n h.1 h.2
theorem digits_short (n : Nat) (h : n ≤ 9223372036854775807) : (Lib.decDigits n).length ≤ 21 := by
  have := itoa_short n (by omega)
  rwa [Lib.itoa_nonneg] at this
theorem nameS_len (op imm : Int) : (nameS op imm).length ≤ 15 := by
  unfold nameS
  rw [List.length_append]
  have h1 : (fullL.getD (op - 1).toNat []).length ≤ 10 := by
    by_cases h : (op - 1).toNat < 59
    · exact full_short _ h
    · rw [List.getD, List.getElem?_eq_none (by rw [full_len]; omega)]; simp
  have h2 : (if 46 ≤ op ∧ op ≤ 56 then sfx imm else []).length ≤ 5 := by
    split
    · exact sfx_len imm
    · simp
  omega
end Go.Proofs.YtlfnddmncbkjaacDoor.Fb

/- Small steps: plain. No program in sight. -/
namespace Go.Proofs.YtlfnddmncbkjaacDoor.Fb
set_option linter.unusedVariables false
set_option linter.unusedSimpArgs false
open Go.RowKit
structure MicD where
  op : Int
  d : Int
  a : Int
  b : Int
  n : Int
deriving DecidableEq
def mlist (m : MicD) : List Value := [.int .i64 m.op, .int .i64 m.d, .int .i64 m.a, .int .i64 m.b, .int .u32 m.n]
theorem mlist_one (m : MicD) : ∀ u ∈ mlist m, u.oneCell' = true := by
  intro u hu
  simp only [mlist, List.mem_cons, List.not_mem_nil, or_false] at hu
  rcases hu with rfl | rfl | rfl | rfl | rfl <;> rfl
/-- which of D, A, B, N (1, 2, 4, 8) a small step has; below 0: there is none such -/
def namedI (op : Int) : Int :=
  if op = 1 ∨ op = 3 then 8 else if op = 2 then 9 else if op = 4 then 10 else if op = 5 ∨ op = 6 then 0
  else if op - op.tmod 100 = 100 then (if 5 ≤ op.tmod 100 ∧ op.tmod 100 ≤ 10 then 14 else -1)
  else if op - op.tmod 100 = 200 then (if 11 ≤ op.tmod 100 ∧ op.tmod 100 ≤ 15 then 11 else -1)
  else if op - op.tmod 100 = 300 then (if 16 ≤ op.tmod 100 ∧ op.tmod 100 ≤ 18 then 14 else -1)
  else if op - op.tmod 100 = 400 then (if 28 ≤ op.tmod 100 ∧ op.tmod 100 ≤ 45 then 7 else -1)
  else if op - op.tmod 100 = 500 then (if 28 ≤ op.tmod 100 ∧ op.tmod 100 ≤ 45 then 11 else -1)
  else if op - op.tmod 100 = 600 then (if 46 ≤ op.tmod 100 ∧ op.tmod 100 ≤ 56 then 7 else -1)
  else -1
/-- a register that a small step has, or has not -/
def regOk (has : Bool) (r : Int) : Bool := !(!has && r != 0) && decide (0 ≤ r) && decide (r < 36)
def hasB1 (k : Int) : Bool := decide (k.tmod 2 = 1)
def mayM (m : MicD) : Bool :=
  !(decide (namedI m.op < 0)) && !(decide (namedI m.op < 8) && m.n != 0) && regOk (decide ((namedI m.op).tmod 2 = 1)) m.d && regOk (decide (((namedI m.op).tdiv 2).tmod 2 = 1)) m.a && regOk (decide (((namedI m.op).tdiv 4).tmod 2 = 1)) m.b
def mayL (l : List MicD) : Bool := decide (l.length ≤ 200) && l.all mayM
/-- operations of instructions with a number -/
def numOp (op : Int) : Int := if op = 19 then 28 else if op = 20 then 31 else if op = 21 then 32 else if op = 22 then 33 else if op = 23 then 36 else if op = 24 then 37 else if op = 25 then 30 else if op = 26 then 34 else 35
def numM (op rd rs1 n : Int) : List MicD :=
  if rd = 0 then []
  else if rs1 = 0 ∧ (op = 28 ∨ op = 36 ∨ op = 33) then [⟨2, rd, 0, 0, n⟩]
  else if rs1 = 0 ∧ (op = 37 ∨ op = 30 ∨ op = 34 ∨ op = 35) then [⟨2, rd, 0, 0, 0⟩]
  else [⟨500 + op, rd, rs1, 0, n⟩]
def u32 (x : Int) : Int := x % 4294967296
/-- the small steps of an instruction, behind the one that begins it -/
def bodyM (i : InsD) (pc : Int) : List MicD :=
  if i.op = 1 then [⟨2, i.rd, 0, 0, u32 i.imm⟩]
  else if i.op = 2 then [⟨2, i.rd, 0, 0, u32 (pc + u32 i.imm)⟩]
  else if i.op = 3 then [⟨2, i.rd, 0, 0, u32 (pc + 4)⟩, ⟨3, 0, 0, 0, u32 (pc + u32 i.imm)⟩]
  else if i.op = 4 then [⟨528, 32, i.rs1, 0, u32 i.imm⟩, ⟨2, i.rd, 0, 0, u32 (pc + 4)⟩, ⟨4, 0, 32, 0, 0⟩]
  else if i.op ≤ 10 then [⟨100 + i.op, 0, i.rs1, i.rs2, u32 (pc + u32 i.imm)⟩]
  else if i.op ≤ 15 then [⟨200 + i.op, i.rd, i.rs1, 0, u32 i.imm⟩]
  else if i.op ≤ 18 then [⟨300 + i.op, 0, i.rs1, i.rs2, u32 i.imm⟩]
  else if i.op ≤ 27 then numM (numOp i.op) i.rd i.rs1 (u32 i.imm)
  else if i.op ≤ 45 then (if i.rd = 0 then [] else [⟨400 + i.op, i.rd, i.rs1, i.rs2, 0⟩])
  else if i.op ≤ 56 then [⟨600 + i.op, i.rd, i.rs1, i.rs2, 0⟩]
  else if i.op = 58 then [⟨5, 0, 0, 0, 0⟩]
  else if i.op = 59 then [⟨6, 0, 0, 0, 0⟩]
  else []
def insM (i : InsD) (pc : Int) : List MicD := ⟨1, 0, 0, 0, pc⟩ :: bodyM i pc
/-- the small steps of instructions that lie from the k-th place on -/
def rowM (pc : Int) : Nat → List InsD → List MicD
  | _, [] => []
  | k, i :: r => insM i (u32 (pc + u32 (4 * (k : Int)))) ++ rowM pc (k + 1) r
def mkM (pc : Int) (l : List InsD) : List MicD := if 16 < l.length ∨ l.all isS = false then [] else rowM pc 0 l
theorem numM_len (op rd rs1 n : Int) : (numM op rd rs1 n).length ≤ 3 := by
  unfold numM
  by_cases c1 : rd = 0
  · rw [if_pos c1]; decide
  rw [if_neg c1]
  by_cases c2 : rs1 = 0 ∧ (op = 28 ∨ op = 36 ∨ op = 33)
  · rw [if_pos c2]; simp
  rw [if_neg c2]
  by_cases c3 : rs1 = 0 ∧ (op = 37 ∨ op = 30 ∨ op = 34 ∨ op = 35)
  · rw [if_pos c3]; simp
  rw [if_neg c3]; simp
theorem bodyM_len (i : InsD) (pc : Int) : (bodyM i pc).length ≤ 3 := by
  unfold bodyM
  by_cases c0 : i.op = 1
  · rw [if_pos c0]; simp
  rw [if_neg c0]
  by_cases c1 : i.op = 2
  · rw [if_pos c1]; simp
  rw [if_neg c1]
  by_cases c2 : i.op = 3
  · rw [if_pos c2]; simp
  rw [if_neg c2]
  by_cases c3 : i.op = 4
  · rw [if_pos c3]; simp
  rw [if_neg c3]
  by_cases c4 : i.op ≤ 10
  · rw [if_pos c4]; simp
  rw [if_neg c4]
  by_cases c5 : i.op ≤ 15
  · rw [if_pos c5]; simp
  rw [if_neg c5]
  by_cases c6 : i.op ≤ 18
  · rw [if_pos c6]; simp
  rw [if_neg c6]
  by_cases d1 : i.op ≤ 27
  · rw [if_pos d1]; exact numM_len _ _ _ _
  rw [if_neg d1]
  by_cases d2 : i.op ≤ 45
  · rw [if_pos d2]
    by_cases d3 : i.rd = 0
    · rw [if_pos d3]; decide
    · rw [if_neg d3]; simp
  rw [if_neg d2]
  by_cases d4 : i.op ≤ 56
  · rw [if_pos d4]; simp
  rw [if_neg d4]
  by_cases d5 : i.op = 58
  · rw [if_pos d5]; simp
  rw [if_neg d5]
  by_cases d6 : i.op = 59
  · rw [if_pos d6]; simp
  rw [if_neg d6]; decide
theorem rowM_len (pc : Int) : ∀ (l : List InsD) (k : Nat), (rowM pc k l).length ≤ 4 * l.length
  | [], _ => Nat.zero_le _
  | i :: r, k => by
    have := rowM_len pc r (k + 1)
    have h2 := bodyM_len i (u32 (pc + u32 (4 * (k : Int))))
    simp only [rowM, insM, List.length_append, List.length_cons]
    omega
theorem mkM_len (pc : Int) (l : List InsD) : (mkM pc l).length ≤ 4 * l.length := by
  unfold mkM; split
  · simp
  · exact rowM_len pc l 0
theorem isS_regs {i : InsD} (h : isS i = true) : (1 ≤ i.op ∧ i.op ≤ 59) ∧ (0 ≤ i.rd ∧ i.rd ≤ 31) ∧ (0 ≤ i.rs1 ∧ i.rs1 ≤ 31) ∧ (0 ≤ i.rs2 ∧ i.rs2 ≤ 31) := by
  unfold isS at h
  rw [Bool.and_eq_true] at h
  have := of_decide_eq_true h.1
  omega
theorem regOk_has {r : Int} (h : 0 ≤ r ∧ r < 36) : regOk true r = true := by simp [regOk, h]
theorem regOk_zero (b : Bool) : regOk b 0 = true := by cases b <;> rfl
theorem mayM_has {m : MicD} (k : Int) (hk : namedI m.op = k) (h0 : 0 ≤ k) (hn : k < 8 → m.n = 0) (hd : regOk (decide (k.tmod 2 = 1)) m.d = true) (ha : regOk (decide ((k.tdiv 2).tmod 2 = 1)) m.a = true) (hb : regOk (decide ((k.tdiv 4).tmod 2 = 1)) m.b = true) : mayM m = true := by
  unfold mayM
  rw [hk, hd, ha, hb]
  have h1 : decide (k < 0) = false := by simp; omega
  rw [h1]
  by_cases h8 : k < 8
  · rw [hn h8]; simp
  · have : decide (k < 8) = false := by simp; omega
    rw [this]; simp
theorem named_at (c s : Int) (hc : c = 100 ∨ c = 200 ∨ c = 300 ∨ c = 400 ∨ c = 500 ∨ c = 600) (h0 : 0 ≤ s) (h1 : s < 100) : (c + s).tmod 100 = s ∧ c + s - (c + s).tmod 100 = c := by
  have : (c + s).tmod 100 = s := by
    rw [Int.tmod_eq_emod_of_nonneg (by omega)]; omega
  omega
theorem named_if {s : Int} (h : 5 ≤ s ∧ s ≤ 10) : namedI (100 + s) = 14 := by
  obtain ⟨h1, h2⟩ := named_at 100 s (by omega) (by omega) (by omega)
  unfold namedI; rw [h2, h1]; repeat' split
  all_goals (first | rfl | omega)
theorem named_load {s : Int} (h : 11 ≤ s ∧ s ≤ 15) : namedI (200 + s) = 11 := by
  obtain ⟨h1, h2⟩ := named_at 200 s (by omega) (by omega) (by omega)
  unfold namedI; rw [h2, h1]; repeat' split
  all_goals (first | rfl | omega)
theorem named_store {s : Int} (h : 16 ≤ s ∧ s ≤ 18) : namedI (300 + s) = 14 := by
  obtain ⟨h1, h2⟩ := named_at 300 s (by omega) (by omega) (by omega)
  unfold namedI; rw [h2, h1]; repeat' split
  all_goals (first | rfl | omega)
theorem named_alu {s : Int} (h : 28 ≤ s ∧ s ≤ 45) : namedI (400 + s) = 7 := by
  obtain ⟨h1, h2⟩ := named_at 400 s (by omega) (by omega) (by omega)
  unfold namedI; rw [h2, h1]; repeat' split
  all_goals (first | rfl | omega)
theorem named_alun {s : Int} (h : 28 ≤ s ∧ s ≤ 45) : namedI (500 + s) = 11 := by
  obtain ⟨h1, h2⟩ := named_at 500 s (by omega) (by omega) (by omega)
  unfold namedI; rw [h2, h1]; repeat' split
  all_goals (first | rfl | omega)
theorem named_atom {s : Int} (h : 46 ≤ s ∧ s ≤ 56) : namedI (600 + s) = 7 := by
  obtain ⟨h1, h2⟩ := named_at 600 s (by omega) (by omega) (by omega)
  unfold namedI; rw [h2, h1]; repeat' split
  all_goals (first | rfl | omega)
theorem numOp_in (op : Int) : 28 ≤ numOp op ∧ numOp op ≤ 45 := by
  unfold numOp; repeat' split
  all_goals omega
theorem may_set {r n : Int} (h : 0 ≤ r ∧ r < 36) : mayM ⟨2, r, 0, 0, n⟩ = true := mayM_has 9 rfl (by omega) (by omega) (regOk_has h) (regOk_zero _) (regOk_zero _)
theorem may_alun {s d a n : Int} (h : 28 ≤ s ∧ s ≤ 45) (hd : 0 ≤ d ∧ d < 36) (ha : 0 ≤ a ∧ a < 36) : mayM ⟨500 + s, d, a, 0, n⟩ = true := mayM_has 11 (named_alun h) (by omega) (by omega) (regOk_has hd) (regOk_has ha) (regOk_zero _)
theorem bodyM_may {i : InsD} (h : isS i = true) (pc : Int) : ∀ m ∈ bodyM i pc, mayM m = true := by
  obtain ⟨h1, h2, h3, h4⟩ := isS_regs h
  clear h
  intro m hm
  unfold bodyM at hm
  by_cases c1 : i.op = 1
  · rw [if_pos c1] at hm
    rw [List.mem_singleton] at hm; subst hm
    exact may_set (by omega)
  rw [if_neg c1] at hm
  by_cases c2 : i.op = 2
  · rw [if_pos c2] at hm
    rw [List.mem_singleton] at hm; subst hm
    exact may_set (by omega)
  rw [if_neg c2] at hm
  by_cases c3 : i.op = 3
  · rw [if_pos c3] at hm
    simp only [List.mem_cons, List.not_mem_nil, or_false] at hm
    rcases hm with rfl | rfl
    · exact may_set (by omega)
    · exact mayM_has 8 rfl (by omega) (by omega) (regOk_zero _) (regOk_zero _) (regOk_zero _)
  rw [if_neg c3] at hm
  by_cases c4 : i.op = 4
  · rw [if_pos c4] at hm
    simp only [List.mem_cons, List.not_mem_nil, or_false] at hm
    rcases hm with rfl | rfl | rfl
    · exact may_alun (s := 28) (by omega) (by omega) (by omega)
    · exact may_set (by omega)
    · exact mayM_has 10 rfl (by omega) (by omega) (regOk_zero _) (regOk_has (by dsimp only; omega)) (regOk_zero _)
  rw [if_neg c4] at hm
  by_cases c5 : i.op ≤ 10
  · rw [if_pos c5] at hm
    rw [List.mem_singleton] at hm; subst hm
    exact mayM_has 14 (named_if (by omega)) (by omega) (by omega) (regOk_zero _) (regOk_has (by dsimp only; omega)) (regOk_has (by dsimp only; omega))
  rw [if_neg c5] at hm
  by_cases c6 : i.op ≤ 15
  · rw [if_pos c6] at hm
    rw [List.mem_singleton] at hm; subst hm
    exact mayM_has 11 (named_load (by omega)) (by omega) (by omega) (regOk_has (by dsimp only; omega)) (regOk_has (by dsimp only; omega)) (regOk_zero _)
  rw [if_neg c6] at hm
  by_cases c7 : i.op ≤ 18
  · rw [if_pos c7] at hm
    rw [List.mem_singleton] at hm; subst hm
    exact mayM_has 14 (named_store (by omega)) (by omega) (by omega) (regOk_zero _) (regOk_has (by dsimp only; omega)) (regOk_has (by dsimp only; omega))
  rw [if_neg c7] at hm
  by_cases c8 : i.op ≤ 27
  · rw [if_pos c8] at hm
    have hn := numOp_in i.op
    unfold numM at hm
    by_cases d1 : i.rd = 0
    · rw [if_pos d1] at hm; cases hm
    rw [if_neg d1] at hm
    generalize numOp i.op = q at hn hm
    by_cases d2 : i.rs1 = 0 ∧ (q = 28 ∨ q = 36 ∨ q = 33)
    · rw [if_pos d2] at hm; rw [List.mem_singleton] at hm; subst hm; exact may_set (by omega)
    rw [if_neg d2] at hm
    by_cases d3 : i.rs1 = 0 ∧ (q = 37 ∨ q = 30 ∨ q = 34 ∨ q = 35)
    · rw [if_pos d3] at hm; rw [List.mem_singleton] at hm; subst hm; exact may_set (by omega)
    rw [if_neg d3] at hm
    rw [List.mem_singleton] at hm; subst hm
    exact may_alun hn (by omega) (by omega)
  rw [if_neg c8] at hm
  by_cases c9 : i.op ≤ 45
  · rw [if_pos c9] at hm
    by_cases d1 : i.rd = 0
    · rw [if_pos d1] at hm; cases hm
    rw [if_neg d1] at hm
    rw [List.mem_singleton] at hm; subst hm
    exact mayM_has 7 (named_alu (by omega)) (by omega) (fun _ => rfl) (regOk_has (by dsimp only; omega)) (regOk_has (by dsimp only; omega)) (regOk_has (by dsimp only; omega))
  rw [if_neg c9] at hm
  by_cases c10 : i.op ≤ 56
  · rw [if_pos c10] at hm
    rw [List.mem_singleton] at hm; subst hm
    exact mayM_has 7 (named_atom (by omega)) (by omega) (fun _ => rfl) (regOk_has (by dsimp only; omega)) (regOk_has (by dsimp only; omega)) (regOk_has (by dsimp only; omega))
  rw [if_neg c10] at hm
  by_cases c11 : i.op = 58
  · rw [if_pos c11] at hm
    rw [List.mem_singleton] at hm; subst hm
    rfl
  rw [if_neg c11] at hm
  by_cases c12 : i.op = 59
  · rw [if_pos c12] at hm
    rw [List.mem_singleton] at hm; subst hm
    rfl
  rw [if_neg c12] at hm
  cases hm
theorem rowM_may (pc : Int) : ∀ (l : List InsD) (k : Nat), l.all isS = true → (rowM pc k l).all mayM = true
  | [], _, _ => rfl
  | i :: r, k, h => by
    simp only [List.all_cons, Bool.and_eq_true] at h
    simp only [rowM, insM, List.all_append, List.all_cons, Bool.and_eq_true]
    exact ⟨⟨rfl, List.all_eq_true.2 (bodyM_may h.1 _)⟩, rowM_may pc r (k + 1) h.2⟩
theorem mkM_may (pc : Int) (l : List InsD) : mayL (mkM pc l) = true := by
  have h := mkM_len pc l
  unfold mayL
  rw [Bool.and_eq_true, decide_eq_true_eq]
  unfold mkM at h ⊢
  split
  · exact ⟨by simp, rfl⟩
  · rename_i hc
    rw [if_neg hc] at h
    have hl : ¬ 16 < l.length := fun e => hc (.inl e)
    have ha : l.all isS = true := by
      cases e : l.all isS
      · exact absurd (.inr e) hc
      · rfl
    exact ⟨by omega, rowM_may pc l 0 ha⟩
end Go.Proofs.YtlfnddmncbkjaacDoor.Fb

/- A text's head and what follows; the numbers in it: plain. -/
namespace Go.Proofs.YtlfnddmncbkjaacDoor.Fb
set_option linter.unusedVariables false
set_option linter.unusedSimpArgs false
/-- what stands ahead of the first blank; what follows it -/
def headL (l : List UInt8) : List UInt8 := l.takeWhile (· != 32)
def restL (l : List UInt8) : List UInt8 := (l.dropWhile (· != 32)).drop 1
theorem indexByte_cases : ∀ l : List UInt8, (Lib.indexByte l 32 = -1 ∧ headL l = l ∧ restL l = []) ∨ ∃ i : Nat, Lib.indexByte l 32 = (i : Int) ∧ i < l.length ∧ headL l = l.take i ∧ restL l = l.drop (i + 1)
  | [] => Or.inl ⟨rfl, rfl, rfl⟩
  | b :: l => by
    by_cases hb : b = 32
    · subst hb
      exact Or.inr ⟨0, by simp [Lib.indexByte], by simp, by simp [headL], by simp [restL]⟩
    · rcases indexByte_cases l with ⟨h1, h2, h3⟩ | ⟨i, h1, h2, h3, h4⟩
      · refine Or.inl ⟨by simp [Lib.indexByte, hb, h1], ?_, ?_⟩
        · unfold headL at h2 ⊢
          rw [List.takeWhile_cons_of_pos (by simpa using hb), h2]
        · unfold restL at h3 ⊢
          rw [List.dropWhile_cons_of_pos (by simpa using hb), h3]
      · refine Or.inr ⟨i + 1, ?_, by simp; omega, ?_, ?_⟩
        · have : ¬ ((i : Int) = -1) := by omega
          simp [Lib.indexByte, hb, h1, this]
        · unfold headL at h3 ⊢
          rw [List.takeWhile_cons_of_pos (by simpa using hb), h3, List.take_succ_cons]
        · unfold restL at h4 ⊢
          rw [List.dropWhile_cons_of_pos (by simpa using hb), h4, List.drop_succ_cons]
theorem bs_extract (l : List UInt8) (a b : Nat) : (bs l).extract a b = bs ((l.drop a).take (b - a)) := by
  unfold bs
  apply ByteArray.ext
  rw [ByteArray.data_extract]
  simp
/-- what parts the numbers -/
def sepL : List UInt8 := [120, 44, 40, 41, 32]
def isSepN (x : Nat) : Bool := x == 120 || x == 44 || x == 40 || x == 41 || x == 32
end Go.Proofs.YtlfnddmncbkjaacDoor.Fb

/- What a text would be, of an Op: plain. -/
namespace Go.Proofs.YtlfnddmncbkjaacDoor.Fb
set_option linter.unusedVariables false
set_option linter.unusedSimpArgs false
open Go.RowKit
def setF (i : InsD) (o : Nat) (n : Int) : InsD := if o = 1 then { i with rd := n } else if o = 2 then { i with rs1 := n } else { i with rs2 := n }
/-- which fields the numbers are, in order; which number is the constant -/
def offsS (op : Int) : List Nat :=
  if op ≤ 3 then [1] else if op = 4 ∨ (19 ≤ op ∧ op ≤ 27) ∨ op = 57 then [1, 2] else if op ≤ 10 then [2, 3] else if op ≤ 15 then [1, 2] else if op ≤ 18 then [3, 2] else if op ≤ 45 then [1, 2, 3] else if op = 46 then [1, 2] else if op ≤ 56 then [1, 3, 2] else []
def numS (op : Int) : Int := if op ≤ 3 then 1 else if op = 4 ∨ (19 ≤ op ∧ op ≤ 27) ∨ op = 57 then 2 else if op ≤ 10 then 2 else if op ≤ 18 then 1 else -1
def immG (op n : Int) : Int := if op ≤ 2 then wrap32 (n * 4096) else n
def fillS (op num : Int) : List Nat → Nat → List Int → InsD → InsD
  | _, _, [], i => i
  | offs, k, n :: zs, i => if (k : Int) = num then fillS op num offs (k + 1) zs { i with imm := immG op n } else match offs with
    | o :: offs => fillS op num offs (k + 1) zs (setF i o n)
    | [] => i
def bareS (op atom : Int) : InsD := ⟨op, 0, 0, 0, if 46 ≤ op ∧ op ≤ 56 then atom else 0⟩
def manyS (op : Int) : Nat := (offsS op).length + (if 0 ≤ numS op then 1 else 0)
def guessS (op atom : Int) (zs : List Int) : InsD × Bool := if zs.length = manyS op then (fillS op (numS op) (offsS op) 0 zs (bareS op atom), true) else (bareS op atom, false)
theorem offs_in {op : Int} : ∀ o ∈ offsS op, o = 1 ∨ o = 2 ∨ o = 3 := by
  unfold offsS
  (repeat' split) <;> simp
theorem offs_len {op : Int} : (offsS op).length ≤ 3 := by
  unfold offsS
  (repeat' split) <;> simp
theorem num_in (op : Int) : numS op = -1 ∨ numS op = 1 ∨ numS op = 2 := by
  unfold numS
  (repeat' split) <;> simp
end Go.Proofs.YtlfnddmncbkjaacDoor.Fb

/- A numeral read back: plain. -/
namespace Go.Proofs.YtlfnddmncbkjaacDoor.Fb
set_option linter.unusedVariables false
set_option linter.unusedSimpArgs false
open Go.Lib
theorem parseU_app (M : Nat) (hM : M ≤ 4294967295) : ∀ (l r : List UInt8) (acc u : Nat), parseUintM M acc l = .ok u → parseUintM M acc (l ++ r) = parseUintM M u r
  | [], r, acc, u, h => by
    unfold parseUintM at h
    injection h with h
    subst h
    rfl
  | c :: l, r, acc, u, h => by
    unfold parseUintM at h
    rw [List.cons_append]
    conv => lhs; unfold parseUintM
    split at h
    · rename_i h1
      rw [if_pos h1]
      split at h
      · cases h
      · rename_i h2
        rw [if_neg h2]
        split at h
        · cases h
        · rename_i h3
          rw [if_neg h3]
          exact parseU_app M hM l r _ u h
    · cases h
theorem parseU_digits (M : Nat) (hM : M ≤ 4294967295) : ∀ (u : Nat), u ≤ M → parseUintM M 0 (decDigits u) = .ok u := by
  intro u
  induction u using Nat.strongRecOn with
  | _ u ih =>
    intro hu
    unfold decDigits
    split
    · rename_i h
      have e : (UInt8.ofNat (48 + u)).toNat = 48 + u := by simp; omega
      unfold parseUintM
      rw [e, if_pos (by omega), if_neg (by omega), if_neg (by omega)]
      unfold parseUintM
      congr 1
      omega
    · rename_i h
      rw [parseU_app M hM _ _ 0 (u / 10) (ih (u / 10) (by omega) (by omega))]
      have e : (UInt8.ofNat (48 + u % 10)).toNat = 48 + u % 10 := by simp; omega
      unfold parseUintM
      rw [e, if_pos (by omega), if_neg (by omega), if_neg (by omega)]
      unfold parseUintM
      congr 1
      omega
theorem digits_ne (u : Nat) : decDigits u ≠ [] := by
  unfold decDigits
  split <;> simp
theorem digits_head (u : Nat) : ∃ c r, decDigits u = c :: r ∧ 48 ≤ c.toNat ∧ c.toNat ≤ 57 := by
  induction u using Nat.strongRecOn with
  | _ u ih =>
    unfold decDigits
    split
    · exact ⟨_, _, rfl, by simp; omega, by simp; omega⟩
    · obtain ⟨c, r, e, h⟩ := ih (u / 10) (by omega)
      exact ⟨c, r ++ _, by rw [e]; rfl, h⟩
theorem parse32_itoa (n : Int) (h : -2147483648 ≤ n ∧ n ≤ 2147483647) : parseIntB 32 (itoa n) = .ok n := by
  unfold itoa
  split
  · rename_i hn
    rw [parseIntB_minus]
    unfold parseUintB
    rw [if_neg (digits_ne _), parseU_digits _ (by decide) _ (by omega)]
    unfold signedC
    dsimp only
    rw [if_neg (by omega)]
    congr 1
    omega
  · rename_i hn
    obtain ⟨c, r, e, h1, h2⟩ := digits_head n.toNat
    rw [e, parseIntB_plain _ _ _ (by omega) (by omega), ← e]
    unfold parseUintB
    rw [if_neg (digits_ne _), parseU_digits _ (by decide) _ (by omega)]
    unfold signlessC
    dsimp only
    rw [if_neg (by omega)]
    congr 1
    omega
end Go.Proofs.YtlfnddmncbkjaacDoor.Fb

/- The words of an ASCII text: plain. -/
namespace Go.Proofs.YtlfnddmncbkjaacDoor.Fb
set_option linter.unusedVariables false
set_option linter.unusedSimpArgs false
open Go.Lib
/-- the words of a text, letter by letter; cur: the word that has begun -/
def fieldsL : List UInt8 → List UInt8 → List (List UInt8)
  | cur, [] => if cur = [] then [] else [cur]
  | cur, c :: l => if isSepN c.toNat then (if cur = [] then fieldsL [] l else cur :: fieldsL [] l) else fieldsL (cur ++ [c]) l
theorem spans_ascii (l : List UInt8) (ha : ∀ c ∈ l, c.toNat < 128) : ∀ (f pos : Nat) (st : Option Nat) (acc : List (Nat × Nat)), l.length ≤ pos + f → pos ≤ l.length → (∀ a, st = some a → a < pos) →
    (closeSpans (bs l) (spansFromP isSepN (bs l) f pos st acc)).map (fun x => (bs l).extract x.1 x.2) = acc.map (fun x => (bs l).extract x.1 x.2) ++ (fieldsL (match st with | none => [] | some a => (l.drop a).take (pos - a)) (l.drop pos)).map bs
  | f, pos, st, acc, hf, hp, hs => by
    by_cases hlt : pos < l.length
    · obtain ⟨g, rfl⟩ : ∃ g, f = g + 1 := ⟨f - 1, by omega⟩
      have hlt' : pos < (bs l).size := by rw [bs_size]; exact hlt
      have hd : l.drop pos = l[pos] :: l.drop (pos + 1) := List.drop_eq_getElem_cons hlt
      have hb : (bs l)[pos]'hlt' = l[pos] := by simp [bs, ByteArray.getElem_eq_getElem_data]; rfl
      have hdec : Utf8.decode (bs l) pos = (l[pos].toNat, 1) := by
        rw [decode_ascii (bs l) pos hlt' (by rw [hb]; exact ha _ (List.getElem_mem hlt)), hb]
      unfold spansFromP
      rw [if_pos hlt', hdec, hd]
      unfold fieldsL
      dsimp only
      by_cases hc : isSepN l[pos].toNat = true
      · rw [if_pos hc, if_pos hc]
        cases st with
        | none =>
          dsimp only
          rw [spans_ascii l ha g (pos + 1) none acc (by omega) (by omega) (by simp), if_pos rfl]
        | some a =>
          have hap := hs a rfl
          dsimp only
          have hne : (l.drop a).take (pos - a) ≠ [] := by
            intro e
            have := congrArg List.length e
            simp at this
            omega
          rw [spans_ascii l ha g (pos + 1) none _ (by omega) (by omega) (by simp), if_neg hne]
          simp [bs_extract]
      · rw [if_neg hc, if_neg hc]
        cases st with
        | none =>
          dsimp only
          rw [spans_ascii l ha g (pos + 1) (some pos) acc (by omega) (by omega) (by simp)]
          dsimp only
          rw [hd, show pos + 1 - pos = 1 by omega]
          rfl
        | some a =>
          have hap := hs a rfl
          dsimp only
          rw [spans_ascii l ha g (pos + 1) (some a) acc (by omega) (by omega) (by intro b hb; cases hb; omega)]
          dsimp only
          have e : (l.drop a).take (pos + 1 - a) = (l.drop a).take (pos - a) ++ [l[pos]] := by
            rw [show pos + 1 - a = (pos - a) + 1 by omega, List.take_add_one, List.getElem?_drop, show a + (pos - a) = pos by omega, List.getElem?_eq_getElem hlt]
            rfl
          rw [e]
    · have hpe : pos = l.length := by omega
      subst hpe
      rw [spansFromP_end _ _ _ _ _ _ (by rw [bs_size]; omega), List.drop_length]
      unfold fieldsL closeSpans
      cases st with
      | none => simp
      | some a =>
        have hap := hs a rfl
        have hne : (l.drop a).take (l.length - a) ≠ [] := by
          intro e
          have := congrArg List.length e
          simp at this
          omega
        dsimp only
        rw [if_neg hne]
        simp [bs_extract, bs_size]
end Go.Proofs.YtlfnddmncbkjaacDoor.Fb
