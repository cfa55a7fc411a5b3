import Derived.Test.YtlfnddmncbkjaacZFbForm
set_option linter.unusedVariables false
set_option linter.unusedSimpArgs false
set_option maxRecDepth 100000
set_option maxHeartbeats 4000000
namespace Go.Proofs.Ytlfnddmncbkjaac.Fb
open Go.RowKit
abbrev orw (a b : Int) : Int := bits .or .u32 a b
def isS (i : InsD) : Bool :=
  decide (1 ≤ i.op ∧ i.op ≤ 59 ∧ 0 ≤ i.rd ∧ i.rd ≤ 31 ∧ 0 ≤ i.rs1 ∧ i.rs1 ≤ 31 ∧ 0 ≤ i.rs2 ∧ i.rs2 ≤ 31) &&
  (if i.op ≤ 2 then decide (i.rs1 = 0 ∧ i.rs2 = 0 ∧ i.imm % 4096 = 0)
   else if i.op = 3 then decide (i.rs1 = 0 ∧ i.rs2 = 0 ∧ -1048576 ≤ i.imm ∧ i.imm ≤ 1048574 ∧ i.imm % 2 = 0)
   else if i.op = 4 ∨ (11 ≤ i.op ∧ i.op ≤ 15) ∨ (19 ≤ i.op ∧ i.op ≤ 24) ∨ i.op = 57 then decide (i.rs2 = 0 ∧ -2048 ≤ i.imm ∧ i.imm ≤ 2047)
   else if 5 ≤ i.op ∧ i.op ≤ 10 then decide (i.rd = 0 ∧ -4096 ≤ i.imm ∧ i.imm ≤ 4094 ∧ i.imm % 2 = 0)
   else if 16 ≤ i.op ∧ i.op ≤ 18 then decide (i.rd = 0 ∧ -2048 ≤ i.imm ∧ i.imm ≤ 2047)
   else if 25 ≤ i.op ∧ i.op ≤ 27 then decide (i.rs2 = 0 ∧ 0 ≤ i.imm ∧ i.imm ≤ 31)
   else if 28 ≤ i.op ∧ i.op ≤ 45 then decide (i.imm = 0)
   else if 46 ≤ i.op ∧ i.op ≤ 56 then decide (0 ≤ i.imm ∧ i.imm ≤ 3 ∧ (i.op = 46 → i.rs2 = 0))
   else decide (i.rd = 0 ∧ i.rs1 = 0 ∧ i.rs2 = 0 ∧ i.imm = 0))
def regsOk (i : InsD) : Bool := decide (0 ≤ i.rd ∧ i.rd < 32) && decide (0 ≤ i.rs1 ∧ i.rs1 < 32) && decide (0 ≤ i.rs2 ∧ i.rs2 < 32)
end Go.Proofs.Ytlfnddmncbkjaac.Fb
