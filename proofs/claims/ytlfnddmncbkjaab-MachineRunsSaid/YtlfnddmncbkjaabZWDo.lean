/- hart.Core.Do, walked: whole. -/
import Derived.Test.YtlfnddmncbkjaabZZA
import Derived.Test.YtlfnddmncbkjaabZZB
namespace Go.Proofs.Ytlfnddmncbkjaab.W
set_option linter.unusedVariables false
set_option linter.unusedSimpArgs false
open Go.RowKit Fb
section
variable {cp hb ho : Nat} {vm : Value} {d : CoreD} {w : World}
/-- an instruction, as a word tells one, done -/
theorem do_any (h : CoreAt cp hb ho vm 34 w d) (wf : d.Wf) (hlen : d.out.length < 1099511627776) (i : InsD) (hop : 1 ≤ i.op ∧ i.op ≤ 59) (hr : 0 ≤ i.rd ∧ i.rd ≤ 31) (h1 : 0 ≤ i.rs1 ∧ i.rs1 ≤ 31) (h2 : 0 ≤ i.rs2 ∧ i.rs2 ≤ 31) (hi : I32 i.imm) :
    Calls Try.prog 117 #[.pointer (some ⟨cp, 0, none⟩), .agg (icells i)] w fun e w' => e = .returned (.tuple #[]) ∧ CoreAt cp hb ho vm 34 w' (doS i d) ∧ Cgo cp hb ho vm 34 w w' := by
  obtain ⟨op, rd, rs1, rs2, imm⟩ := i
  obtain ⟨kd, rfl⟩ := Int.eq_ofNat_of_zero_le hr.1
  obtain ⟨k1, rfl⟩ := Int.eq_ofNat_of_zero_le h1.1
  obtain ⟨k2, rfl⟩ := Int.eq_ofNat_of_zero_le h2.1
  have g0 : kd < 32 := by have := hr.2; simp only at this; omega
  have g1 : k1 < 32 := by have := h1.2; simp only at this; omega
  have g2 : k2 < 32 := by have := h2.2; simp only at this; omega
  unfold I32 at hi
  have hc : op = 1 ∨ op = 2 ∨ op = 3 ∨ op = 4 ∨ (5 ≤ op ∧ op ≤ 10) ∨ (11 ≤ op ∧ op ≤ 15) ∨ (16 ≤ op ∧ op ≤ 18) ∨ (19 ≤ op ∧ op ≤ 27) ∨ (28 ≤ op ∧ op ≤ 45) ∨ (46 ≤ op ∧ op ≤ 56) ∨ op = 57 ∨ op = 58 ∨ op = 59 := by obtain ⟨x, y⟩ := hop; simp only at x y; omega
  rcases hc with rfl | rfl | rfl | rfl | hc | hc | hc | hc | hc | hc | rfl | rfl | rfl
  · exact do_lui h wf hlen kd k1 k2 imm g0 g1 g2 hi
  · exact do_auipc h wf hlen kd k1 k2 imm g0 g1 g2 hi
  · exact do_jal h wf hlen kd k1 k2 imm g0 g1 g2 hi
  · exact do_jalr h wf hlen kd k1 k2 imm g0 g1 g2 hi
  · cases hq : holds op (d.h.reg k1) (d.h.reg k2) with
    | true => exact do_branch_true h wf hlen op kd k1 k2 imm hc g0 g1 g2 hq hi
    | false => exact do_branch_false h wf hlen op kd k1 k2 imm hc g0 g1 g2 hq hi
  · cases hq : mLoadOk d.m op ((d.h.reg k1 + imm % 4294967296) % 4294967296) with
    | true => exact do_load_yes h wf hlen op kd k1 k2 imm hc g0 g1 g2 hq hi
    | false => exact do_load_no h wf hlen op kd k1 k2 imm hc g0 g1 g2 hq hi
  · cases hq : mStoreOk d.m op ((d.h.reg k1 + imm % 4294967296) % 4294967296) with
    | true => exact do_store_yes h wf hlen op kd k1 k2 imm hc g0 g1 g2 hq hi
    | false => exact do_store_no h wf hlen op kd k1 k2 imm hc g0 g1 g2 hq hi
  · exact do_alun h wf hlen op kd k1 k2 imm hc g0 g1 g2 hi
  · exact do_alu h wf hlen op kd k1 k2 imm hc g0 g1 g2 hi
  · cases hq : (atomS d op (d.h.reg k1) (d.h.reg k2)).2.2 with
    | true => exact do_atom_yes h wf hlen op kd k1 k2 imm hc g0 g1 g2 hq hi
    | false => exact do_atom_no h wf hlen op kd k1 k2 imm hc g0 g1 g2 hq hi
  · exact do_fence h wf hlen kd k1 k2 imm g0 g1 g2 hi
  · cases hq : (callS d).2 with
    | true => exact do_call_yes h wf hlen kd k1 k2 imm g0 g1 g2 hq hi
    | false => exact do_call_no h wf hlen kd k1 k2 imm g0 g1 g2 hq hi
  · exact do_break h wf hlen kd k1 k2 imm g0 g1 g2 hi
end
end Go.Proofs.Ytlfnddmncbkjaab.W
