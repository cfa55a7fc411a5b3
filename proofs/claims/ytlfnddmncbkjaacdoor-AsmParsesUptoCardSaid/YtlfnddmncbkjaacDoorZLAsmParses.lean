/- AsmParses: for every text the program tells the instruction whose text it is, or that it is none. What is listed reads as listed; the text is of bounded bulk. -/
import Derived.Test.YtlfnddmncbkjaacDoorZWAsm14
import Derived.Test.YtlfnddmncbkjaacDoorZWAsm19
import Derived.Test.YtlfnddmncbkjaacDoorZErrLaid
import Derived.Test.YtlfnddmncbkjaacDoorZRowLaidU
import Derived.Test.YtlfnddmncbkjaacDoorZMA
namespace Go.Proofs.YtlfnddmncbkjaacDoor.AsmParsesLaw
set_option linter.unusedVariables false
set_option linter.unusedSimpArgs false
open Go.RowKit Fb W
set_option maxRecDepth 100000 in
set_option maxHeartbeats 1600000 in
theorem walk (l : List UInt8) (hl : l.length ≤ 1048576) (w : World)
    (HT : Hid (Lib.TabBelow Tryd.prog w.heap.size w "internal/strconv.uint64pow10" .u64 Lib.pow10Tab)) (HS : Hid (Lib.TabBelow Tryd.prog w.heap.size w "strings.asciiSpace" .u8 Lib.asciiSpaceTab))
    (HY : Hid (ErrAt w.heap.size w "strconv.ErrSyntax")) (HR : Hid (ErrAt w.heap.size w "strconv.ErrRange")) :
    Calls Tryd.prog 4 #[.string (bs l)] w fun e w' => e = .returned (.bool true) ∧ Below w.heap.size w w' := by
  have HQ := Lib.hid (parse_any l (by omega) w HT HS HY HR)
  have HX := Lib.hid (fun W => parse11_any l (by omega) W)
  clear HT HS HY HR hl
  go_enter Tryd.func4, Tryd.ntmps4
  go_wp2_with fail
  refine HQ.out.mono ?_
  rintro e w1 ⟨⟨j, c, hj, rfl⟩, hb1⟩
  obtain ⟨op, rd, rs1, rs2, imm⟩ := j
  have HJ := Lib.hid hj
  clear hj HQ
  simp only [icells]
  obtain ⟨w2, hw2⟩ : ∃ w2, w2 = w1.alloc (.cells #[.int .i64 op, .int .i64 rd, .int .i64 rs1, .int .i64 rs2, .int .i32 imm] 23) := ⟨_, rfl⟩
  have hs2 : w1.heap.size < w2.heap.size := by rw [hw2]; simp
  have HB2 := Lib.hid (show Below w.heap.size w w2 by rw [hw2]; exact hb1.alloc hb1.size _)
  have c0 : (w2).cell? ⟨w1.heap.size, 0, none⟩ = some (.int .i64 op) := by rw [hw2]; go_cell
  have c1 : (w2).cell? ⟨w1.heap.size, 1, none⟩ = some (.int .i64 rd) := by rw [hw2]; go_cell
  have c2 : (w2).cell? ⟨w1.heap.size, 2, none⟩ = some (.int .i64 rs1) := by rw [hw2]; go_cell
  have c3 : (w2).cell? ⟨w1.heap.size, 3, none⟩ = some (.int .i64 rs2) := by rw [hw2]; go_cell
  have c4 : (w2).cell? ⟨w1.heap.size, 4, none⟩ = some (.int .i32 imm) := by rw [hw2]; go_cell
  have HW2 := Lib.hid hw2
  clear hw2 hb1
  go_upto_region 2 with fail
  rw [← HW2.out]
  go_wp2_with fail
  refine (HX.out _).mono ?_
  rintro e w3 ⟨⟨i, c', hi, rfl⟩, hb3⟩
  obtain ⟨rfl, rfl⟩ := HJ.out.one hi
  have d0 : (w3).cell? ⟨w1.heap.size, 0, none⟩ = some (.int .i64 op) := (hb3.cell (p := ⟨w1.heap.size, 0, none⟩) (hs2)).trans c0
  have d1 : (w3).cell? ⟨w1.heap.size, 1, none⟩ = some (.int .i64 rd) := (hb3.cell (p := ⟨w1.heap.size, 1, none⟩) (hs2)).trans c1
  have d2 : (w3).cell? ⟨w1.heap.size, 2, none⟩ = some (.int .i64 rs1) := (hb3.cell (p := ⟨w1.heap.size, 2, none⟩) (hs2)).trans c2
  have d3 : (w3).cell? ⟨w1.heap.size, 3, none⟩ = some (.int .i64 rs2) := (hb3.cell (p := ⟨w1.heap.size, 3, none⟩) (hs2)).trans c3
  have d4 : (w3).cell? ⟨w1.heap.size, 4, none⟩ = some (.int .i32 imm) := (hb3.cell (p := ⟨w1.heap.size, 4, none⟩) (hs2)).trans c4
  have hs3 : w1.heap.size < w3.heap.size := Nat.lt_of_lt_of_le hs2 hb3.size
  have HB3 := Lib.hid (HB2.out.trans (hb3.mono HB2.out.size))
  clear hb3 hi HJ HX c0 c1 c2 c3 c4 hs2
  simp only [icells]
  obtain ⟨w4, hw4⟩ : ∃ w4, w4 = w3.alloc (.cells #[.int .i64 op, .int .i64 rd, .int .i64 rs1, .int .i64 rs2, .int .i32 imm] 23) := ⟨_, rfl⟩
  have hb4 : Below w3.heap.size w3 w4 := by rw [hw4]; exact (by repeat (first | with_reducible exact Below.refl _ _ | with_reducible refine below_drewN ?_ _ | ((with_reducible refine Below.setCell ?_ ?hq _); case hq => (first | (simp; done) | (simp; omega))) | ((with_reducible refine Below.alloc ?_ ?hq _); case hq => (first | (simp; done) | (simp; omega)))))
  have f0 : (w4).cell? ⟨w1.heap.size, 0, none⟩ = some (.int .i64 op) := (hb4.cell (p := ⟨w1.heap.size, 0, none⟩) (hs3)).trans d0
  have f1 : (w4).cell? ⟨w1.heap.size, 1, none⟩ = some (.int .i64 rd) := (hb4.cell (p := ⟨w1.heap.size, 1, none⟩) (hs3)).trans d1
  have f2 : (w4).cell? ⟨w1.heap.size, 2, none⟩ = some (.int .i64 rs1) := (hb4.cell (p := ⟨w1.heap.size, 2, none⟩) (hs3)).trans d2
  have f3 : (w4).cell? ⟨w1.heap.size, 3, none⟩ = some (.int .i64 rs2) := (hb4.cell (p := ⟨w1.heap.size, 3, none⟩) (hs3)).trans d3
  have f4 : (w4).cell? ⟨w1.heap.size, 4, none⟩ = some (.int .i32 imm) := (hb4.cell (p := ⟨w1.heap.size, 4, none⟩) (hs3)).trans d4
  have g0 : (w4).cell? ⟨w3.heap.size, 0, none⟩ = some (.int .i64 op) := by rw [hw4]; go_cell
  have g1 : (w4).cell? ⟨w3.heap.size, 1, none⟩ = some (.int .i64 rd) := by rw [hw4]; go_cell
  have g2 : (w4).cell? ⟨w3.heap.size, 2, none⟩ = some (.int .i64 rs1) := by rw [hw4]; go_cell
  have g3 : (w4).cell? ⟨w3.heap.size, 3, none⟩ = some (.int .i64 rs2) := by rw [hw4]; go_cell
  have g4 : (w4).cell? ⟨w3.heap.size, 4, none⟩ = some (.int .i32 imm) := by rw [hw4]; go_cell
  have HW4 := Lib.hid hw4
  have HB4 := Lib.hid (HB3.out.trans (hb4.mono HB3.out.size))
  clear hw4 hb4 d0 d1 d2 d3 d4
  go_upto_region 3 with fail
  rw [← HW4.out]
  go_wp2_with fail
  all_goals go_ret
  all_goals exact ⟨by first | rfl | simp, HB4.out⟩
open RowB in
set_option maxRecDepth 100000 in
set_option maxHeartbeats 1600000 in
theorem lifted (os : Os) (started : os.Started) (H : Type) (enc : TypeId × Value → H) (F : Stop.Interp) :
    ReturnsInHanded {} Tryd.checked os 4 .any (fun w args => ((Rows.OpenSpec.upto Rows.asmParsesSpec).pre enc Tryd.prog Tryd.f4 [] false w args ∧ laidMetH Tryd.prog Rows.asmParsesUptoRow.laid w) ∧ sizedMet enc Tryd.prog Tryd.f4 (Rows.OpenSpec.upto Rows.asmParsesSpec) false w args) (((Rows.OpenSpec.upto Rows.asmParsesSpec).at F).post enc Tryd.prog Tryd.f4 false true false false) := by
  refine RowB.law_lifted_laid_upto (C := Tryd.checked) (s := Rows.asmParsesSpec) (k := Rows.uptoSmall) (laid := Rows.asmParsesUptoRow.laid) (tb := 4) (by kernel_rfl) started (by kernel_rfl) (by kernel_rfl) (by kernel_rfl)
    (RowB.witness_laid (enc := enc) (C := Tryd.checked) (os := os) (s := Rows.OpenSpec.upto Rows.asmParsesSpec) (k := Rows.uptoSmall) rfl (X := fun w _ => laidMetH Tryd.prog Rows.asmParsesUptoRow.laid w) (World.doorLaid Tryd.prog 400 os) #[.string ⟨#[]⟩] 8 rfl (World.shaped_of_RefB (by kernel_rfl) (by kernel_rfl)) (by kernel_rfl) (x := ([.lit (.string [])], [], [])) (by kernel_rfl) (by kernel_rfl) (by kernel_rfl) (by kernel_rfl)
      (laidMetH_of_parts3 (fuel := 8) (laidMet_of_run' 8 (by kernel_rfl) (by kernel_rfl)) (by kernel_rfl) (by kernel_rfl)))
    rfl (fun ds h => by match ds, h with | [_], _ => rfl) (by kernel_rfl) (by kernel_rfl) (by kernel_rfl) (of_decide_eq_true (by kernel_rfl)) ?_
  intro W base args ds ps hval hA _ hz hk hL
  have hp : (Tryd.f4).params.toList = [9] := by kernel_rfl
  rw [hp] at hA hz
  obtain ⟨v0, vs0, d0, ds0, p0, q0, hargs, rfl, rfl, h0, r0⟩ := ChangeShapes.trodAll_cons hA
  obtain ⟨rfl, rfl, rfl⟩ := ChangeShapes.trodAll_nil r0
  obtain rfl : args = #[v0] := by cases args; simp_all
  obtain ⟨z0, y0⟩ := weights_cons hz
  have k0 := hval 0 9 v0 (by kernel_rfl) rfl
  obtain ⟨s, rfl, rfl, -, -⟩ := ChangeMaps.open_string Tryd.underlying9 k0 h0
  have hb : s.data.toList.length ≤ 1048576 := by
    have := of_decide_eq_true hk
    simp only [Rows.uptoBulkAll, Rows.uptoBulk] at this
    omega
  have hs : s = bs s.data.toList := rfl
  rw [hs]
  exact walk s.data.toList hb W (Lib.hid (pow10_of (g := 5) (t := 137) (e := 118) (by kernel_rfl) (by kernel_rfl) Tryd.underlying137 Tryd.underlying118 (by kernel_rfl) (by kernel_rfl) hL.tail.tail))
    (Lib.hid (space_of (g := 0) (t := 83) (e := 5) (by kernel_rfl) (by kernel_rfl) Tryd.underlying83 Tryd.underlying5 (by kernel_rfl) (by kernel_rfl) hL.tail.tail.tail.tail.tail.tail))
    (Lib.hid (errAt_laid (g := 3) hL.tail.tail.tail.tail (by kernel_rfl) (by kernel_rfl)))
    (Lib.hid (errAt_laid (g := 4) hL.tail.tail.tail (by kernel_rfl) (by kernel_rfl)))
/-- THE ROW -/
theorem row_holds : Rows.AsmParsesUptoSaid :=
  OpenClaim.holds_of_cond 4 Tryd.f4 rfl rfl rfl rfl rfl rfl rfl ⟨rfl, rfl, rfl, rfl, rfl⟩ rfl rfl rfl rfl rfl (by kernel_rfl) Tryd.func4 (by kernel_rfl)
    (of_decide_eq_true (by kernel_rfl)) (by unfold Func.isWrapper; first | (rw [if_pos (by decide +kernel)]; kernel_rfl) | (rw [if_neg (by decide +kernel)]; exact ⟨rfl, rfl⟩))
    (fun os started H enc _ F => lifted os started H enc F)
/-- THE STATEMENT: the tied card -/
theorem proved : Rows.AsmParsesUptoCardSaid :=
  Claim7.holds_tied_plain_at .later [] Rows.asmParsesUptoCard.laidKinds true (true, "5e6fb440e56bbf4791a853b2f1a8f5e56388f4d2db02a472e7e0b64105bc5363") true
    row_holds (fun _ h => by cases h) (by kernel_rfl) (fun _ h => by cases h) asmParsesUpto_row_tie rfl ⟨rfl, rfl⟩ (by kernel_rfl) rfl
    (fun f fn hf hfn => by
      obtain rfl : f = 4 := Option.some.inj ((show Tryd.prog.funcNamed Rows.asmParsesUptoRow.func = some 4 by kernel_rfl).symm.trans hf) |>.symm
      obtain rfl : fn = Tryd.f4 := (Option.some.inj (Tryd.func4.symm.trans hfn)).symm
      exact ⟨by kernel_rfl, fun j t ht => by
        have hp : (Tryd.f4).params = #[9] := by kernel_rfl
        rw [hp] at ht
        have hm : t ∈ [9] := by simpa using Array.mem_of_getElem? ht
        have hall : ([9].all fun u => !Tryd.prog.wantsStandIn u) = true := by kernel_rfl
        exact (show Tryd.prog.wantsStandIn t = false by simpa using List.all_eq_true.1 hall t hm)⟩)
    (by kernel_rfl)
#print axioms proved
end Go.Proofs.YtlfnddmncbkjaacDoor.AsmParsesLaw
