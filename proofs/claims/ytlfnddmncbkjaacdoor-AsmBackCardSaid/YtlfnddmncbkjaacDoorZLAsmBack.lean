/- AsmBack: for every instruction that has a text: the text is read as it. What is listed reads as listed. -/
import Derived.Test.YtlfnddmncbkjaacDoorZWAsm14
import Derived.Test.YtlfnddmncbkjaacDoorZErrLaid
import Derived.Test.YtlfnddmncbkjaacDoorZMB
import Derived.Test.YtlfnddmncbkjaacDoorZRowLaid
namespace Go.Proofs.YtlfnddmncbkjaacDoor.AsmBackLaw
set_option linter.unusedVariables false
set_option linter.unusedSimpArgs false
open Go.RowKit Fb W
theorem text_short {i : InsD} (h : isS i = true) (wf : I32 i.imm) : (textS i).length ≤ 4294967296 := by
  have h1 := parts_join_len (isS_regs h).2 wf
  have h2 := nameS_len i.op i.imm
  unfold textS
  split
  · omega
  · rw [List.length_append, List.length_cons]
    omega
set_option maxRecDepth 100000 in
set_option maxHeartbeats 1600000 in
theorem walk (i : InsD) (wf : I32 i.imm) (w : World)
    (HT : Hid (Lib.TabBelow Tryd.prog w.heap.size w "internal/strconv.uint64pow10" .u64 Lib.pow10Tab)) (HS : Hid (Lib.TabBelow Tryd.prog w.heap.size w "strings.asciiSpace" .u8 Lib.asciiSpaceTab))
    (HY : Hid (ErrAt w.heap.size w "strconv.ErrSyntax")) (HR : Hid (ErrAt w.heap.size w "strconv.ErrRange")) :
    Calls Tryd.prog 5 #[.agg (icells i)] w fun e w' => e = .returned (.bool true) ∧ Below w.heap.size w w' := by
  have HP := Lib.hid (fun W (hW : Below w.heap.size w W) => print_any i wf W (Lib.hid (tab_at HT.out hW hW.size)) (Lib.hid (tab_at HS.out hW hW.size)))
  have HQ := Lib.hid (fun (l : List UInt8) (hl : l.length ≤ 4294967296) (W : World) (hW : Below w.heap.size w W) => parse_any l hl W (Lib.hid (tab_at HT.out hW hW.size)) (Lib.hid (tab_at HS.out hW hW.size)) (Lib.hid (HY.out.on hW hW.size)) (Lib.hid (HR.out.on hW hW.size)))
  have HF := Lib.hid (fun h : isS i = true => (⟨text_short h wf, text_ne (isS_regs h).1, fun j c (hj : ParsedAs (textS i) j c) => hj.one (parsed_text h wf)⟩ : _ ∧ _ ∧ (∀ j (c : Int), _ → j = i ∧ c = 0)))
  obtain ⟨op, rd, rs1, rs2, imm⟩ := i
  simp only [icells] at HP ⊢
  obtain ⟨l, hl⟩ : ∃ x, x = textS ⟨op, rd, rs1, rs2, imm⟩ := ⟨_, rfl⟩
  rw [← hl] at HP HF
  obtain ⟨w1, hw1⟩ : ∃ w1, w1 = w.alloc (.cells #[.int .i64 op, .int .i64 rd, .int .i64 rs1, .int .i64 rs2, .int .i32 imm] 23) := ⟨_, rfl⟩
  have hb1 : Below w.heap.size w w1 := by rw [hw1]; exact (by repeat (first | with_reducible exact Below.refl _ _ | with_reducible refine below_drewN ?_ _ | ((with_reducible refine Below.setCell ?_ ?hq _); case hq => (first | (simp; done) | (simp; omega))) | ((with_reducible refine Below.alloc ?_ ?hq _); case hq => (first | (simp; done) | (simp; omega)))))
  have hs1 : w.heap.size < w1.heap.size := by rw [hw1]; simp
  have c0 : (w1).cell? ⟨w.heap.size, 0, none⟩ = some (.int .i64 op) := by rw [hw1]; go_cell
  have c1 : (w1).cell? ⟨w.heap.size, 1, none⟩ = some (.int .i64 rd) := by rw [hw1]; go_cell
  have c2 : (w1).cell? ⟨w.heap.size, 2, none⟩ = some (.int .i64 rs1) := by rw [hw1]; go_cell
  have c3 : (w1).cell? ⟨w.heap.size, 3, none⟩ = some (.int .i64 rs2) := by rw [hw1]; go_cell
  have c4 : (w1).cell? ⟨w.heap.size, 4, none⟩ = some (.int .i32 imm) := by rw [hw1]; go_cell
  have HP1 := Lib.hid (HP.out w1 hb1)
  have HB1 := Lib.hid hb1
  have HW1 := Lib.hid hw1
  clear hw1 hb1 HT HS HY HR HP wf
  generalize isS ⟨op, rd, rs1, rs2, imm⟩ = b at *
  clear hl
  cases b with
  | false =>
    rw [if_neg (by decide), if_neg (by decide)] at HP1
    have HQ1 := Lib.hid (HQ.out [] (by decide))
    clear HF HQ
    go_enter Tryd.func5, Tryd.ntmps5
    go_upto_region 1 with (fail)
    rw [← HW1.out]
    go_wp2_with fail
    refine HP1.out.mono ?_
    rintro e w2 ⟨rfl, hb2⟩
    have HB2 := Lib.hid (HB1.out.trans (hb2.mono HB1.out.size))
    clear c0 c1 c2 c3 c4 hb2 HP1
    go_wp2_with fail
    refine (HQ1.out _ HB2.out).mono ?_
    rintro e w3 ⟨⟨j, c, hj, rfl⟩, hb3⟩
    have HB3 := Lib.hid (HB2.out.trans (hb3.mono HB2.out.size))
    obtain ⟨rfl, rfl⟩ := hj.one parsed_empty
    clear hb3 hj
    simp only [icells]
    go_wp2_with fail
    all_goals go_ret
    all_goals exact ⟨by first | rfl | simp, HB3.out.alloc HB3.out.size _⟩
  | true =>
    rw [if_pos rfl, if_pos rfl] at HP1
    have hne : ¬ (bs l).toList = [] := by
      rw [ByteArray.toList_eq]
      exact (HF.out rfl).2.1
    have HQ1 := Lib.hid (HQ.out l (HF.out rfl).1)
    have HJ := Lib.hid (HF.out rfl).2.2
    clear HF HQ
    go_enter Tryd.func5, Tryd.ntmps5
    go_upto_region 1 with (fail)
    rw [← HW1.out]
    go_wp2_with fail
    refine HP1.out.mono ?_
    rintro e w2 ⟨rfl, hb2⟩
    have d0 : (w2).cell? ⟨w.heap.size, 0, none⟩ = some (.int .i64 op) := (hb2.cell (p := ⟨w.heap.size, 0, none⟩) (hs1)).trans c0
    have d1 : (w2).cell? ⟨w.heap.size, 1, none⟩ = some (.int .i64 rd) := (hb2.cell (p := ⟨w.heap.size, 1, none⟩) (hs1)).trans c1
    have d2 : (w2).cell? ⟨w.heap.size, 2, none⟩ = some (.int .i64 rs1) := (hb2.cell (p := ⟨w.heap.size, 2, none⟩) (hs1)).trans c2
    have d3 : (w2).cell? ⟨w.heap.size, 3, none⟩ = some (.int .i64 rs2) := (hb2.cell (p := ⟨w.heap.size, 3, none⟩) (hs1)).trans c3
    have d4 : (w2).cell? ⟨w.heap.size, 4, none⟩ = some (.int .i32 imm) := (hb2.cell (p := ⟨w.heap.size, 4, none⟩) (hs1)).trans c4
    have HB2 := Lib.hid (HB1.out.trans (hb2.mono HB1.out.size))
    have hs2 : w.heap.size < w2.heap.size := Nat.lt_of_lt_of_le hs1 hb2.size
    clear c0 c1 c2 c3 c4 hb2 HP1 hs1
    go_wp2_with fail
    refine (HQ1.out _ HB2.out).mono ?_
    rintro e w3 ⟨⟨j, c, hj, rfl⟩, hb3⟩
    have e0 : (w3).cell? ⟨w.heap.size, 0, none⟩ = some (.int .i64 op) := (hb3.cell (p := ⟨w.heap.size, 0, none⟩) (hs2)).trans d0
    have e1 : (w3).cell? ⟨w.heap.size, 1, none⟩ = some (.int .i64 rd) := (hb3.cell (p := ⟨w.heap.size, 1, none⟩) (hs2)).trans d1
    have e2 : (w3).cell? ⟨w.heap.size, 2, none⟩ = some (.int .i64 rs1) := (hb3.cell (p := ⟨w.heap.size, 2, none⟩) (hs2)).trans d2
    have e3 : (w3).cell? ⟨w.heap.size, 3, none⟩ = some (.int .i64 rs2) := (hb3.cell (p := ⟨w.heap.size, 3, none⟩) (hs2)).trans d3
    have e4 : (w3).cell? ⟨w.heap.size, 4, none⟩ = some (.int .i32 imm) := (hb3.cell (p := ⟨w.heap.size, 4, none⟩) (hs2)).trans d4
    have HB3 := Lib.hid (HB2.out.trans (hb3.mono HB2.out.size))
    obtain ⟨rfl, rfl⟩ := HJ.out j c hj
    have hs3 : w.heap.size < w3.heap.size := Nat.lt_of_lt_of_le hs2 hb3.size
    clear hb3 hj d0 d1 d2 d3 d4 hs2
    simp only [icells]
    obtain ⟨w4, hw4⟩ : ∃ w4, w4 = w3.alloc (.cells #[.int .i64 op, .int .i64 rd, .int .i64 rs1, .int .i64 rs2, .int .i32 imm] 23) := ⟨_, rfl⟩
    have hb4 : Below w3.heap.size w3 w4 := by rw [hw4]; exact (by repeat (first | with_reducible exact Below.refl _ _ | with_reducible refine below_drewN ?_ _ | ((with_reducible refine Below.setCell ?_ ?hq _); case hq => (first | (simp; done) | (simp; omega))) | ((with_reducible refine Below.alloc ?_ ?hq _); case hq => (first | (simp; done) | (simp; omega)))))
    have f0 : (w4).cell? ⟨w.heap.size, 0, none⟩ = some (.int .i64 op) := (hb4.cell (p := ⟨w.heap.size, 0, none⟩) (hs3)).trans e0
    have f1 : (w4).cell? ⟨w.heap.size, 1, none⟩ = some (.int .i64 rd) := (hb4.cell (p := ⟨w.heap.size, 1, none⟩) (hs3)).trans e1
    have f2 : (w4).cell? ⟨w.heap.size, 2, none⟩ = some (.int .i64 rs1) := (hb4.cell (p := ⟨w.heap.size, 2, none⟩) (hs3)).trans e2
    have f3 : (w4).cell? ⟨w.heap.size, 3, none⟩ = some (.int .i64 rs2) := (hb4.cell (p := ⟨w.heap.size, 3, none⟩) (hs3)).trans e3
    have f4 : (w4).cell? ⟨w.heap.size, 4, none⟩ = some (.int .i32 imm) := (hb4.cell (p := ⟨w.heap.size, 4, none⟩) (hs3)).trans e4
    have g0 : (w4).cell? ⟨w3.heap.size, 0, none⟩ = some (.int .i64 op) := by rw [hw4]; go_cell
    have g1 : (w4).cell? ⟨w3.heap.size, 1, none⟩ = some (.int .i64 rd) := by rw [hw4]; go_cell
    have g2 : (w4).cell? ⟨w3.heap.size, 2, none⟩ = some (.int .i64 rs1) := by rw [hw4]; go_cell
    have g3 : (w4).cell? ⟨w3.heap.size, 3, none⟩ = some (.int .i64 rs2) := by rw [hw4]; go_cell
    have g4 : (w4).cell? ⟨w3.heap.size, 4, none⟩ = some (.int .i32 imm) := by rw [hw4]; go_cell
    have HW4 := Lib.hid hw4
    have HB4 := Lib.hid (HB3.out.trans (hb4.mono HB3.out.size))
    clear hw4 hb4 e0 e1 e2 e3 e4
    go_upto_region 3 with (fail)
    rw [← HW4.out]
    go_wp2_with fail
    all_goals go_ret
    all_goals exact ⟨by first | rfl | simpa using hne, HB4.out⟩
open RowB in
set_option maxRecDepth 100000 in
set_option maxHeartbeats 1600000 in
theorem lifted (os : Os) (started : os.Started) (H : Type) (enc : TypeId × Value → H) :
    ReturnsInHanded {} Tryd.checked os 5 .any (fun w args => (Rows.asmBackSpec.pre enc Tryd.prog Tryd.f5 [] false w args ∧ laidMetH Tryd.prog Rows.asmBackRow.laid w) ∧ sizedMet enc Tryd.prog Tryd.f5 (OpenSpec.ofChange Rows.asmBackSpec) false w args) (Rows.asmBackSpec.post enc Tryd.prog Tryd.f5 false true false false) := by
  refine RowB.law_lifted_laid (C := Tryd.checked) (laid := Rows.asmBackRow.laid) (tb := 4) (by kernel_rfl) started (by kernel_rfl) (by kernel_rfl) (by kernel_rfl)
    (ChangeSpec.witness_shaped (enc := enc) (C := Tryd.checked) (os := os) (X := fun w _ => laidMetH Tryd.prog Rows.asmBackRow.laid w) false (World.doorLaid Tryd.prog 400 os) #[.agg #[.int .i64 0, .int .i64 0, .int .i64 0, .int .i64 0, .int .i32 0]] 8 rfl (World.shaped_of_RefB (by kernel_rfl) (by kernel_rfl)) (by kernel_rfl) (by kernel_rfl) (by kernel_rfl)
      (laidMetH_of_parts3 (fuel := 8) (laidMet_of_run' 8 (by kernel_rfl) (by kernel_rfl)) (by kernel_rfl) (by kernel_rfl)))
    rfl (fun ds h => by match ds, h with | [_], _ => rfl) (by kernel_rfl) (by kernel_rfl) (by kernel_rfl) (of_decide_eq_true (by kernel_rfl)) ?_
  intro W base args ds ps hval hA _ hz hL
  have hp : (Tryd.f5).params.toList = [23] := by kernel_rfl
  rw [hp] at hA hz
  obtain ⟨v0, vs0, d0, ds0, p0, q0, hargs, rfl, rfl, h0, r0⟩ := ChangeShapes.trodAll_cons hA
  obtain ⟨rfl, rfl, rfl⟩ := ChangeShapes.trodAll_nil r0
  obtain rfl : args = #[v0] := by cases args; simp_all
  obtain ⟨z0, y0⟩ := weights_cons hz
  have k0 := hval 0 23 v0 (by kernel_rfl) rfl
  obtain ⟨i, rfl, wf⟩ := opens_ins.arg Tryd.underlying23 k0 h0 z0
  exact walk i wf.imm W (Lib.hid (pow10_of (g := 5) (t := 137) (e := 118) (by kernel_rfl) (by kernel_rfl) Tryd.underlying137 Tryd.underlying118 (by kernel_rfl) (by kernel_rfl) hL.tail.tail))
    (Lib.hid (space_of (g := 0) (t := 83) (e := 5) (by kernel_rfl) (by kernel_rfl) Tryd.underlying83 Tryd.underlying5 (by kernel_rfl) (by kernel_rfl) hL.tail.tail.tail.tail.tail.tail))
    (Lib.hid (errAt_laid (g := 3) hL.tail.tail.tail.tail (by kernel_rfl) (by kernel_rfl)))
    (Lib.hid (errAt_laid (g := 4) hL.tail.tail.tail (by kernel_rfl) (by kernel_rfl)))
/-- THE ROW -/
theorem row_holds : Rows.AsmBackSaid :=
  OpenClaim.holds_of_wide 5 Tryd.f5 rfl rfl rfl rfl rfl rfl rfl ⟨rfl, rfl, rfl, rfl, rfl⟩ rfl rfl rfl rfl rfl (by kernel_rfl) Tryd.func5 (by kernel_rfl)
    (of_decide_eq_true (by kernel_rfl)) (by unfold Func.isWrapper; first | (rw [if_pos (by decide +kernel)]; kernel_rfl) | (rw [if_neg (by decide +kernel)]; exact ⟨rfl, rfl⟩))
    (fun os started H enc _ => lifted os started H enc)
/-- THE STATEMENT: the tied card -/
theorem proved : Rows.AsmBackCardSaid :=
  Claim7.holds_tied_plain_at .later [] Rows.asmBackCard.laidKinds true (true, "5e6fb440e56bbf4791a853b2f1a8f5e56388f4d2db02a472e7e0b64105bc5363") true
    row_holds (fun _ h => by cases h) (by kernel_rfl) (fun _ h => by cases h) asmBack_row_tie rfl ⟨rfl, rfl⟩ (by kernel_rfl) rfl
    (fun f fn hf hfn => by
      obtain rfl : f = 5 := Option.some.inj ((show Tryd.prog.funcNamed Rows.asmBackRow.func = some 5 by kernel_rfl).symm.trans hf) |>.symm
      obtain rfl : fn = Tryd.f5 := (Option.some.inj (Tryd.func5.symm.trans hfn)).symm
      exact ⟨by kernel_rfl, fun j t ht => by
        have hp : (Tryd.f5).params = #[23] := by kernel_rfl
        rw [hp] at ht
        have hm : t ∈ [23] := by simpa using Array.mem_of_getElem? ht
        have hall : ([23].all fun u => !Tryd.prog.wantsStandIn u) = true := by kernel_rfl
        exact (show Tryd.prog.wantsStandIn t = false by simpa using List.all_eq_true.1 hall t hm)⟩)
    (by kernel_rfl)
#print axioms proved
end Go.Proofs.YtlfnddmncbkjaacDoor.AsmBackLaw
