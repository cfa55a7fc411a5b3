/- AsmAgain: every text that is an instruction's is just its text. What is listed reads as listed; the text is of bounded bulk. -/
import Derived.Test.YtlfnddmncbkjaacDoorZWAsm14
import Derived.Test.YtlfnddmncbkjaacDoorZErrLaid
import Derived.Test.YtlfnddmncbkjaacDoorZRowLaidU
import Derived.Test.YtlfnddmncbkjaacDoorZMA
namespace Go.Proofs.YtlfnddmncbkjaacDoor.AsmAgainLaw
set_option linter.unusedVariables false
set_option linter.unusedSimpArgs false
open Go.RowKit Fb W
theorem ecall_text : textS ⟨58, 0, 0, 0, 0⟩ = [101, 99, 97, 108, 108] := by decide
set_option maxRecDepth 100000 in
set_option maxHeartbeats 1600000 in
theorem walk (l : List UInt8) (hl : l.length ≤ 1048576) (w : World)
    (HT : Hid (Lib.TabBelow Tryd.prog w.heap.size w "internal/strconv.uint64pow10" .u64 Lib.pow10Tab)) (HS : Hid (Lib.TabBelow Tryd.prog w.heap.size w "strings.asciiSpace" .u8 Lib.asciiSpaceTab))
    (HY : Hid (ErrAt w.heap.size w "strconv.ErrSyntax")) (HR : Hid (ErrAt w.heap.size w "strconv.ErrRange")) :
    Calls Tryd.prog 6 #[.string (bs l)] w fun e w' => e = .returned (.bool true) ∧ Below w.heap.size w w' := by
  have HP := Lib.hid (fun W (hW : Below w.heap.size w W) (i : InsD) (wf : I32 i.imm) => print_any i wf W (Lib.hid (tab_at HT.out hW hW.size)) (Lib.hid (tab_at HS.out hW hW.size)))
  have HE : Hid (∀ W, Below w.heap.size w W → Calls Tryd.prog 10 #[.string ⟨#[101, 99, 97, 108, 108]⟩] W fun e w' => e = .returned (.tuple #[.agg #[.int .i64 58, .int .i64 0, .int .i64 0, .int .i64 0, .int .i32 0], .int .i64 0]) ∧ Below W.heap.size W w') := Lib.hid (fun W hW => (parse_any [101, 99, 97, 108, 108] (by decide) W (Lib.hid (tab_at HT.out hW hW.size)) (Lib.hid (tab_at HS.out hW hW.size)) (Lib.hid (HY.out.on hW hW.size)) (Lib.hid (HR.out.on hW hW.size))).mono (by
    rintro e w' ⟨⟨i, c, hp, rfl⟩, hb⟩
    have h2 := parsed_text (i := ⟨58, 0, 0, 0, 0⟩) (by decide) (by unfold I32; decide)
    rw [ecall_text] at h2
    obtain ⟨rfl, rfl⟩ := hp.one h2
    exact ⟨rfl, hb⟩))
  have HQ := Lib.hid (fun (W : World) (hW : Below w.heap.size w W) => parse_any l (by omega) W (Lib.hid (tab_at HT.out hW hW.size)) (Lib.hid (tab_at HS.out hW hW.size)) (Lib.hid (HY.out.on hW hW.size)) (Lib.hid (HR.out.on hW hW.size)))
  clear HT HS HY HR hl
  go_enter Tryd.func6, Tryd.ntmps6
  go_wp2_with fail
  refine (HE.out w (Below.refl _ _)).mono ?_
  rintro e w1 ⟨rfl, hb1⟩
  have HB1 := Lib.hid hb1
  clear hb1 HE
  go_wp2_with fail
  refine (HQ.out _ (HB1.out.alloc HB1.out.size _)).mono ?_
  rintro e w3 ⟨⟨j, c, hj, rfl⟩, hb3⟩
  have HB3 := Lib.hid ((HB1.out.alloc HB1.out.size _).trans (hb3.mono (HB1.out.alloc HB1.out.size _).size))
  clear hb3 HQ
  rcases hj with ⟨h1, h2, h3, rfl⟩ | ⟨-, rfl, rfl⟩
  · have HP3 := Lib.hid (fun W hW => HP.out W hW j h2)
    rw [if_pos h1, if_pos h1, h3] at HP3
    clear HP h1 h2 h3
    obtain ⟨op, rd, rs1, rs2, imm⟩ := j
    simp only [icells] at HP3 ⊢
    obtain ⟨w4, hw4⟩ : ∃ w4, w4 = w3.alloc (.cells #[.int .i64 op, .int .i64 rd, .int .i64 rs1, .int .i64 rs2, .int .i32 imm] 23) := ⟨_, rfl⟩
    have hb4 : Below w3.heap.size w3 w4 := by rw [hw4]; exact (by repeat (first | with_reducible exact Below.refl _ _ | with_reducible refine below_drewN ?_ _ | ((with_reducible refine Below.setCell ?_ ?hq _); case hq => (first | (simp; done) | (simp; omega))) | ((with_reducible refine Below.alloc ?_ ?hq _); case hq => (first | (simp; done) | (simp; omega)))))
    have g0 : (w4).cell? ⟨w3.heap.size, 0, none⟩ = some (.int .i64 op) := by rw [hw4]; go_cell
    have g1 : (w4).cell? ⟨w3.heap.size, 1, none⟩ = some (.int .i64 rd) := by rw [hw4]; go_cell
    have g2 : (w4).cell? ⟨w3.heap.size, 2, none⟩ = some (.int .i64 rs1) := by rw [hw4]; go_cell
    have g3 : (w4).cell? ⟨w3.heap.size, 3, none⟩ = some (.int .i64 rs2) := by rw [hw4]; go_cell
    have g4 : (w4).cell? ⟨w3.heap.size, 4, none⟩ = some (.int .i32 imm) := by rw [hw4]; go_cell
    have HW4 := Lib.hid hw4
    have HB4 := Lib.hid (HB3.out.trans (hb4.mono HB3.out.size))
    have HP4 := Lib.hid (HP3.out w4 HB4.out)
    clear hw4 hb4 HP3
    go_upto_region 5 with (fail)
    rw [← HW4.out]
    go_wp2_with fail
    refine HP4.out.mono ?_
    rintro e w5 ⟨rfl, hb5⟩
    have HB5 := Lib.hid (HB4.out.trans (hb5.mono HB4.out.size))
    clear hb5 HP4 g0 g1 g2 g3 g4
    go_wp2_with fail
    all_goals go_ret
    all_goals exact ⟨by first | rfl | simp, HB5.out⟩
  · clear HP
    simp only [icells]
    go_wp2_with fail
    all_goals go_ret
    all_goals exact ⟨by first | rfl | simp, HB3.out.alloc HB3.out.size _⟩
open RowB in
set_option maxRecDepth 100000 in
set_option maxHeartbeats 1600000 in
theorem lifted (os : Os) (started : os.Started) (H : Type) (enc : TypeId × Value → H) (F : Stop.Interp) :
    ReturnsInHanded {} Tryd.checked os 6 .any (fun w args => ((Rows.OpenSpec.upto Rows.asmAgainSpec).pre enc Tryd.prog Tryd.f6 [] false w args ∧ laidMetH Tryd.prog Rows.asmAgainUptoRow.laid w) ∧ sizedMet enc Tryd.prog Tryd.f6 (Rows.OpenSpec.upto Rows.asmAgainSpec) false w args) (((Rows.OpenSpec.upto Rows.asmAgainSpec).at F).post enc Tryd.prog Tryd.f6 false true false false) := by
  refine RowB.law_lifted_laid_upto (C := Tryd.checked) (s := Rows.asmAgainSpec) (k := Rows.uptoSmall) (laid := Rows.asmAgainUptoRow.laid) (tb := 4) (by kernel_rfl) started (by kernel_rfl) (by kernel_rfl) (by kernel_rfl)
    (RowB.witness_laid (enc := enc) (C := Tryd.checked) (os := os) (s := Rows.OpenSpec.upto Rows.asmAgainSpec) (k := Rows.uptoSmall) rfl (X := fun w _ => laidMetH Tryd.prog Rows.asmAgainUptoRow.laid w) (World.doorLaid Tryd.prog 400 os) #[.string ⟨#[]⟩] 8 rfl (World.shaped_of_RefB (by kernel_rfl) (by kernel_rfl)) (by kernel_rfl) (x := ([.lit (.string [])], [], [])) (by kernel_rfl) (by kernel_rfl) (by kernel_rfl) (by kernel_rfl)
      (laidMetH_of_parts3 (fuel := 8) (laidMet_of_run' 8 (by kernel_rfl) (by kernel_rfl)) (by kernel_rfl) (by kernel_rfl)))
    rfl (fun ds h => by match ds, h with | [_], _ => rfl) (by kernel_rfl) (by kernel_rfl) (by kernel_rfl) (of_decide_eq_true (by kernel_rfl)) ?_
  intro W base args ds ps hval hA _ hz hk hL
  have hp : (Tryd.f6).params.toList = [9] := by kernel_rfl
  rw [hp] at hA hz
  obtain ⟨v0, vs0, d0, ds0, p0, q0, hargs, rfl, rfl, h0, r0⟩ := ChangeShapes.trodAll_cons hA
  obtain ⟨rfl, rfl, rfl⟩ := ChangeShapes.trodAll_nil r0
  obtain rfl : args = #[v0] := by cases args; simp_all
  obtain ⟨z0, y0⟩ := weights_cons hz
  have k0 := hval 0 9 v0 (by kernel_rfl) rfl
  obtain ⟨s, rfl, rfl, -, -⟩ := ChangeMaps.open_string Tryd.underlying9 k0 h0
  have hb : s.data.toList.length ≤ 1048576 := by
    have := of_decide_eq_true hk
    simp only [Rows.uptoBulkAll, Rows.uptoBulk] at this
    omega
  have hs : s = bs s.data.toList := rfl
  rw [hs]
  exact walk s.data.toList hb W (Lib.hid (pow10_of (g := 5) (t := 137) (e := 118) (by kernel_rfl) (by kernel_rfl) Tryd.underlying137 Tryd.underlying118 (by kernel_rfl) (by kernel_rfl) hL.tail.tail))
    (Lib.hid (space_of (g := 0) (t := 83) (e := 5) (by kernel_rfl) (by kernel_rfl) Tryd.underlying83 Tryd.underlying5 (by kernel_rfl) (by kernel_rfl) hL.tail.tail.tail.tail.tail.tail))
    (Lib.hid (errAt_laid (g := 3) hL.tail.tail.tail.tail (by kernel_rfl) (by kernel_rfl)))
    (Lib.hid (errAt_laid (g := 4) hL.tail.tail.tail (by kernel_rfl) (by kernel_rfl)))
/-- THE ROW -/
theorem row_holds : Rows.AsmAgainUptoSaid :=
  OpenClaim.holds_of_cond 6 Tryd.f6 rfl rfl rfl rfl rfl rfl rfl ⟨rfl, rfl, rfl, rfl, rfl⟩ rfl rfl rfl rfl rfl (by kernel_rfl) Tryd.func6 (by kernel_rfl)
    (of_decide_eq_true (by kernel_rfl)) (by unfold Func.isWrapper; first | (rw [if_pos (by decide +kernel)]; kernel_rfl) | (rw [if_neg (by decide +kernel)]; exact ⟨rfl, rfl⟩))
    (fun os started H enc _ F => lifted os started H enc F)
/-- THE STATEMENT: the tied card -/
theorem proved : Rows.AsmAgainUptoCardSaid :=
  Claim7.holds_tied_plain_at .later [] Rows.asmAgainUptoCard.laidKinds true (true, "5e6fb440e56bbf4791a853b2f1a8f5e56388f4d2db02a472e7e0b64105bc5363") true
    row_holds (fun _ h => by cases h) (by kernel_rfl) (fun _ h => by cases h) asmAgainUpto_row_tie rfl ⟨rfl, rfl⟩ (by kernel_rfl) rfl
    (fun f fn hf hfn => by
      obtain rfl : f = 6 := Option.some.inj ((show Tryd.prog.funcNamed Rows.asmAgainUptoRow.func = some 6 by kernel_rfl).symm.trans hf) |>.symm
      obtain rfl : fn = Tryd.f6 := (Option.some.inj (Tryd.func6.symm.trans hfn)).symm
      exact ⟨by kernel_rfl, fun j t ht => by
        have hp : (Tryd.f6).params = #[9] := by kernel_rfl
        rw [hp] at ht
        have hm : t ∈ [9] := by simpa using Array.mem_of_getElem? ht
        have hall : ([9].all fun u => !Tryd.prog.wantsStandIn u) = true := by kernel_rfl
        exact (show Tryd.prog.wantsStandIn t = false by simpa using List.all_eq_true.1 hall t hm)⟩)
    (by kernel_rfl)
#print axioms proved
end Go.Proofs.YtlfnddmncbkjaacDoor.AsmAgainLaw
