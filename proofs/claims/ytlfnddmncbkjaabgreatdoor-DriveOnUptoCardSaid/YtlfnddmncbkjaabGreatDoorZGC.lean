import Derived.Test.YtlfnddmncbkjaabGreatDoorZMA
set_option linter.unusedVariables false
set_option linter.unusedSimpArgs false
set_option maxRecDepth 100000
set_option maxHeartbeats 4000000
namespace Go.Proofs.YtlfnddmncbkjaabGreatDoor.W
open Go.RowKit Fb
theorem of_lit1(w:World):
    Calls Tryz.prog 55 #[.int .i64 1] w fun e w'=>e=.returned (.tuple #[.agg (qW (qC 1)),.bool true])∧Below w.heap.size w w':=by
  go_enter Tryz.func55,Tryz.ntmps55
  go_wp2_with go_in
  exact sO (v:=.tuple #[.agg #[.int .i64 0,.int .u32 55,.int .u32 0,.int .u32 0],.bool true]) zB rfl ⟨rfl,by go_grown⟩
theorem of_lit2(w:World):
    Calls Tryz.prog 55 #[.int .i64 2] w fun e w'=>e=.returned (.tuple #[.agg (qW (qC 2)),.bool true])∧Below w.heap.size w w':=by
  go_enter Tryz.func55,Tryz.ntmps55
  go_wp2_with go_in
  exact sO (v:=.tuple #[.agg #[.int .i64 0,.int .u32 23,.int .u32 0,.int .u32 0],.bool true]) zB rfl ⟨rfl,by go_grown⟩
theorem of_lit3(w:World):
    Calls Tryz.prog 55 #[.int .i64 3] w fun e w'=>e=.returned (.tuple #[.agg (qW (qC 3)),.bool true])∧Below w.heap.size w w':=by
  go_enter Tryz.func55,Tryz.ntmps55
  go_wp2_with go_in
  exact sO (v:=.tuple #[.agg #[.int .i64 1,.int .u32 111,.int .u32 0,.int .u32 0],.bool true]) zB rfl ⟨rfl,by go_grown⟩
theorem of_lit4(w:World):
    Calls Tryz.prog 55 #[.int .i64 4] w fun e w'=>e=.returned (.tuple #[.agg (qW (qC 4)),.bool true])∧Below w.heap.size w w':=by
  go_enter Tryz.func55,Tryz.ntmps55
  go_wp2_with go_in
  exact sO (v:=.tuple #[.agg #[.int .i64 2,.int .u32 103,.int .u32 0,.int .u32 0],.bool true]) zB rfl ⟨rfl,by go_grown⟩
theorem of_lit5(w:World):
    Calls Tryz.prog 55 #[.int .i64 5] w fun e w'=>e=.returned (.tuple #[.agg (qW (qC 5)),.bool true])∧Below w.heap.size w w':=by
  go_enter Tryz.func55,Tryz.ntmps55
  go_wp2_with go_in
  exact sO (v:=.tuple #[.agg #[.int .i64 4,.int .u32 99,.int .u32 0,.int .u32 0],.bool true]) zB rfl ⟨rfl,by go_grown⟩
theorem of_lit6(w:World):
    Calls Tryz.prog 55 #[.int .i64 6] w fun e w'=>e=.returned (.tuple #[.agg (qW (qC 6)),.bool true])∧Below w.heap.size w w':=by
  go_enter Tryz.func55,Tryz.ntmps55
  go_wp2_with go_in
  exact sO (v:=.tuple #[.agg #[.int .i64 4,.int .u32 99,.int .u32 1,.int .u32 0],.bool true]) zB rfl ⟨rfl,by go_grown⟩
theorem of_lit7(w:World):
    Calls Tryz.prog 55 #[.int .i64 7] w fun e w'=>e=.returned (.tuple #[.agg (qW (qC 7)),.bool true])∧Below w.heap.size w w':=by
  go_enter Tryz.func55,Tryz.ntmps55
  go_wp2_with go_in
  exact sO (v:=.tuple #[.agg #[.int .i64 4,.int .u32 99,.int .u32 4,.int .u32 0],.bool true]) zB rfl ⟨rfl,by go_grown⟩
theorem of_lit8(w:World):
    Calls Tryz.prog 55 #[.int .i64 8] w fun e w'=>e=.returned (.tuple #[.agg (qW (qC 8)),.bool true])∧Below w.heap.size w w':=by
  go_enter Tryz.func55,Tryz.ntmps55
  go_wp2_with go_in
  exact sO (v:=.tuple #[.agg #[.int .i64 4,.int .u32 99,.int .u32 5,.int .u32 0],.bool true]) zB rfl ⟨rfl,by go_grown⟩
theorem of_lit9(w:World):
    Calls Tryz.prog 55 #[.int .i64 9] w fun e w'=>e=.returned (.tuple #[.agg (qW (qC 9)),.bool true])∧Below w.heap.size w w':=by
  go_enter Tryz.func55,Tryz.ntmps55
  go_wp2_with go_in
  exact sO (v:=.tuple #[.agg #[.int .i64 4,.int .u32 99,.int .u32 6,.int .u32 0],.bool true]) zB rfl ⟨rfl,by go_grown⟩
theorem of_lit10(w:World):
    Calls Tryz.prog 55 #[.int .i64 10] w fun e w'=>e=.returned (.tuple #[.agg (qW (qC 10)),.bool true])∧Below w.heap.size w w':=by
  go_enter Tryz.func55,Tryz.ntmps55
  go_wp2_with go_in
  exact sO (v:=.tuple #[.agg #[.int .i64 4,.int .u32 99,.int .u32 7,.int .u32 0],.bool true]) zB rfl ⟨rfl,by go_grown⟩
theorem of_lit11(w:World):
    Calls Tryz.prog 55 #[.int .i64 11] w fun e w'=>e=.returned (.tuple #[.agg (qW (qC 11)),.bool true])∧Below w.heap.size w w':=by
  go_enter Tryz.func55,Tryz.ntmps55
  go_wp2_with go_in
  exact sO (v:=.tuple #[.agg #[.int .i64 2,.int .u32 3,.int .u32 0,.int .u32 0],.bool true]) zB rfl ⟨rfl,by go_grown⟩
theorem of_lit12(w:World):
    Calls Tryz.prog 55 #[.int .i64 12] w fun e w'=>e=.returned (.tuple #[.agg (qW (qC 12)),.bool true])∧Below w.heap.size w w':=by
  go_enter Tryz.func55,Tryz.ntmps55
  go_wp2_with go_in
  exact sO (v:=.tuple #[.agg #[.int .i64 2,.int .u32 3,.int .u32 1,.int .u32 0],.bool true]) zB rfl ⟨rfl,by go_grown⟩
theorem of_lit13(w:World):
    Calls Tryz.prog 55 #[.int .i64 13] w fun e w'=>e=.returned (.tuple #[.agg (qW (qC 13)),.bool true])∧Below w.heap.size w w':=by
  go_enter Tryz.func55,Tryz.ntmps55
  go_wp2_with go_in
  exact sO (v:=.tuple #[.agg #[.int .i64 2,.int .u32 3,.int .u32 2,.int .u32 0],.bool true]) zB rfl ⟨rfl,by go_grown⟩
theorem of_lit14(w:World):
    Calls Tryz.prog 55 #[.int .i64 14] w fun e w'=>e=.returned (.tuple #[.agg (qW (qC 14)),.bool true])∧Below w.heap.size w w':=by
  go_enter Tryz.func55,Tryz.ntmps55
  go_wp2_with go_in
  exact sO (v:=.tuple #[.agg #[.int .i64 2,.int .u32 3,.int .u32 4,.int .u32 0],.bool true]) zB rfl ⟨rfl,by go_grown⟩
theorem of_lit15(w:World):
    Calls Tryz.prog 55 #[.int .i64 15] w fun e w'=>e=.returned (.tuple #[.agg (qW (qC 15)),.bool true])∧Below w.heap.size w w':=by
  go_enter Tryz.func55,Tryz.ntmps55
  go_wp2_with go_in
  exact sO (v:=.tuple #[.agg #[.int .i64 2,.int .u32 3,.int .u32 5,.int .u32 0],.bool true]) zB rfl ⟨rfl,by go_grown⟩
theorem of_lit16(w:World):
    Calls Tryz.prog 55 #[.int .i64 16] w fun e w'=>e=.returned (.tuple #[.agg (qW (qC 16)),.bool true])∧Below w.heap.size w w':=by
  go_enter Tryz.func55,Tryz.ntmps55
  go_wp2_with go_in
  exact sO (v:=.tuple #[.agg #[.int .i64 5,.int .u32 35,.int .u32 0,.int .u32 0],.bool true]) zB rfl ⟨rfl,by go_grown⟩
theorem of_lit17(w:World):
    Calls Tryz.prog 55 #[.int .i64 17] w fun e w'=>e=.returned (.tuple #[.agg (qW (qC 17)),.bool true])∧Below w.heap.size w w':=by
  go_enter Tryz.func55,Tryz.ntmps55
  go_wp2_with go_in
  exact sO (v:=.tuple #[.agg #[.int .i64 5,.int .u32 35,.int .u32 1,.int .u32 0],.bool true]) zB rfl ⟨rfl,by go_grown⟩
theorem of_lit18(w:World):
    Calls Tryz.prog 55 #[.int .i64 18] w fun e w'=>e=.returned (.tuple #[.agg (qW (qC 18)),.bool true])∧Below w.heap.size w w':=by
  go_enter Tryz.func55,Tryz.ntmps55
  go_wp2_with go_in
  exact sO (v:=.tuple #[.agg #[.int .i64 5,.int .u32 35,.int .u32 2,.int .u32 0],.bool true]) zB rfl ⟨rfl,by go_grown⟩
theorem of_lit19(w:World):
    Calls Tryz.prog 55 #[.int .i64 19] w fun e w'=>e=.returned (.tuple #[.agg (qW (qC 19)),.bool true])∧Below w.heap.size w w':=by
  go_enter Tryz.func55,Tryz.ntmps55
  go_wp2_with go_in
  exact sO (v:=.tuple #[.agg #[.int .i64 2,.int .u32 19,.int .u32 0,.int .u32 0],.bool true]) zB rfl ⟨rfl,by go_grown⟩
theorem of_lit20(w:World):
    Calls Tryz.prog 55 #[.int .i64 20] w fun e w'=>e=.returned (.tuple #[.agg (qW (qC 20)),.bool true])∧Below w.heap.size w w':=by
  go_enter Tryz.func55,Tryz.ntmps55
  go_wp2_with go_in
  exact sO (v:=.tuple #[.agg #[.int .i64 2,.int .u32 19,.int .u32 2,.int .u32 0],.bool true]) zB rfl ⟨rfl,by go_grown⟩
theorem of_lit21(w:World):
    Calls Tryz.prog 55 #[.int .i64 21] w fun e w'=>e=.returned (.tuple #[.agg (qW (qC 21)),.bool true])∧Below w.heap.size w w':=by
  go_enter Tryz.func55,Tryz.ntmps55
  go_wp2_with go_in
  exact sO (v:=.tuple #[.agg #[.int .i64 2,.int .u32 19,.int .u32 3,.int .u32 0],.bool true]) zB rfl ⟨rfl,by go_grown⟩
theorem of_lit22(w:World):
    Calls Tryz.prog 55 #[.int .i64 22] w fun e w'=>e=.returned (.tuple #[.agg (qW (qC 22)),.bool true])∧Below w.heap.size w w':=by
  go_enter Tryz.func55,Tryz.ntmps55
  go_wp2_with go_in
  exact sO (v:=.tuple #[.agg #[.int .i64 2,.int .u32 19,.int .u32 4,.int .u32 0],.bool true]) zB rfl ⟨rfl,by go_grown⟩
theorem of_lit23(w:World):
    Calls Tryz.prog 55 #[.int .i64 23] w fun e w'=>e=.returned (.tuple #[.agg (qW (qC 23)),.bool true])∧Below w.heap.size w w':=by
  go_enter Tryz.func55,Tryz.ntmps55
  go_wp2_with go_in
  exact sO (v:=.tuple #[.agg #[.int .i64 2,.int .u32 19,.int .u32 6,.int .u32 0],.bool true]) zB rfl ⟨rfl,by go_grown⟩
theorem of_lit24(w:World):
    Calls Tryz.prog 55 #[.int .i64 24] w fun e w'=>e=.returned (.tuple #[.agg (qW (qC 24)),.bool true])∧Below w.heap.size w w':=by
  go_enter Tryz.func55,Tryz.ntmps55
  go_wp2_with go_in
  exact sO (v:=.tuple #[.agg #[.int .i64 2,.int .u32 19,.int .u32 7,.int .u32 0],.bool true]) zB rfl ⟨rfl,by go_grown⟩
theorem of_lit25(w:World):
    Calls Tryz.prog 55 #[.int .i64 25] w fun e w'=>e=.returned (.tuple #[.agg (qW (qC 25)),.bool true])∧Below w.heap.size w w':=by
  go_enter Tryz.func55,Tryz.ntmps55
  go_wp2_with go_in
  exact sO (v:=.tuple #[.agg #[.int .i64 3,.int .u32 19,.int .u32 1,.int .u32 0],.bool true]) zB rfl ⟨rfl,by go_grown⟩
theorem of_lit26(w:World):
    Calls Tryz.prog 55 #[.int .i64 26] w fun e w'=>e=.returned (.tuple #[.agg (qW (qC 26)),.bool true])∧Below w.heap.size w w':=by
  go_enter Tryz.func55,Tryz.ntmps55
  go_wp2_with go_in
  exact sO (v:=.tuple #[.agg #[.int .i64 3,.int .u32 19,.int .u32 5,.int .u32 0],.bool true]) zB rfl ⟨rfl,by go_grown⟩
theorem of_lit27(w:World):
    Calls Tryz.prog 55 #[.int .i64 27] w fun e w'=>e=.returned (.tuple #[.agg (qW (qC 27)),.bool true])∧Below w.heap.size w w':=by
  go_enter Tryz.func55,Tryz.ntmps55
  go_wp2_with go_in
  exact sO (v:=.tuple #[.agg #[.int .i64 3,.int .u32 19,.int .u32 5,.int .u32 32],.bool true]) zB rfl ⟨rfl,by go_grown⟩
theorem of_lit28(w:World):
    Calls Tryz.prog 55 #[.int .i64 28] w fun e w'=>e=.returned (.tuple #[.agg (qW (qC 28)),.bool true])∧Below w.heap.size w w':=by
  go_enter Tryz.func55,Tryz.ntmps55
  go_wp2_with go_in
  exact sO (v:=.tuple #[.agg #[.int .i64 6,.int .u32 51,.int .u32 0,.int .u32 0],.bool true]) zB rfl ⟨rfl,by go_grown⟩
theorem of_lit29(w:World):
    Calls Tryz.prog 55 #[.int .i64 29] w fun e w'=>e=.returned (.tuple #[.agg (qW (qC 29)),.bool true])∧Below w.heap.size w w':=by
  go_enter Tryz.func55,Tryz.ntmps55
  go_wp2_with go_in
  exact sO (v:=.tuple #[.agg #[.int .i64 6,.int .u32 51,.int .u32 0,.int .u32 32],.bool true]) zB rfl ⟨rfl,by go_grown⟩
theorem of_lit30(w:World):
    Calls Tryz.prog 55 #[.int .i64 30] w fun e w'=>e=.returned (.tuple #[.agg (qW (qC 30)),.bool true])∧Below w.heap.size w w':=by
  go_enter Tryz.func55,Tryz.ntmps55
  go_wp2_with go_in
  exact sO (v:=.tuple #[.agg #[.int .i64 6,.int .u32 51,.int .u32 1,.int .u32 0],.bool true]) zB rfl ⟨rfl,by go_grown⟩
theorem of_lit31(w:World):
    Calls Tryz.prog 55 #[.int .i64 31] w fun e w'=>e=.returned (.tuple #[.agg (qW (qC 31)),.bool true])∧Below w.heap.size w w':=by
  go_enter Tryz.func55,Tryz.ntmps55
  go_wp2_with go_in
  exact sO (v:=.tuple #[.agg #[.int .i64 6,.int .u32 51,.int .u32 2,.int .u32 0],.bool true]) zB rfl ⟨rfl,by go_grown⟩
theorem of_lit32(w:World):
    Calls Tryz.prog 55 #[.int .i64 32] w fun e w'=>e=.returned (.tuple #[.agg (qW (qC 32)),.bool true])∧Below w.heap.size w w':=by
  go_enter Tryz.func55,Tryz.ntmps55
  go_wp2_with go_in
  exact sO (v:=.tuple #[.agg #[.int .i64 6,.int .u32 51,.int .u32 3,.int .u32 0],.bool true]) zB rfl ⟨rfl,by go_grown⟩
theorem of_lit33(w:World):
    Calls Tryz.prog 55 #[.int .i64 33] w fun e w'=>e=.returned (.tuple #[.agg (qW (qC 33)),.bool true])∧Below w.heap.size w w':=by
  go_enter Tryz.func55,Tryz.ntmps55
  go_wp2_with go_in
  exact sO (v:=.tuple #[.agg #[.int .i64 6,.int .u32 51,.int .u32 4,.int .u32 0],.bool true]) zB rfl ⟨rfl,by go_grown⟩
theorem of_lit34(w:World):
    Calls Tryz.prog 55 #[.int .i64 34] w fun e w'=>e=.returned (.tuple #[.agg (qW (qC 34)),.bool true])∧Below w.heap.size w w':=by
  go_enter Tryz.func55,Tryz.ntmps55
  go_wp2_with go_in
  exact sO (v:=.tuple #[.agg #[.int .i64 6,.int .u32 51,.int .u32 5,.int .u32 0],.bool true]) zB rfl ⟨rfl,by go_grown⟩
theorem of_lit35(w:World):
    Calls Tryz.prog 55 #[.int .i64 35] w fun e w'=>e=.returned (.tuple #[.agg (qW (qC 35)),.bool true])∧Below w.heap.size w w':=by
  go_enter Tryz.func55,Tryz.ntmps55
  go_wp2_with go_in
  exact sO (v:=.tuple #[.agg #[.int .i64 6,.int .u32 51,.int .u32 5,.int .u32 32],.bool true]) zB rfl ⟨rfl,by go_grown⟩
theorem of_lit36(w:World):
    Calls Tryz.prog 55 #[.int .i64 36] w fun e w'=>e=.returned (.tuple #[.agg (qW (qC 36)),.bool true])∧Below w.heap.size w w':=by
  go_enter Tryz.func55,Tryz.ntmps55
  go_wp2_with go_in
  exact sO (v:=.tuple #[.agg #[.int .i64 6,.int .u32 51,.int .u32 6,.int .u32 0],.bool true]) zB rfl ⟨rfl,by go_grown⟩
theorem of_lit37(w:World):
    Calls Tryz.prog 55 #[.int .i64 37] w fun e w'=>e=.returned (.tuple #[.agg (qW (qC 37)),.bool true])∧Below w.heap.size w w':=by
  go_enter Tryz.func55,Tryz.ntmps55
  go_wp2_with go_in
  exact sO (v:=.tuple #[.agg #[.int .i64 6,.int .u32 51,.int .u32 7,.int .u32 0],.bool true]) zB rfl ⟨rfl,by go_grown⟩
theorem of_lit38(w:World):
    Calls Tryz.prog 55 #[.int .i64 38] w fun e w'=>e=.returned (.tuple #[.agg (qW (qC 38)),.bool true])∧Below w.heap.size w w':=by
  go_enter Tryz.func55,Tryz.ntmps55
  go_wp2_with go_in
  exact sO (v:=.tuple #[.agg #[.int .i64 6,.int .u32 51,.int .u32 0,.int .u32 1],.bool true]) zB rfl ⟨rfl,by go_grown⟩
theorem of_lit39(w:World):
    Calls Tryz.prog 55 #[.int .i64 39] w fun e w'=>e=.returned (.tuple #[.agg (qW (qC 39)),.bool true])∧Below w.heap.size w w':=by
  go_enter Tryz.func55,Tryz.ntmps55
  go_wp2_with go_in
  exact sO (v:=.tuple #[.agg #[.int .i64 6,.int .u32 51,.int .u32 1,.int .u32 1],.bool true]) zB rfl ⟨rfl,by go_grown⟩
theorem of_lit40(w:World):
    Calls Tryz.prog 55 #[.int .i64 40] w fun e w'=>e=.returned (.tuple #[.agg (qW (qC 40)),.bool true])∧Below w.heap.size w w':=by
  go_enter Tryz.func55,Tryz.ntmps55
  go_wp2_with go_in
  exact sO (v:=.tuple #[.agg #[.int .i64 6,.int .u32 51,.int .u32 2,.int .u32 1],.bool true]) zB rfl ⟨rfl,by go_grown⟩
theorem of_lit41(w:World):
    Calls Tryz.prog 55 #[.int .i64 41] w fun e w'=>e=.returned (.tuple #[.agg (qW (qC 41)),.bool true])∧Below w.heap.size w w':=by
  go_enter Tryz.func55,Tryz.ntmps55
  go_wp2_with go_in
  exact sO (v:=.tuple #[.agg #[.int .i64 6,.int .u32 51,.int .u32 3,.int .u32 1],.bool true]) zB rfl ⟨rfl,by go_grown⟩
theorem of_lit42(w:World):
    Calls Tryz.prog 55 #[.int .i64 42] w fun e w'=>e=.returned (.tuple #[.agg (qW (qC 42)),.bool true])∧Below w.heap.size w w':=by
  go_enter Tryz.func55,Tryz.ntmps55
  go_wp2_with go_in
  exact sO (v:=.tuple #[.agg #[.int .i64 6,.int .u32 51,.int .u32 4,.int .u32 1],.bool true]) zB rfl ⟨rfl,by go_grown⟩
theorem of_lit43(w:World):
    Calls Tryz.prog 55 #[.int .i64 43] w fun e w'=>e=.returned (.tuple #[.agg (qW (qC 43)),.bool true])∧Below w.heap.size w w':=by
  go_enter Tryz.func55,Tryz.ntmps55
  go_wp2_with go_in
  exact sO (v:=.tuple #[.agg #[.int .i64 6,.int .u32 51,.int .u32 5,.int .u32 1],.bool true]) zB rfl ⟨rfl,by go_grown⟩
theorem of_lit44(w:World):
    Calls Tryz.prog 55 #[.int .i64 44] w fun e w'=>e=.returned (.tuple #[.agg (qW (qC 44)),.bool true])∧Below w.heap.size w w':=by
  go_enter Tryz.func55,Tryz.ntmps55
  go_wp2_with go_in
  exact sO (v:=.tuple #[.agg #[.int .i64 6,.int .u32 51,.int .u32 6,.int .u32 1],.bool true]) zB rfl ⟨rfl,by go_grown⟩
theorem of_lit45(w:World):
    Calls Tryz.prog 55 #[.int .i64 45] w fun e w'=>e=.returned (.tuple #[.agg (qW (qC 45)),.bool true])∧Below w.heap.size w w':=by
  go_enter Tryz.func55,Tryz.ntmps55
  go_wp2_with go_in
  exact sO (v:=.tuple #[.agg #[.int .i64 6,.int .u32 51,.int .u32 7,.int .u32 1],.bool true]) zB rfl ⟨rfl,by go_grown⟩
theorem of_lit46(w:World):
    Calls Tryz.prog 55 #[.int .i64 46] w fun e w'=>e=.returned (.tuple #[.agg (qW (qC 46)),.bool true])∧Below w.heap.size w w':=by
  go_enter Tryz.func55,Tryz.ntmps55
  go_wp2_with go_in
  exact sO (v:=.tuple #[.agg #[.int .i64 7,.int .u32 47,.int .u32 2,.int .u32 2],.bool true]) zB rfl ⟨rfl,by go_grown⟩
theorem of_lit47(w:World):
    Calls Tryz.prog 55 #[.int .i64 47] w fun e w'=>e=.returned (.tuple #[.agg (qW (qC 47)),.bool true])∧Below w.heap.size w w':=by
  go_enter Tryz.func55,Tryz.ntmps55
  go_wp2_with go_in
  exact sO (v:=.tuple #[.agg #[.int .i64 7,.int .u32 47,.int .u32 2,.int .u32 3],.bool true]) zB rfl ⟨rfl,by go_grown⟩
theorem of_lit48(w:World):
    Calls Tryz.prog 55 #[.int .i64 48] w fun e w'=>e=.returned (.tuple #[.agg (qW (qC 48)),.bool true])∧Below w.heap.size w w':=by
  go_enter Tryz.func55,Tryz.ntmps55
  go_wp2_with go_in
  exact sO (v:=.tuple #[.agg #[.int .i64 7,.int .u32 47,.int .u32 2,.int .u32 1],.bool true]) zB rfl ⟨rfl,by go_grown⟩
theorem of_lit49(w:World):
    Calls Tryz.prog 55 #[.int .i64 49] w fun e w'=>e=.returned (.tuple #[.agg (qW (qC 49)),.bool true])∧Below w.heap.size w w':=by
  go_enter Tryz.func55,Tryz.ntmps55
  go_wp2_with go_in
  exact sO (v:=.tuple #[.agg #[.int .i64 7,.int .u32 47,.int .u32 2,.int .u32 0],.bool true]) zB rfl ⟨rfl,by go_grown⟩
theorem of_lit50(w:World):
    Calls Tryz.prog 55 #[.int .i64 50] w fun e w'=>e=.returned (.tuple #[.agg (qW (qC 50)),.bool true])∧Below w.heap.size w w':=by
  go_enter Tryz.func55,Tryz.ntmps55
  go_wp2_with go_in
  exact sO (v:=.tuple #[.agg #[.int .i64 7,.int .u32 47,.int .u32 2,.int .u32 4],.bool true]) zB rfl ⟨rfl,by go_grown⟩
theorem of_lit51(w:World):
    Calls Tryz.prog 55 #[.int .i64 51] w fun e w'=>e=.returned (.tuple #[.agg (qW (qC 51)),.bool true])∧Below w.heap.size w w':=by
  go_enter Tryz.func55,Tryz.ntmps55
  go_wp2_with go_in
  exact sO (v:=.tuple #[.agg #[.int .i64 7,.int .u32 47,.int .u32 2,.int .u32 12],.bool true]) zB rfl ⟨rfl,by go_grown⟩
theorem of_lit52(w:World):
    Calls Tryz.prog 55 #[.int .i64 52] w fun e w'=>e=.returned (.tuple #[.agg (qW (qC 52)),.bool true])∧Below w.heap.size w w':=by
  go_enter Tryz.func55,Tryz.ntmps55
  go_wp2_with go_in
  exact sO (v:=.tuple #[.agg #[.int .i64 7,.int .u32 47,.int .u32 2,.int .u32 8],.bool true]) zB rfl ⟨rfl,by go_grown⟩
theorem of_lit53(w:World):
    Calls Tryz.prog 55 #[.int .i64 53] w fun e w'=>e=.returned (.tuple #[.agg (qW (qC 53)),.bool true])∧Below w.heap.size w w':=by
  go_enter Tryz.func55,Tryz.ntmps55
  go_wp2_with go_in
  exact sO (v:=.tuple #[.agg #[.int .i64 7,.int .u32 47,.int .u32 2,.int .u32 16],.bool true]) zB rfl ⟨rfl,by go_grown⟩
theorem of_lit54(w:World):
    Calls Tryz.prog 55 #[.int .i64 54] w fun e w'=>e=.returned (.tuple #[.agg (qW (qC 54)),.bool true])∧Below w.heap.size w w':=by
  go_enter Tryz.func55,Tryz.ntmps55
  go_wp2_with go_in
  exact sO (v:=.tuple #[.agg #[.int .i64 7,.int .u32 47,.int .u32 2,.int .u32 20],.bool true]) zB rfl ⟨rfl,by go_grown⟩
theorem of_lit55(w:World):
    Calls Tryz.prog 55 #[.int .i64 55] w fun e w'=>e=.returned (.tuple #[.agg (qW (qC 55)),.bool true])∧Below w.heap.size w w':=by
  go_enter Tryz.func55,Tryz.ntmps55
  go_wp2_with go_in
  exact sO (v:=.tuple #[.agg #[.int .i64 7,.int .u32 47,.int .u32 2,.int .u32 24],.bool true]) zB rfl ⟨rfl,by go_grown⟩
theorem of_lit56(w:World):
    Calls Tryz.prog 55 #[.int .i64 56] w fun e w'=>e=.returned (.tuple #[.agg (qW (qC 56)),.bool true])∧Below w.heap.size w w':=by
  go_enter Tryz.func55,Tryz.ntmps55
  go_wp2_with go_in
  exact sO (v:=.tuple #[.agg #[.int .i64 7,.int .u32 47,.int .u32 2,.int .u32 28],.bool true]) zB rfl ⟨rfl,by go_grown⟩
theorem of_lit57(w:World):
    Calls Tryz.prog 55 #[.int .i64 57] w fun e w'=>e=.returned (.tuple #[.agg (qW (qC 57)),.bool true])∧Below w.heap.size w w':=by
  go_enter Tryz.func55,Tryz.ntmps55
  go_wp2_with go_in
  exact sO (v:=.tuple #[.agg #[.int .i64 2,.int .u32 15,.int .u32 0,.int .u32 0],.bool true]) zB rfl ⟨rfl,by go_grown⟩
theorem of_lit58(w:World):
    Calls Tryz.prog 55 #[.int .i64 58] w fun e w'=>e=.returned (.tuple #[.agg (qW (qC 58)),.bool true])∧Below w.heap.size w w':=by
  go_enter Tryz.func55,Tryz.ntmps55
  go_wp2_with go_in
  exact sO (v:=.tuple #[.agg #[.int .i64 8,.int .u32 115,.int .u32 0,.int .u32 0],.bool true]) zB rfl ⟨rfl,by go_grown⟩
theorem of_lit59(w:World):
    Calls Tryz.prog 55 #[.int .i64 59] w fun e w'=>e=.returned (.tuple #[.agg (qW (qC 59)),.bool true])∧Below w.heap.size w w':=by
  go_enter Tryz.func55,Tryz.ntmps55
  go_wp2_with go_in
  exact sO (v:=.tuple #[.agg #[.int .i64 8,.int .u32 115,.int .u32 0,.int .u32 1],.bool true]) zB rfl ⟨rfl,by go_grown⟩
theorem of_no(op:Int)(w:World)(h:op<1∨59<op):
    Calls Tryz.prog 55 #[.int .i64 op] w fun e w'=>e=.returned (.tuple #[.agg (qW (qC op)),.bool false])∧Below w.heap.size w w':=by
  have hk:qC op=⟨0,0,0,0⟩:=by unfold qC qy;rw[if_neg zL]
  rw[hk]
  clear hk
  have f:∀c:Int,1≤c→c≤59→(op==c)=false:=fun c h1 h2=>by simpa using (by omega:op≠c)
  have f1:=f 1 om om
  have f2:=f 2 om om
  have f3:=f 3 om om
  have f4:=f 4 om om
  have f25:=f 25 om om
  have f26:=f 26 om om
  have f27:=f 27 om om
  have f29:=f 29 om om
  have f35:=f 35 om om
  have f57:=f 57 om om
  have f58:=f 58 om om
  have f59:=f 59 om om
  clear f
  rcases h with h|h
  all_goals
    go_enter Tryz.func55,Tryz.ntmps55
    go_wp2_with go_in
    exact sO (v:=.tuple #[.agg #[.int .i64 0,.int .u32 0,.int .u32 0,.int .u32 0],.bool false]) zB rfl ⟨rfl,by go_grown⟩
theorem of_any(op:Int)(w:World):
    Calls Tryz.prog 55 #[.int .i64 op] w fun e w'=>e=.returned (.tuple #[.agg (qW (qC op)),.bool (qy op)])∧Below w.heap.size w w':=by
  by_cases h:op<1∨59<op
  · rw[show qy op=false from by unfold qy;simp;omega]
    exact of_no op w h
  · rw[show qy op=true from by unfold qy;simp;omega]
    have hc:op=1∨op=2∨op=3∨op=4∨op=5∨op=6∨op=7∨op=8∨op=9∨op=10∨op=11∨op=12∨op=13∨op=14∨op=15∨op=16∨op=17∨op=18∨op=19∨op=20∨op=21∨op=22∨op=23∨op=24∨op=25∨op=26∨op=27∨op=28∨op=29∨op=30∨op=31∨op=32∨op=33∨op=34∨op=35∨op=36∨op=37∨op=38∨op=39∨op=40∨op=41∨op=42∨op=43∨op=44∨op=45∨op=46∨op=47∨op=48∨op=49∨op=50∨op=51∨op=52∨op=53∨op=54∨op=55∨op=56∨op=57∨op=58∨op=59:=om
    rcases hc with rfl|rfl|rfl|rfl|rfl|rfl|rfl|rfl|rfl|rfl|rfl|rfl|rfl|rfl|rfl|rfl|rfl|rfl|rfl|rfl|rfl|rfl|rfl|rfl|rfl|rfl|rfl|rfl|rfl|rfl|rfl|rfl|rfl|rfl|rfl|rfl|rfl|rfl|rfl|rfl|rfl|rfl|rfl|rfl|rfl|rfl|rfl|rfl|rfl|rfl|rfl|rfl|rfl|rfl|rfl|rfl|rfl|rfl|rfl
    · exact of_lit1 w
    · exact of_lit2 w
    · exact of_lit3 w
    · exact of_lit4 w
    · exact of_lit5 w
    · exact of_lit6 w
    · exact of_lit7 w
    · exact of_lit8 w
    · exact of_lit9 w
    · exact of_lit10 w
    · exact of_lit11 w
    · exact of_lit12 w
    · exact of_lit13 w
    · exact of_lit14 w
    · exact of_lit15 w
    · exact of_lit16 w
    · exact of_lit17 w
    · exact of_lit18 w
    · exact of_lit19 w
    · exact of_lit20 w
    · exact of_lit21 w
    · exact of_lit22 w
    · exact of_lit23 w
    · exact of_lit24 w
    · exact of_lit25 w
    · exact of_lit26 w
    · exact of_lit27 w
    · exact of_lit28 w
    · exact of_lit29 w
    · exact of_lit30 w
    · exact of_lit31 w
    · exact of_lit32 w
    · exact of_lit33 w
    · exact of_lit34 w
    · exact of_lit35 w
    · exact of_lit36 w
    · exact of_lit37 w
    · exact of_lit38 w
    · exact of_lit39 w
    · exact of_lit40 w
    · exact of_lit41 w
    · exact of_lit42 w
    · exact of_lit43 w
    · exact of_lit44 w
    · exact of_lit45 w
    · exact of_lit46 w
    · exact of_lit47 w
    · exact of_lit48 w
    · exact of_lit49 w
    · exact of_lit50 w
    · exact of_lit51 w
    · exact of_lit52 w
    · exact of_lit53 w
    · exact of_lit54 w
    · exact of_lit55 w
    · exact of_lit56 w
    · exact of_lit57 w
    · exact of_lit58 w
    · exact of_lit59 w
theorem cO{p:Prop}(h:p:=by
 go_enter Tryz.func57,Tryz.ntmps57
 go_wp2
 go_quiet (fail)
 go_wp2
 go_ret
 exact⟨qs zR,nq,rfl⟩):p:=h
theorem cut_0_6(x:Int)(w:World)(hx:U32 x):Calls Tryz.prog 57 #[.int .u32 x,.int .i64 0,.int .i64 6] w fun e w'=>e=.returned (.int .u32 (x%128))∧∃n,w'=w.drewN n:=by
  obtain⟨h0,h1⟩:=hx
  have hm:bits .and .u32 (x) 127=x%128:=Qf _ 7 om 127 rfl om om
  exact cO
theorem cut_12_14(x:Int)(w:World)(hx:U32 x):Calls Tryz.prog 57 #[.int .u32 x,.int .i64 12,.int .i64 14] w fun e w'=>e=.returned (.int .u32 (x / 4096%8))∧∃n,w'=w.drewN n:=by
  obtain⟨h0,h1⟩:=hx
  have hm:bits .and .u32 (x / 4096) 7=x / 4096%8:=Qf _ 3 om 7 rfl om om
  exact cO
theorem cut_25_31(x:Int)(w:World)(hx:U32 x):Calls Tryz.prog 57 #[.int .u32 x,.int .i64 25,.int .i64 31] w fun e w'=>e=.returned (.int .u32 (x / 33554432%128))∧∃n,w'=w.drewN n:=by
  obtain⟨h0,h1⟩:=hx
  have hm:bits .and .u32 (x / 33554432) 127=x / 33554432%128:=Qf _ 7 om 127 rfl om om
  exact cO
theorem cut_27_31(x:Int)(w:World)(hx:U32 x):Calls Tryz.prog 57 #[.int .u32 x,.int .i64 27,.int .i64 31] w fun e w'=>e=.returned (.int .u32 (x / 134217728%32))∧∃n,w'=w.drewN n:=by
  obtain⟨h0,h1⟩:=hx
  have hm:bits .and .u32 (x / 134217728) 31=x / 134217728%32:=Qf _ 5 om 31 rfl om om
  exact cO
theorem JK(x:Int)(w:World)(hx:U32 x):Calls Tryz.prog 57 #[.int .u32 x,.int .i64 7,.int .i64 11] w fun e w'=>e=.returned (.int .u32 (x / 128%32))∧∃n,w'=w.drewN n:=by
  obtain⟨h0,h1⟩:=hx
  have hm:bits .and .u32 (x / 128) 31=x / 128%32:=Qf _ 5 om 31 rfl om om
  exact cO
theorem jm(x:Int)(w:World)(hx:U32 x):Calls Tryz.prog 57 #[.int .u32 x,.int .i64 15,.int .i64 19] w fun e w'=>e=.returned (.int .u32 (x / 32768%32))∧∃n,w'=w.drewN n:=by
  obtain⟨h0,h1⟩:=hx
  have hm:bits .and .u32 (x / 32768) 31=x / 32768%32:=Qf _ 5 om 31 rfl om om
  exact cO
theorem jL(x:Int)(w:World)(hx:U32 x):Calls Tryz.prog 57 #[.int .u32 x,.int .i64 20,.int .i64 24] w fun e w'=>e=.returned (.int .u32 (x / 1048576%32))∧∃n,w'=w.drewN n:=by
  obtain⟨h0,h1⟩:=hx
  have hm:bits .and .u32 (x / 1048576) 31=x / 1048576%32:=Qf _ 5 om 31 rfl om om
  exact cO
theorem cut_31_31(x:Int)(w:World)(hx:U32 x):Calls Tryz.prog 57 #[.int .u32 x,.int .i64 31,.int .i64 31] w fun e w'=>e=.returned (.int .u32 (x / 2147483648%2))∧∃n,w'=w.drewN n:=by
  obtain⟨h0,h1⟩:=hx
  have hm:bits .and .u32 (x / 2147483648) 1=x / 2147483648%2:=Qf _ 1 om 1 rfl om om
  exact cO
theorem JT(x:Int)(w:World)(hx:U32 x):Calls Tryz.prog 57 #[.int .u32 x,.int .i64 12,.int .i64 19] w fun e w'=>e=.returned (.int .u32 (x / 4096%256))∧∃n,w'=w.drewN n:=by
  obtain⟨h0,h1⟩:=hx
  have hm:bits .and .u32 (x / 4096) 255=x / 4096%256:=Qf _ 8 om 255 rfl om om
  exact cO
theorem JS(x:Int)(w:World)(hx:U32 x):Calls Tryz.prog 57 #[.int .u32 x,.int .i64 20,.int .i64 20] w fun e w'=>e=.returned (.int .u32 (x / 1048576%2))∧∃n,w'=w.drewN n:=by
  obtain⟨h0,h1⟩:=hx
  have hm:bits .and .u32 (x / 1048576) 1=x / 1048576%2:=Qf _ 1 om 1 rfl om om
  exact cO
theorem cut_21_30(x:Int)(w:World)(hx:U32 x):Calls Tryz.prog 57 #[.int .u32 x,.int .i64 21,.int .i64 30] w fun e w'=>e=.returned (.int .u32 (x / 2097152%1024))∧∃n,w'=w.drewN n:=by
  obtain⟨h0,h1⟩:=hx
  have hm:bits .and .u32 (x / 2097152) 1023=x / 2097152%1024:=Qf _ 10 om 1023 rfl om om
  exact cO
theorem cut_20_31(x:Int)(w:World)(hx:U32 x):Calls Tryz.prog 57 #[.int .u32 x,.int .i64 20,.int .i64 31] w fun e w'=>e=.returned (.int .u32 (x / 1048576%4096))∧∃n,w'=w.drewN n:=by
  obtain⟨h0,h1⟩:=hx
  have hm:bits .and .u32 (x / 1048576) 4095=x / 1048576%4096:=Qf _ 12 om 4095 rfl om om
  exact cO
theorem cut_7_7(x:Int)(w:World)(hx:U32 x):Calls Tryz.prog 57 #[.int .u32 x,.int .i64 7,.int .i64 7] w fun e w'=>e=.returned (.int .u32 (x / 128%2))∧∃n,w'=w.drewN n:=by
  obtain⟨h0,h1⟩:=hx
  have hm:bits .and .u32 (x / 128) 1=x / 128%2:=Qf _ 1 om 1 rfl om om
  exact cO
theorem cut_25_30(x:Int)(w:World)(hx:U32 x):Calls Tryz.prog 57 #[.int .u32 x,.int .i64 25,.int .i64 30] w fun e w'=>e=.returned (.int .u32 (x / 33554432%64))∧∃n,w'=w.drewN n:=by
  obtain⟨h0,h1⟩:=hx
  have hm:bits .and .u32 (x / 33554432) 63=x / 33554432%64:=Qf _ 6 om 63 rfl om om
  exact cO
theorem cut_8_11(x:Int)(w:World)(hx:U32 x):Calls Tryz.prog 57 #[.int .u32 x,.int .i64 8,.int .i64 11] w fun e w'=>e=.returned (.int .u32 (x / 256%16))∧∃n,w'=w.drewN n:=by
  obtain⟨h0,h1⟩:=hx
  have hm:bits .and .u32 (x / 256) 15=x / 256%16:=Qf _ 4 om 15 rfl om om
  exact cO
theorem cut_25_26(x:Int)(w:World)(hx:U32 x):Calls Tryz.prog 57 #[.int .u32 x,.int .i64 25,.int .i64 26] w fun e w'=>e=.returned (.int .u32 (x / 33554432%4))∧∃n,w'=w.drewN n:=by
  obtain⟨h0,h1⟩:=hx
  have hm:bits .and .u32 (x / 33554432) 3=x / 33554432%4:=Qf _ 2 om 3 rfl om om
  exact cO
theorem Ji(x:Int)(w:World)(hx:U32 x):Calls Tryz.prog 57 #[.int .u32 x,.int .i64 11,.int .i64 11] w fun e w'=>e=.returned (.int .u32 (x / 2048%2))∧∃n,w'=w.drewN n:=by
  obtain⟨h0,h1⟩:=hx
  have hm:bits .and .u32 (x / 2048) 1=x / 2048%2:=Qf _ 1 om 1 rfl om om
  exact cO
theorem ut(x:Int)(w:World)(hx:U32 x):Calls Tryz.prog 57 #[.int .u32 x,.int .i64 1,.int .i64 10] w fun e w'=>e=.returned (.int .u32 (x / 2%1024))∧∃n,w'=w.drewN n:=by
  obtain⟨h0,h1⟩:=hx
  have hm:bits .and .u32 (x / 2) 1023=x / 2%1024:=Qf _ 10 om 1023 rfl om om
  exact cO
theorem uu(x:Int)(w:World)(hx:U32 x):Calls Tryz.prog 57 #[.int .u32 x,.int .i64 0,.int .i64 11] w fun e w'=>e=.returned (.int .u32 (x%4096))∧∃n,w'=w.drewN n:=by
  obtain⟨h0,h1⟩:=hx
  have hm:bits .and .u32 (x) 4095=x%4096:=Qf _ 12 om 4095 rfl om om
  exact cO
theorem UY(x:Int)(w:World)(hx:U32 x):Calls Tryz.prog 57 #[.int .u32 x,.int .i64 0,.int .i64 4] w fun e w'=>e=.returned (.int .u32 (x%32))∧∃n,w'=w.drewN n:=by
  obtain⟨h0,h1⟩:=hx
  have hm:bits .and .u32 (x) 31=x%32:=Qf _ 5 om 31 rfl om om
  exact cO
theorem Jh(x:Int)(w:World)(hx:U32 x):Calls Tryz.prog 57 #[.int .u32 x,.int .i64 12,.int .i64 12] w fun e w'=>e=.returned (.int .u32 (x / 4096%2))∧∃n,w'=w.drewN n:=by
  obtain⟨h0,h1⟩:=hx
  have hm:bits .and .u32 (x / 4096) 1=x / 4096%2:=Qf _ 1 om 1 rfl om om
  exact cO
theorem ur(x:Int)(w:World)(hx:U32 x):Calls Tryz.prog 57 #[.int .u32 x,.int .i64 5,.int .i64 10] w fun e w'=>e=.returned (.int .u32 (x / 32%64))∧∃n,w'=w.drewN n:=by
  obtain⟨h0,h1⟩:=hx
  have hm:bits .and .u32 (x / 32) 63=x / 32%64:=Qf _ 6 om 63 rfl om om
  exact cO
theorem cut_1_4(x:Int)(w:World)(hx:U32 x):Calls Tryz.prog 57 #[.int .u32 x,.int .i64 1,.int .i64 4] w fun e w'=>e=.returned (.int .u32 (x / 2%16))∧∃n,w'=w.drewN n:=by
  obtain⟨h0,h1⟩:=hx
  have hm:bits .and .u32 (x / 2) 15=x / 2%16:=Qf _ 4 om 15 rfl om om
  exact cO
theorem uq(x:Int)(w:World)(hx:U32 x):Calls Tryz.prog 57 #[.int .u32 x,.int .i64 5,.int .i64 11] w fun e w'=>e=.returned (.int .u32 (x / 32%128))∧∃n,w'=w.drewN n:=by
  obtain⟨h0,h1⟩:=hx
  have hm:bits .and .u32 (x / 32) 127=x / 32%128:=Qf _ 7 om 127 rfl om om
  exact cO
theorem UZ(x:Int)(w:World)(hx:U32 x):Calls Tryz.prog 57 #[.int .u32 x,.int .i64 0,.int .i64 1] w fun e w'=>e=.returned (.int .u32 (x%4))∧∃n,w'=w.drewN n:=by
  obtain⟨h0,h1⟩:=hx
  have hm:bits .and .u32 (x) 3=x%4:=Qf _ 2 om 3 rfl om om
  exact cO
theorem tells_any(f l m u x:Int)(w:World)(hx:U32 x)(hl:0≤l∧l<128)(hm:0≤m∧m<8)(hu:0≤u∧u<128):
    Calls Tryz.prog 56 #[.agg #[.int .i64 f,.int .u32 l,.int .u32 m,.int .u32 u],.int .u32 x] w fun e w'=>e=.returned (.bool (qV ⟨f,l,m,u⟩ x))∧Below w.heap.size w w':=by
  have HX:=lI hx
  have HE:Hid (bits .or .u32 l (u*1048576)=l+u*1048576):=lI (or_hi l u 20 om hl.1 om hu.1 om)
  obtain⟨hx0,hx1⟩:=hx
  obtain⟨hl0,hl1⟩:=hl
  obtain⟨hm0,hm1⟩:=hm
  obtain⟨hu0,hu1⟩:=hu
  have hsh:u*1048576%4294967296=u*1048576:=om
  have HSH:=lI hsh
  clear hsh
  by_cases h1:x%128=l
  · have g1:(x%128==l)=true:=by simpa using h1
    have g2:(x%128 !=l)=false:=by simpa using h1
    have H1:=lI g2
    clear h1
    by_cases h2:x / 4096%8=m
    all_goals
      first
      |have g3:(x / 4096%8==m)=true:=by simpa using h2
      |have g3:(x / 4096%8==m)=false:=by simpa using h2
      have H3:=lI g3
      clear h2
      go_enter Tryz.func56,Tryz.ntmps56
      go_wp2_with fail
      go_quiet (first|(go_at_call 57;exact Calls.quiet_of (cut_0_6 _ _ HX.out)))
      go_wp2_with fail
      all_goals first
        |go_ret
        | (go_quiet (first | (go_at_call 57; first | (with_reducible exact quiet_add (cut_12_14 _ _ HX.out)) | (with_reducible exact quiet_add (cut_25_31 _ _ HX.out)) | (with_reducible exact quiet_add (cut_27_31 _ _ HX.out))))
           go_wp2_with fail
           go_ret)
      all_goals refine⟨Qe ?_,by first|exact qB (qB (by go_grown) _) _|exact qB (by go_grown) _⟩
      all_goals have he:=HE.out
      all_goals have h1:=HSH.out
      all_goals clear HE HSH HX H1 H3
      all_goals first|(simp[qV, *];done)|(simp[qV, *];omega)
  · have g1:(x%128==l)=false:=by simpa using h1
    have g2:(x%128 !=l)=true:=by simpa using h1
    have H1:=lI g2
    clear h1
    go_enter Tryz.func56,Tryz.ntmps56
    go_wp2_with fail
    go_quiet (first|(go_at_call 57;exact Calls.quiet_of (cut_0_6 _ _ HX.out)))
    go_wp2_with fail
    go_ret
    exact⟨Qe (by unfold qV;rw[if_pos H1.out]),qB (by go_grown) _⟩
end Go.Proofs.YtlfnddmncbkjaabGreatDoor.W
