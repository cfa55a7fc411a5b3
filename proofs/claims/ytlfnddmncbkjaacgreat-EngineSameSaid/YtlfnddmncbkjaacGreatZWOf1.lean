import Derived.Test.YtlfnddmncbkjaacGreatZMA
set_option linter.unusedVariables false
set_option linter.unusedSimpArgs false
set_option maxRecDepth 100000
set_option maxHeartbeats 4000000
namespace Go.Proofs.YtlfnddmncbkjaacGreat.W
open Go.RowKit Fb
theorem of_lit1(w:World):
    Calls Tryz.prog 85 #[.int .i64 1] w fun e w'=>e=.returned (.tuple #[.agg (qg (qF 1)),.bool true])∧Below w.heap.size w w':=by
  go_enter Tryz.func85,Tryz.ntmps85
  go_wp2_with go_in
  exact sP (v:=.tuple #[.agg #[.int .i64 0,.int .u32 55,.int .u32 0,.int .u32 0],.bool true]) zC rfl ⟨rfl,by go_grown⟩
theorem of_lit2(w:World):
    Calls Tryz.prog 85 #[.int .i64 2] w fun e w'=>e=.returned (.tuple #[.agg (qg (qF 2)),.bool true])∧Below w.heap.size w w':=by
  go_enter Tryz.func85,Tryz.ntmps85
  go_wp2_with go_in
  exact sP (v:=.tuple #[.agg #[.int .i64 0,.int .u32 23,.int .u32 0,.int .u32 0],.bool true]) zC rfl ⟨rfl,by go_grown⟩
theorem of_lit3(w:World):
    Calls Tryz.prog 85 #[.int .i64 3] w fun e w'=>e=.returned (.tuple #[.agg (qg (qF 3)),.bool true])∧Below w.heap.size w w':=by
  go_enter Tryz.func85,Tryz.ntmps85
  go_wp2_with go_in
  exact sP (v:=.tuple #[.agg #[.int .i64 1,.int .u32 111,.int .u32 0,.int .u32 0],.bool true]) zC rfl ⟨rfl,by go_grown⟩
theorem of_lit4(w:World):
    Calls Tryz.prog 85 #[.int .i64 4] w fun e w'=>e=.returned (.tuple #[.agg (qg (qF 4)),.bool true])∧Below w.heap.size w w':=by
  go_enter Tryz.func85,Tryz.ntmps85
  go_wp2_with go_in
  exact sP (v:=.tuple #[.agg #[.int .i64 2,.int .u32 103,.int .u32 0,.int .u32 0],.bool true]) zC rfl ⟨rfl,by go_grown⟩
theorem of_lit5(w:World):
    Calls Tryz.prog 85 #[.int .i64 5] w fun e w'=>e=.returned (.tuple #[.agg (qg (qF 5)),.bool true])∧Below w.heap.size w w':=by
  go_enter Tryz.func85,Tryz.ntmps85
  go_wp2_with go_in
  exact sP (v:=.tuple #[.agg #[.int .i64 4,.int .u32 99,.int .u32 0,.int .u32 0],.bool true]) zC rfl ⟨rfl,by go_grown⟩
theorem of_lit6(w:World):
    Calls Tryz.prog 85 #[.int .i64 6] w fun e w'=>e=.returned (.tuple #[.agg (qg (qF 6)),.bool true])∧Below w.heap.size w w':=by
  go_enter Tryz.func85,Tryz.ntmps85
  go_wp2_with go_in
  exact sP (v:=.tuple #[.agg #[.int .i64 4,.int .u32 99,.int .u32 1,.int .u32 0],.bool true]) zC rfl ⟨rfl,by go_grown⟩
theorem of_lit7(w:World):
    Calls Tryz.prog 85 #[.int .i64 7] w fun e w'=>e=.returned (.tuple #[.agg (qg (qF 7)),.bool true])∧Below w.heap.size w w':=by
  go_enter Tryz.func85,Tryz.ntmps85
  go_wp2_with go_in
  exact sP (v:=.tuple #[.agg #[.int .i64 4,.int .u32 99,.int .u32 4,.int .u32 0],.bool true]) zC rfl ⟨rfl,by go_grown⟩
theorem of_lit8(w:World):
    Calls Tryz.prog 85 #[.int .i64 8] w fun e w'=>e=.returned (.tuple #[.agg (qg (qF 8)),.bool true])∧Below w.heap.size w w':=by
  go_enter Tryz.func85,Tryz.ntmps85
  go_wp2_with go_in
  exact sP (v:=.tuple #[.agg #[.int .i64 4,.int .u32 99,.int .u32 5,.int .u32 0],.bool true]) zC rfl ⟨rfl,by go_grown⟩
theorem of_lit9(w:World):
    Calls Tryz.prog 85 #[.int .i64 9] w fun e w'=>e=.returned (.tuple #[.agg (qg (qF 9)),.bool true])∧Below w.heap.size w w':=by
  go_enter Tryz.func85,Tryz.ntmps85
  go_wp2_with go_in
  exact sP (v:=.tuple #[.agg #[.int .i64 4,.int .u32 99,.int .u32 6,.int .u32 0],.bool true]) zC rfl ⟨rfl,by go_grown⟩
theorem of_lit10(w:World):
    Calls Tryz.prog 85 #[.int .i64 10] w fun e w'=>e=.returned (.tuple #[.agg (qg (qF 10)),.bool true])∧Below w.heap.size w w':=by
  go_enter Tryz.func85,Tryz.ntmps85
  go_wp2_with go_in
  exact sP (v:=.tuple #[.agg #[.int .i64 4,.int .u32 99,.int .u32 7,.int .u32 0],.bool true]) zC rfl ⟨rfl,by go_grown⟩
theorem of_lit11(w:World):
    Calls Tryz.prog 85 #[.int .i64 11] w fun e w'=>e=.returned (.tuple #[.agg (qg (qF 11)),.bool true])∧Below w.heap.size w w':=by
  go_enter Tryz.func85,Tryz.ntmps85
  go_wp2_with go_in
  exact sP (v:=.tuple #[.agg #[.int .i64 2,.int .u32 3,.int .u32 0,.int .u32 0],.bool true]) zC rfl ⟨rfl,by go_grown⟩
theorem of_lit12(w:World):
    Calls Tryz.prog 85 #[.int .i64 12] w fun e w'=>e=.returned (.tuple #[.agg (qg (qF 12)),.bool true])∧Below w.heap.size w w':=by
  go_enter Tryz.func85,Tryz.ntmps85
  go_wp2_with go_in
  exact sP (v:=.tuple #[.agg #[.int .i64 2,.int .u32 3,.int .u32 1,.int .u32 0],.bool true]) zC rfl ⟨rfl,by go_grown⟩
theorem of_lit13(w:World):
    Calls Tryz.prog 85 #[.int .i64 13] w fun e w'=>e=.returned (.tuple #[.agg (qg (qF 13)),.bool true])∧Below w.heap.size w w':=by
  go_enter Tryz.func85,Tryz.ntmps85
  go_wp2_with go_in
  exact sP (v:=.tuple #[.agg #[.int .i64 2,.int .u32 3,.int .u32 2,.int .u32 0],.bool true]) zC rfl ⟨rfl,by go_grown⟩
theorem of_lit14(w:World):
    Calls Tryz.prog 85 #[.int .i64 14] w fun e w'=>e=.returned (.tuple #[.agg (qg (qF 14)),.bool true])∧Below w.heap.size w w':=by
  go_enter Tryz.func85,Tryz.ntmps85
  go_wp2_with go_in
  exact sP (v:=.tuple #[.agg #[.int .i64 2,.int .u32 3,.int .u32 4,.int .u32 0],.bool true]) zC rfl ⟨rfl,by go_grown⟩
theorem of_lit15(w:World):
    Calls Tryz.prog 85 #[.int .i64 15] w fun e w'=>e=.returned (.tuple #[.agg (qg (qF 15)),.bool true])∧Below w.heap.size w w':=by
  go_enter Tryz.func85,Tryz.ntmps85
  go_wp2_with go_in
  exact sP (v:=.tuple #[.agg #[.int .i64 2,.int .u32 3,.int .u32 5,.int .u32 0],.bool true]) zC rfl ⟨rfl,by go_grown⟩
theorem of_lit16(w:World):
    Calls Tryz.prog 85 #[.int .i64 16] w fun e w'=>e=.returned (.tuple #[.agg (qg (qF 16)),.bool true])∧Below w.heap.size w w':=by
  go_enter Tryz.func85,Tryz.ntmps85
  go_wp2_with go_in
  exact sP (v:=.tuple #[.agg #[.int .i64 5,.int .u32 35,.int .u32 0,.int .u32 0],.bool true]) zC rfl ⟨rfl,by go_grown⟩
theorem of_lit17(w:World):
    Calls Tryz.prog 85 #[.int .i64 17] w fun e w'=>e=.returned (.tuple #[.agg (qg (qF 17)),.bool true])∧Below w.heap.size w w':=by
  go_enter Tryz.func85,Tryz.ntmps85
  go_wp2_with go_in
  exact sP (v:=.tuple #[.agg #[.int .i64 5,.int .u32 35,.int .u32 1,.int .u32 0],.bool true]) zC rfl ⟨rfl,by go_grown⟩
theorem of_lit18(w:World):
    Calls Tryz.prog 85 #[.int .i64 18] w fun e w'=>e=.returned (.tuple #[.agg (qg (qF 18)),.bool true])∧Below w.heap.size w w':=by
  go_enter Tryz.func85,Tryz.ntmps85
  go_wp2_with go_in
  exact sP (v:=.tuple #[.agg #[.int .i64 5,.int .u32 35,.int .u32 2,.int .u32 0],.bool true]) zC rfl ⟨rfl,by go_grown⟩
theorem of_lit19(w:World):
    Calls Tryz.prog 85 #[.int .i64 19] w fun e w'=>e=.returned (.tuple #[.agg (qg (qF 19)),.bool true])∧Below w.heap.size w w':=by
  go_enter Tryz.func85,Tryz.ntmps85
  go_wp2_with go_in
  exact sP (v:=.tuple #[.agg #[.int .i64 2,.int .u32 19,.int .u32 0,.int .u32 0],.bool true]) zC rfl ⟨rfl,by go_grown⟩
theorem of_lit20(w:World):
    Calls Tryz.prog 85 #[.int .i64 20] w fun e w'=>e=.returned (.tuple #[.agg (qg (qF 20)),.bool true])∧Below w.heap.size w w':=by
  go_enter Tryz.func85,Tryz.ntmps85
  go_wp2_with go_in
  exact sP (v:=.tuple #[.agg #[.int .i64 2,.int .u32 19,.int .u32 2,.int .u32 0],.bool true]) zC rfl ⟨rfl,by go_grown⟩
theorem of_lit21(w:World):
    Calls Tryz.prog 85 #[.int .i64 21] w fun e w'=>e=.returned (.tuple #[.agg (qg (qF 21)),.bool true])∧Below w.heap.size w w':=by
  go_enter Tryz.func85,Tryz.ntmps85
  go_wp2_with go_in
  exact sP (v:=.tuple #[.agg #[.int .i64 2,.int .u32 19,.int .u32 3,.int .u32 0],.bool true]) zC rfl ⟨rfl,by go_grown⟩
theorem of_lit22(w:World):
    Calls Tryz.prog 85 #[.int .i64 22] w fun e w'=>e=.returned (.tuple #[.agg (qg (qF 22)),.bool true])∧Below w.heap.size w w':=by
  go_enter Tryz.func85,Tryz.ntmps85
  go_wp2_with go_in
  exact sP (v:=.tuple #[.agg #[.int .i64 2,.int .u32 19,.int .u32 4,.int .u32 0],.bool true]) zC rfl ⟨rfl,by go_grown⟩
end Go.Proofs.YtlfnddmncbkjaacGreat.W
