import Derived.Test.YtlfnddmncbkjaabGreatDoorZGF
set_option linter.unusedVariables false
set_option linter.unusedSimpArgs false
set_option maxRecDepth 100000
set_option maxHeartbeats 4000000
namespace Go.Proofs.YtlfnddmncbkjaabGreatDoor.Fb
open Go.RowKit
end Go.Proofs.YtlfnddmncbkjaabGreatDoor.Fb
namespace Go.Proofs.YtlfnddmncbkjaabGreatDoor.W
open Go.RowKit Fb
theorem uc(op:Int)(w:World)(h:op<100):
    Calls Tryz.prog 145 #[.int .i64 op] w fun e w'=>e=.returned (.tuple #[.int .i64 op,.int .i64 0])∧w'=w:=by
  go_enter Tryz.func145,Tryz.ntmps145
  go_wp2_with fail
  exact sO (v:=.tuple #[.int .i64 op,.int .i64 0]) (by simp[results,Tryz.results145,go_sem]) rfl ⟨rfl,rfl⟩
theorem ue(op c s:Int)(w:World)(h:op=c+s)(hc:100≤c∧c≤9223372036854775807)(hd:c%100=0)(hs:0≤s∧s<100):
    Calls Tryz.prog 145 #[.int .i64 op] w fun e w'=>e=.returned (.tuple #[.int .i64 c,.int .i64 s])∧w'=w:=by
  have h1:¬op<100:=om
  have h2:wrap64 (wrap64 (op.tdiv 100)*100)=c:=by
    rw[Int.tdiv_eq_ediv_of_nonneg om]
    unfold wrap64;omega
  have h3:op%100=s:=om
  have H2:=lI h2
  have H3:=lI h3
  clear h2 h3 h
  go_enter Tryz.func145,Tryz.ntmps145
  go_wp2_with fail
  rw[H2.out,H3.out]
  exact sO (v:=.tuple #[.int .i64 c,.int .i64 s]) (by simp[results,Tryz.results145,go_sem]) rfl ⟨rfl,rfl⟩
end Go.Proofs.YtlfnddmncbkjaabGreatDoor.W
