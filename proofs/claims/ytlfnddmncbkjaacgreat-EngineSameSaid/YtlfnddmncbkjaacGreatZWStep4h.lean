import Derived.Test.YtlfnddmncbkjaacGreatZGX
set_option linter.unusedVariables false
set_option linter.unusedSimpArgs false
set_option maxRecDepth 100000
set_option maxHeartbeats 4000000
namespace Go.Proofs.YtlfnddmncbkjaacGreat.Fb
theorem atomS_out(c:qD)(op a b:Int):(qY c op a b).1.out=c.out:=by
  unfold qY
  split
  · split
    · rfl
    · split
      · split
        · show(c.put 18 a b).out=c.out;exact qD.put_out _ _ _ _
        · rfl
      · exact qD.put_out _ _ _ _
  · rfl
def Jc(c:qD)(op a b:Int)(kd:Int):qD:=if(qY c op a b).2.2=true then(qY c op a b).1.set kd (qY c op a b).2.1 else(qY c op a b).1
theorem atomR_out(c:qD)(op a b kd:Int):(Jc c op a b kd).out=c.out:=by
  unfold Jc
  split
  · exact atomS_out c op a b
  · exact atomS_out c op a b
theorem atomR_wf{c:qD}(wf:c.Wf)(op a b kd:Int)(ha:U32 a)(hb:U32 b):(Jc c op a b kd).Wf:=by
  unfold Jc
  split
  · exact(Jb wf op a b ha hb).1.set _ _ (Jb wf op a b ha hb).2
  · exact(Jb wf op a b ha hb).1
end Go.Proofs.YtlfnddmncbkjaacGreat.Fb
namespace Go.Proofs.YtlfnddmncbkjaacGreat.W
open Go.RowKit Fb
theorem atom4_any(d:DidD)(c:qD)(w:World)(hc:qd w d c)(wf:c.Wf)(hl:c.m.length≤4096)(op:Int)(kd k1 k2:Nat)(imm:Int)(hop:46≤op∧op≤56)(hk:kd<32)(a b:Int)(ha:U32 a)(hb':U32 b):
    Calls Tryz.prog 37 #[.agg (qA d),.agg #[.int .i64 op,.int .i64 kd,.int .i64 k1,.int .i64 k2,.int .i32 imm],.int .u32 a,.int .u32 b] w fun e w'=>∃d',e=.returned (.tuple #[.agg (qA d'),.bool (qY c op a b).2.2])∧qd w' d' (Jc c op a b kd)∧(d'.vm=d.vm∨∀q,d'.vm.ownBlock=some q→w.heap.size≤q)∧d'.vo=d.vo∧Below w.heap.size w w':=by
  cases hq:qN c.m 13 a with
  | false =>
    by_cases h46:op=46
    · subst h46
      have e:qY c 46 a b=(c.trap 3,0,false):=by unfold qY;rw[hq];rfl
      unfold Jc
      rw[e]
      exact atom4_lr_no d c w hc wf hl kd k1 k2 imm hk a b ha hb' hq
    · have e:qY c op a b=(c.trap 4,0,false):=by unfold qY;rw[hq,if_neg zL,if_neg h46]
      unfold Jc
      rw[e]
      exact atom4_no d c w hc wf hl op kd k1 k2 imm om hk a b ha hb' hq
  | true =>
    by_cases h46:op=46
    · subst h46
      have e:qY c 46 a b=(c.hold true a,qa c.m 13 a,true):=by unfold qY;rw[hq];rfl
      unfold Jc
      rw[e]
      exact atom4_lr d c w hc wf hl kd k1 k2 imm hk a b ha hb' hq
    · by_cases h47:op=47
      · subst h47
        by_cases hm:(c.h.held&&c.h.heldAt==a)=true
        · have e:qY c 47 a b=((c.put 18 a b).hold false 0,0,true):=by unfold qY;rw[hq,if_pos rfl,if_neg om,if_pos rfl,if_pos hm]
          unfold Jc
          rw[e]
          rw[Bool.and_eq_true,beq_iff_eq]at hm
          exact atom4_sc d c w hc wf hl kd k1 k2 imm hk a b ha hb' hq hm.1 hm.2
        · have e:qY c 47 a b=(c.hold false 0,1,true):=by unfold qY;rw[hq,if_pos rfl,if_neg om,if_pos rfl,if_neg hm]
          unfold Jc
          rw[e]
          refine atom4_sc_no d c w hc wf hl kd k1 k2 imm hk a b ha hb' hq ?_
          cases hh:c.h.held with
          |false=>exact .inl rfl
          |true=>exact .inr ⟨rfl,fun e=>hm (by rw[hh,e];simp)⟩
      · have e:qY c op a b=(c.put 18 a (amo op (qa c.m 13 a) b),qa c.m 13 a,true):=by unfold qY;rw[hq,if_pos rfl,if_neg h46,if_neg h47]
        unfold Jc
        rw[e]
        exact atom4_op d c w hc wf hl op kd k1 k2 imm om hk a b ha hb' hq
end Go.Proofs.YtlfnddmncbkjaacGreat.W
