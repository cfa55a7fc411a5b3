import Derived.Test.YtlfnddmncbkjaabGreatDoorZFbEnc2
set_option linter.unusedVariables false
set_option linter.unusedSimpArgs false
set_option maxRecDepth 100000
set_option maxHeartbeats 4000000
namespace Go.Proofs.YtlfnddmncbkjaabGreatDoor.Fb
open Go.RowKit
theorem immU_b(w:Int): -2147483648≤immU w∧immU w≤2147483647∧immU w%4096=0:=by unfold immU wrap32;omega
theorem immJ_b(w:Int): -1048576≤immJ w∧immJ w≤1048574∧immJ w%2=0:=by unfold immJ sgn;split<;>omega
theorem immI_b(w:Int): -2048≤immI w∧immI w≤2047:=by unfold immI sgn;split<;>omega
theorem immB_b(w:Int): -4096≤immB w∧immB w≤4094∧immB w%2=0:=by unfold immB sgn;split<;>omega
theorem immS_b(w:Int): -2048≤immS w∧immS w≤2047:=by unfold immS sgn;split<;>omega
def I32(x:Int):Prop:= -2147483648≤x∧x≤2147483647
theorem op_forms:∀op∈UU,(1≤op∧op≤59)∧((qC op).form=0→op≤2)∧((qC op).form=1→op=3)∧((qC op).form=2→op=4∨(11≤op∧op≤15)∨(19≤op∧op≤24)∨op=57)∧((qC op).form=3→25≤op∧op≤27)∧((qC op).form=4→5≤op∧op≤10)∧((qC op).form=5→16≤op∧op≤18)∧((qC op).form=7→46≤op∧op≤56)∧((qC op).form=8→op=58∨op=59)∧((qC op).form=6→28≤op∧op≤45)∧0≤(qC op).form∧(qC op).form≤8:=by decide
theorem dec_is(w:Int)(i:InsD)(h:dec w=some i):isS i=true∧I32 i.imm:=by
  unfold dec at h
  obtain⟨op,hd,rfl⟩:=Option.map_eq_some_iff.1 h
  obtain⟨k,f0,f1,f2,f3,f4,f5,f7,f8,f6,g⟩:=op_forms op (List.mem_of_find?_eq_some hd)
  have hm:op=46→w / 1048576%32=0:=fun e=>by
    have:=decOp_match hd
    subst e
    unfold qH at this
    simp only[Bool.and_eq_true,Bool.or_eq_true,bne_iff_ne,ne_eq,not_true_eq_false,false_or,beq_iff_eq]at this
    exact this.2
  clear hd h
  have hU:=immU_b w
  have hJ:=immJ_b w
  have hI:=immI_b w
  have hB:=immB_b w
  have hS:=immS_b w
  generalize (qC op).form=f at *
  have hf:f=0∨f=1∨f=2∨f=3∨f=4∨f=5∨f=6∨f=7∨f=8:=om
  rcases hf with rfl|rfl|rfl|rfl|rfl|rfl|rfl|rfl|rfl<;>unfold QR<;>simp only[Int.reduceBEq,Bool.false_eq_true,if_false,if_true]<;>unfold isS I32<;>(repeat' split)<;>simp only[Bool.and_eq_true,decide_eq_true_eq,true_and,and_true]<;>(try dsimp only at *)<;>omega
theorem isS_known{i:InsD}(h:isS i=true):qy i.op=true∧regsOk i=true:=by
  unfold isS at h
  rw[Bool.and_eq_true,decide_eq_true_eq]at h
  unfold qy regsOk
  simp only[Bool.and_eq_true,decide_eq_true_eq]
  omega
end Go.Proofs.YtlfnddmncbkjaabGreatDoor.Fb
