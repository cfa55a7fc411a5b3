import Derived.Test.YtlfnddmncbkjaacGreatZGU
set_option linter.unusedVariables false
set_option linter.unusedSimpArgs false
set_option maxRecDepth 100000
set_option maxHeartbeats 4000000
namespace Go.Proofs.YtlfnddmncbkjaacGreat.W
open Go.RowKit Fb
section
variable {cp hb ho : Nat} {vm : Value} {d : qD} {w : World}
theorem do_store_no(h:qP cp hb ho vm 43 w d)(wf:d.Wf)(hlen:d.out.length<1099511627776)(op:Int)(kd k1 k2:Nat)(imm:Int)(hop:16≤op∧op≤18)(hd:kd<32)(h1:k1<32)(h2:k2<32)(hq:qU d.m op ((d.h.reg k1+imm%4294967296)%4294967296)=false)(hi: -2147483648≤imm∧imm≤2147483647):
    Calls Tryz.prog 45 #[.pointer (some ⟨cp,0,none⟩),.agg #[.int .i64 op,.int .i64 kd,.int .i64 k1,.int .i64 k2,.int .i32 imm]] w fun e w'=>e=.returned (.tuple #[])∧qP cp hb ho vm 43 w' (doS ⟨op,kd,k1,k2,imm⟩ d)∧Cgo cp hb ho vm 43 w w':=by
  obtain⟨o0,o1⟩:=hop
  have f1:(op==1)=false:=sH.2 om
  have f2:(op==2)=false:=sH.2 om
  have f3:(op==3)=false:=sH.2 om
  have f4:(op==4)=false:=sH.2 om
  obtain⟨i0,i1⟩:=hi
  obtain⟨xa,hxa⟩:∃x,x=d.h.regs.getD k1 0:=⟨_,rfl⟩
  obtain⟨xb,hxb⟩:∃x,x=d.h.regs.getD k2 0:=⟨_,rfl⟩
  obtain⟨xn,hxn⟩:∃x,x=imm%4294967296:=⟨_,rfl⟩
  obtain⟨pc,hpc⟩:∃x,x=d.h.pc:=⟨_,rfl⟩
  have era:d.h.reg (k1:Int)=xa:=zX
  have erb:d.h.reg (k2:Int)=xb:=zW
  rw[era,←hxn]at hq
  have ua:U32 xa:=zZ
  have ub:U32 xb:=zY
  have un:U32 xn:=zO
  have up:U32 pc:=yG
  have e:doS ⟨op,kd,k1,k2,imm⟩ d=d.trap 4:=by
    unfold doS
    dsimp only
    rw[era,erb,←hxn,←hpc]
    rw[if_neg om,if_neg om,if_neg om,if_neg om,if_neg om,if_neg om,if_pos om,if_neg wF]
  rw[e]
  clear e
  have HPut:=lI (fun W hW=>cput_any (cp:=cp) (hb:=hb) (ho:=ho) (vm:=vm) (d:=d) (w:=W) hW wf op ((xa+xn)%4294967296) xb (QG _) ub)
  rw[hq,show d.put op ((xa+xn)%4294967296) xb=d by unfold qD.put;rw[hq];rfl]at HPut
  have hne:=h.hbl
  have HA:=lI ua
  have HB:=lI ub
  have HN:=lI un
  have HU:=lI up
  obtain⟨w1,hw1⟩:∃w1,w1=w.alloc (.cells #[.int .i64 op,.int .i64 kd,.int .i64 k1,.int .i64 k2,.int .i32 imm] 82):=⟨_,rfl⟩
  have H1:Hid (qP cp hb ho vm 43 w1 d):=lI zN
  have G1:Hid (Cgo cp hb ho vm 43 w w1):=lI zJ
  have hbx:cp<w.heap.size:=h.lt
  have HX:Hid (w1.heap[w.heap.size]? =some (.cells #[.int .i64 op,.int .i64 kd,.int .i64 k1,.int .i64 k2,.int .i32 imm] 82 (0,0))):=lI zI
  have q0:(w1).cell? ⟨w.heap.size,0,none⟩=some (.int .i64 op):=zA
  have q1:(w1).cell? ⟨w.heap.size,1,none⟩=some (.int .i64 kd):=zA
  have q2:(w1).cell? ⟨w.heap.size,2,none⟩=some (.int .i64 k1):=zA
  have q3:(w1).cell? ⟨w.heap.size,3,none⟩=some (.int .i64 k2):=zA
  have q4:(w1).cell? ⟨w.heap.size,4,none⟩=some (.int .i32 imm):=zA
  have HW1:=lI hw1
  clear hw1 h
  have hp:=H1.out.ptr
  have hca:=H1.out.hart.get (qV wf.h k1 h1)
  have hcb:=H1.out.hart.get (qV wf.h k2 h2)
  have hc32:=H1.out.hart.get (qe wf.h)
  rw[←hxa]at hca
  rw[←hxb]at hcb
  rw[←hpc]at hc32
  have HPC:=lI hpc
  have HIM:=lI hxn
  clear hxa hxb era erb hpc ua ub un up hxn
  obtain⟨b1,b2⟩:=HU.out
  have j1:(k1:Int)<32:=om
  have j2:(k2:Int)<32:=om
  go_enter Tryz.func45,Tryz.ntmps45
  go_upto_region 1 with(fail)
  rw[←HW1.out]
  go_quiet (fail)
  rw[←HIM.out]
  clear hca hcb
  obtain⟨n0,n1⟩:=HN.out
  obtain⟨a0,a1⟩:=HA.out
  go_upto_region 24 with(go_at_call 73;refine(HPut.out _ (H1.out.drewN _)).mono ?_;rintro e w2 ⟨rfl,hc,hg⟩)
  clear hp hc32 q0 q1 q2 q3 q4
  have HG2:=lI ((G1.out.drewN _).trans hg)
  clear hg
  go_wp2_with (go_at_call 44;refine(uC hc wf.h _).mono ?_;rintro e w3 ⟨rfl,hc3,hg3⟩)
  exact sP (results_none zP _ _ _) rfl ⟨rfl,hc3,HG2.out.trans hg3⟩
theorem do_store_yes(h:qP cp hb ho vm 43 w d)(wf:d.Wf)(hlen:d.out.length<1099511627776)(op:Int)(kd k1 k2:Nat)(imm:Int)(hop:16≤op∧op≤18)(hd:kd<32)(h1:k1<32)(h2:k2<32)(hq:qU d.m op ((d.h.reg k1+imm%4294967296)%4294967296)=true)(hi: -2147483648≤imm∧imm≤2147483647):
    Calls Tryz.prog 45 #[.pointer (some ⟨cp,0,none⟩),.agg #[.int .i64 op,.int .i64 kd,.int .i64 k1,.int .i64 k2,.int .i32 imm]] w fun e w'=>e=.returned (.tuple #[])∧qP cp hb ho vm 43 w' (doS ⟨op,kd,k1,k2,imm⟩ d)∧Cgo cp hb ho vm 43 w w':=by
  obtain⟨o0,o1⟩:=hop
  have f1:(op==1)=false:=sH.2 om
  have f2:(op==2)=false:=sH.2 om
  have f3:(op==3)=false:=sH.2 om
  have f4:(op==4)=false:=sH.2 om
  obtain⟨i0,i1⟩:=hi
  obtain⟨xa,hxa⟩:∃x,x=d.h.regs.getD k1 0:=⟨_,rfl⟩
  obtain⟨xb,hxb⟩:∃x,x=d.h.regs.getD k2 0:=⟨_,rfl⟩
  obtain⟨xn,hxn⟩:∃x,x=imm%4294967296:=⟨_,rfl⟩
  obtain⟨pc,hpc⟩:∃x,x=d.h.pc:=⟨_,rfl⟩
  have era:d.h.reg (k1:Int)=xa:=zX
  have erb:d.h.reg (k2:Int)=xb:=zW
  rw[era,←hxn]at hq
  have ua:U32 xa:=zZ
  have ub:U32 xb:=zY
  have un:U32 xn:=zO
  have up:U32 pc:=yG
  have e:doS ⟨op,kd,k1,k2,imm⟩ d=(d.put op ((xa+xn)%4294967296) xb).setPc ((pc+4)%4294967296):=by
    unfold doS
    dsimp only
    rw[era,erb,←hxn,←hpc]
    rw[if_neg om,if_neg om,if_neg om,if_neg om,if_neg om,if_neg om,if_pos om,if_pos hq]
  rw[e]
  clear e
  have HPut:=lI (fun W hW=>cput_any (cp:=cp) (hb:=hb) (ho:=ho) (vm:=vm) (d:=d) (w:=W) hW wf op ((xa+xn)%4294967296) xb (QG _) ub)
  rw[hq]at HPut
  have hne:=h.hbl
  have HA:=lI ua
  have HB:=lI ub
  have HN:=lI un
  have HU:=lI up
  obtain⟨w1,hw1⟩:∃w1,w1=w.alloc (.cells #[.int .i64 op,.int .i64 kd,.int .i64 k1,.int .i64 k2,.int .i32 imm] 82):=⟨_,rfl⟩
  have H1:Hid (qP cp hb ho vm 43 w1 d):=lI zN
  have G1:Hid (Cgo cp hb ho vm 43 w w1):=lI zJ
  have hbx:cp<w.heap.size:=h.lt
  have HX:Hid (w1.heap[w.heap.size]? =some (.cells #[.int .i64 op,.int .i64 kd,.int .i64 k1,.int .i64 k2,.int .i32 imm] 82 (0,0))):=lI zI
  have q0:(w1).cell? ⟨w.heap.size,0,none⟩=some (.int .i64 op):=zA
  have q1:(w1).cell? ⟨w.heap.size,1,none⟩=some (.int .i64 kd):=zA
  have q2:(w1).cell? ⟨w.heap.size,2,none⟩=some (.int .i64 k1):=zA
  have q3:(w1).cell? ⟨w.heap.size,3,none⟩=some (.int .i64 k2):=zA
  have q4:(w1).cell? ⟨w.heap.size,4,none⟩=some (.int .i32 imm):=zA
  have HW1:=lI hw1
  clear hw1 h
  have hp:=H1.out.ptr
  have hca:=H1.out.hart.get (qV wf.h k1 h1)
  have hcb:=H1.out.hart.get (qV wf.h k2 h2)
  have hc32:=H1.out.hart.get (qe wf.h)
  rw[←hxa]at hca
  rw[←hxb]at hcb
  rw[←hpc]at hc32
  have HPC:=lI hpc
  have HIM:=lI hxn
  clear hxa hxb era erb hpc ua ub un up hxn
  obtain⟨b1,b2⟩:=HU.out
  have j1:(k1:Int)<32:=om
  have j2:(k2:Int)<32:=om
  go_enter Tryz.func45,Tryz.ntmps45
  go_upto_region 1 with(fail)
  rw[←HW1.out]
  go_quiet (fail)
  rw[←HIM.out]
  clear hca hcb
  obtain⟨n0,n1⟩:=HN.out
  obtain⟨a0,a1⟩:=HA.out
  go_upto_region 37 with(go_at_call 73;refine(HPut.out _ (H1.out.drewN _)).mono ?_;rintro e w2 ⟨rfl,hc,hg⟩)
  clear q0 q1 q2 q3 q4
  have HG:=lI ((G1.out.drewN _).trans hg)
  have wf2:(d.put op ((xa+xn)%4294967296) xb).h.Wf:=by rw[qD.put_h];exact wf.h
  clear hg
  clear hp hc32
  have hp:=hc.ptr
  have h32:=hc.hart.get (qe wf2)
  have f32:=hc.hfz (ho+32)
  have HC:=lI hc
  clear hc
  go_wp2_with fail
  go_end0
  exact⟨rfl,HC.out.setHart 32 _ _ (qh wf2.len _) yS,HG.out.trans (Cgo.setHart _ 32 om _)⟩
theorem do_fence(h:qP cp hb ho vm 43 w d)(wf:d.Wf)(hlen:d.out.length<1099511627776)(kd k1 k2:Nat)(imm:Int)(hd:kd<32)(h1:k1<32)(h2:k2<32)(hi: -2147483648≤imm∧imm≤2147483647):
    Calls Tryz.prog 45 #[.pointer (some ⟨cp,0,none⟩),.agg #[.int .i64 57,.int .i64 kd,.int .i64 k1,.int .i64 k2,.int .i32 imm]] w fun e w'=>e=.returned (.tuple #[])∧qP cp hb ho vm 43 w' (doS ⟨57,kd,k1,k2,imm⟩ d)∧Cgo cp hb ho vm 43 w w':=by
  obtain⟨i0,i1⟩:=hi
  obtain⟨xa,hxa⟩:∃x,x=d.h.regs.getD k1 0:=⟨_,rfl⟩
  obtain⟨xb,hxb⟩:∃x,x=d.h.regs.getD k2 0:=⟨_,rfl⟩
  obtain⟨xn,hxn⟩:∃x,x=imm%4294967296:=⟨_,rfl⟩
  obtain⟨pc,hpc⟩:∃x,x=d.h.pc:=⟨_,rfl⟩
  have era:d.h.reg (k1:Int)=xa:=zX
  have erb:d.h.reg (k2:Int)=xb:=zW
  have ua:U32 xa:=zZ
  have ub:U32 xb:=zY
  have un:U32 xn:=zO
  have up:U32 pc:=yG
  have e:doS ⟨57,kd,k1,k2,imm⟩ d=d.setPc ((pc+4)%4294967296):=by
    unfold doS
    dsimp only
    rw[era,erb,←hxn,←hpc]
    rw[if_neg om,if_neg om,if_neg om,if_neg om,if_neg om,if_neg om,if_neg om,if_neg om,if_neg om,if_neg om,if_neg om,if_neg om]
  rw[e]
  clear e
  have hne:=h.hbl
  have HA:=lI ua
  have HB:=lI ub
  have HN:=lI un
  have HU:=lI up
  obtain⟨w1,hw1⟩:∃w1,w1=w.alloc (.cells #[.int .i64 57,.int .i64 kd,.int .i64 k1,.int .i64 k2,.int .i32 imm] 82):=⟨_,rfl⟩
  have H1:Hid (qP cp hb ho vm 43 w1 d):=lI zN
  have G1:Hid (Cgo cp hb ho vm 43 w w1):=lI zJ
  have hbx:cp<w.heap.size:=h.lt
  have HX:Hid (w1.heap[w.heap.size]? =some (.cells #[.int .i64 57,.int .i64 kd,.int .i64 k1,.int .i64 k2,.int .i32 imm] 82 (0,0))):=lI zI
  have q0:(w1).cell? ⟨w.heap.size,0,none⟩=some (.int .i64 57):=zA
  have q1:(w1).cell? ⟨w.heap.size,1,none⟩=some (.int .i64 kd):=zA
  have q2:(w1).cell? ⟨w.heap.size,2,none⟩=some (.int .i64 k1):=zA
  have q3:(w1).cell? ⟨w.heap.size,3,none⟩=some (.int .i64 k2):=zA
  have q4:(w1).cell? ⟨w.heap.size,4,none⟩=some (.int .i32 imm):=zA
  have HW1:=lI hw1
  clear hw1 h
  have hp:=H1.out.ptr
  have hca:=H1.out.hart.get (qV wf.h k1 h1)
  have hcb:=H1.out.hart.get (qV wf.h k2 h2)
  have hc32:=H1.out.hart.get (qe wf.h)
  rw[←hxa]at hca
  rw[←hxb]at hcb
  rw[←hpc]at hc32
  have HPC:=lI hpc
  have HIM:=lI hxn
  clear hxa hxb era erb hpc ua ub un up hxn
  obtain⟨b1,b2⟩:=HU.out
  have j1:(k1:Int)<32:=om
  have j2:(k2:Int)<32:=om
  go_enter Tryz.func45,Tryz.ntmps45
  go_upto_region 1 with(fail)
  rw[←HW1.out]
  go_quiet (fail)
  rw[←HIM.out]
  clear hca hcb
  go_upto_region 37 with(fail)
  have h32:=hc32
  have f32:=H1.out.hfz (ho+32)
  clear q0 q1 q2 q3 q4 hc32
  go_wp2_with fail
  go_end0
  exact⟨rfl,(H1.out.drewN _).setHart 32 _ _ (qh wf.h.len _) xV,(G1.out.drewN _).trans (Cgo.setHart _ 32 om _)⟩
theorem do_break(h:qP cp hb ho vm 43 w d)(wf:d.Wf)(hlen:d.out.length<1099511627776)(kd k1 k2:Nat)(imm:Int)(hd:kd<32)(h1:k1<32)(h2:k2<32)(hi: -2147483648≤imm∧imm≤2147483647):
    Calls Tryz.prog 45 #[.pointer (some ⟨cp,0,none⟩),.agg #[.int .i64 59,.int .i64 kd,.int .i64 k1,.int .i64 k2,.int .i32 imm]] w fun e w'=>e=.returned (.tuple #[])∧qP cp hb ho vm 43 w' (doS ⟨59,kd,k1,k2,imm⟩ d)∧Cgo cp hb ho vm 43 w w':=by
  obtain⟨i0,i1⟩:=hi
  obtain⟨xa,hxa⟩:∃x,x=d.h.regs.getD k1 0:=⟨_,rfl⟩
  obtain⟨xb,hxb⟩:∃x,x=d.h.regs.getD k2 0:=⟨_,rfl⟩
  obtain⟨xn,hxn⟩:∃x,x=imm%4294967296:=⟨_,rfl⟩
  obtain⟨pc,hpc⟩:∃x,x=d.h.pc:=⟨_,rfl⟩
  have era:d.h.reg (k1:Int)=xa:=zX
  have erb:d.h.reg (k2:Int)=xb:=zW
  have ua:U32 xa:=zZ
  have ub:U32 xb:=zY
  have un:U32 xn:=zO
  have up:U32 pc:=yG
  have e:doS ⟨59,kd,k1,k2,imm⟩ d=d.trap 6:=by
    unfold doS
    dsimp only
    rw[era,erb,←hxn,←hpc]
    rw[if_neg om,if_neg om,if_neg om,if_neg om,if_neg om,if_neg om,if_neg om,if_neg om,if_neg om,if_neg om,if_neg om,if_pos om]
  rw[e]
  clear e
  have hne:=h.hbl
  have HA:=lI ua
  have HB:=lI ub
  have HN:=lI un
  have HU:=lI up
  obtain⟨w1,hw1⟩:∃w1,w1=w.alloc (.cells #[.int .i64 59,.int .i64 kd,.int .i64 k1,.int .i64 k2,.int .i32 imm] 82):=⟨_,rfl⟩
  have H1:Hid (qP cp hb ho vm 43 w1 d):=lI zN
  have G1:Hid (Cgo cp hb ho vm 43 w w1):=lI zJ
  have hbx:cp<w.heap.size:=h.lt
  have HX:Hid (w1.heap[w.heap.size]? =some (.cells #[.int .i64 59,.int .i64 kd,.int .i64 k1,.int .i64 k2,.int .i32 imm] 82 (0,0))):=lI zI
  have q0:(w1).cell? ⟨w.heap.size,0,none⟩=some (.int .i64 59):=zA
  have q1:(w1).cell? ⟨w.heap.size,1,none⟩=some (.int .i64 kd):=zA
  have q2:(w1).cell? ⟨w.heap.size,2,none⟩=some (.int .i64 k1):=zA
  have q3:(w1).cell? ⟨w.heap.size,3,none⟩=some (.int .i64 k2):=zA
  have q4:(w1).cell? ⟨w.heap.size,4,none⟩=some (.int .i32 imm):=zA
  have HW1:=lI hw1
  clear hw1 h
  have hp:=H1.out.ptr
  have hca:=H1.out.hart.get (qV wf.h k1 h1)
  have hcb:=H1.out.hart.get (qV wf.h k2 h2)
  have hc32:=H1.out.hart.get (qe wf.h)
  rw[←hxa]at hca
  rw[←hxb]at hcb
  rw[←hpc]at hc32
  have HPC:=lI hpc
  have HIM:=lI hxn
  clear hxa hxb era erb hpc ua ub un up hxn
  obtain⟨b1,b2⟩:=HU.out
  have j1:(k1:Int)<32:=om
  have j2:(k2:Int)<32:=om
  go_enter Tryz.func45,Tryz.ntmps45
  go_upto_region 1 with(fail)
  rw[←HW1.out]
  go_quiet (fail)
  rw[←HIM.out]
  clear hca hcb
  clear q1 q2 q3 q4
  go_wp2_with (go_at_call 44;refine(uC (H1.out.drewN _) wf.h _).mono ?_;rintro e w2 ⟨rfl,hc,hg⟩)
  exact sP (results_none zP _ _ _) rfl ⟨rfl,hc,(G1.out.drewN _).trans hg⟩
end
section
variable {cp hb ho : Nat} {vm : Value} {d : qD} {w : World}
theorem do_call_no(h:qP cp hb ho vm 43 w d)(wf:d.Wf)(hlen:d.out.length<1099511627776)(kd k1 k2:Nat)(imm:Int)(hd:kd<32)(h1:k1<32)(h2:k2<32)(hq:(qz d).2=false)(hi: -2147483648≤imm∧imm≤2147483647):
    Calls Tryz.prog 45 #[.pointer (some ⟨cp,0,none⟩),.agg #[.int .i64 58,.int .i64 kd,.int .i64 k1,.int .i64 k2,.int .i32 imm]] w fun e w'=>e=.returned (.tuple #[])∧qP cp hb ho vm 43 w' (doS ⟨58,kd,k1,k2,imm⟩ d)∧Cgo cp hb ho vm 43 w w':=by
  obtain⟨i0,i1⟩:=hi
  obtain⟨xa,hxa⟩:∃x,x=d.h.regs.getD k1 0:=⟨_,rfl⟩
  obtain⟨xb,hxb⟩:∃x,x=d.h.regs.getD k2 0:=⟨_,rfl⟩
  obtain⟨xn,hxn⟩:∃x,x=imm%4294967296:=⟨_,rfl⟩
  obtain⟨pc,hpc⟩:∃x,x=d.h.pc:=⟨_,rfl⟩
  have era:d.h.reg (k1:Int)=xa:=zX
  have erb:d.h.reg (k2:Int)=xb:=zW
  have ua:U32 xa:=zZ
  have ub:U32 xb:=zY
  have un:U32 xn:=zO
  have up:U32 pc:=yG
  have e:doS ⟨58,kd,k1,k2,imm⟩ d=(qz d).1:=by
    unfold doS
    dsimp only
    rw[era,erb,←hxn,←hpc]
    rw[if_neg om,if_neg om,if_neg om,if_neg om,if_neg om,if_neg om,if_neg om,if_neg om,if_neg om,if_neg om,if_pos om,if_neg wF]
  rw[e]
  clear e
  have HCa:=lI (fun W hW=>call_any (cp:=cp) (hb:=hb) (ho:=ho) (vm:=vm) (d:=d) (w:=W) hW wf hlen)
  rw[hq]at HCa
  generalize (qz d).1=d2 at *
  have hne:=h.hbl
  have HA:=lI ua
  have HB:=lI ub
  have HN:=lI un
  have HU:=lI up
  obtain⟨w1,hw1⟩:∃w1,w1=w.alloc (.cells #[.int .i64 58,.int .i64 kd,.int .i64 k1,.int .i64 k2,.int .i32 imm] 82):=⟨_,rfl⟩
  have H1:Hid (qP cp hb ho vm 43 w1 d):=lI zN
  have G1:Hid (Cgo cp hb ho vm 43 w w1):=lI zJ
  have hbx:cp<w.heap.size:=h.lt
  have HX:Hid (w1.heap[w.heap.size]? =some (.cells #[.int .i64 58,.int .i64 kd,.int .i64 k1,.int .i64 k2,.int .i32 imm] 82 (0,0))):=lI zI
  have q0:(w1).cell? ⟨w.heap.size,0,none⟩=some (.int .i64 58):=zA
  have q1:(w1).cell? ⟨w.heap.size,1,none⟩=some (.int .i64 kd):=zA
  have q2:(w1).cell? ⟨w.heap.size,2,none⟩=some (.int .i64 k1):=zA
  have q3:(w1).cell? ⟨w.heap.size,3,none⟩=some (.int .i64 k2):=zA
  have q4:(w1).cell? ⟨w.heap.size,4,none⟩=some (.int .i32 imm):=zA
  have HW1:=lI hw1
  clear hw1 h
  have hp:=H1.out.ptr
  have hca:=H1.out.hart.get (qV wf.h k1 h1)
  have hcb:=H1.out.hart.get (qV wf.h k2 h2)
  have hc32:=H1.out.hart.get (qe wf.h)
  rw[←hxa]at hca
  rw[←hxb]at hcb
  rw[←hpc]at hc32
  have HPC:=lI hpc
  have HIM:=lI hxn
  clear hxa hxb era erb hpc ua ub un up hxn
  obtain⟨b1,b2⟩:=HU.out
  have j1:(k1:Int)<32:=om
  have j2:(k2:Int)<32:=om
  go_enter Tryz.func45,Tryz.ntmps45
  go_upto_region 1 with(fail)
  rw[←HW1.out]
  go_quiet (fail)
  rw[←HIM.out]
  clear hca hcb
  go_wp2_with (go_at_call 77;refine(HCa.out _ (H1.out.drewN _)).mono ?_;rintro e w2 ⟨rfl,hc,hg⟩)
  exact sP (results_none zP _ _ _) rfl ⟨rfl,hc,(G1.out.drewN _).trans hg⟩
theorem do_call_yes(h:qP cp hb ho vm 43 w d)(wf:d.Wf)(hlen:d.out.length<1099511627776)(kd k1 k2:Nat)(imm:Int)(hd:kd<32)(h1:k1<32)(h2:k2<32)(hq:(qz d).2=true)(hi: -2147483648≤imm∧imm≤2147483647):
    Calls Tryz.prog 45 #[.pointer (some ⟨cp,0,none⟩),.agg #[.int .i64 58,.int .i64 kd,.int .i64 k1,.int .i64 k2,.int .i32 imm]] w fun e w'=>e=.returned (.tuple #[])∧qP cp hb ho vm 43 w' (doS ⟨58,kd,k1,k2,imm⟩ d)∧Cgo cp hb ho vm 43 w w':=by
  obtain⟨i0,i1⟩:=hi
  obtain⟨xa,hxa⟩:∃x,x=d.h.regs.getD k1 0:=⟨_,rfl⟩
  obtain⟨xb,hxb⟩:∃x,x=d.h.regs.getD k2 0:=⟨_,rfl⟩
  obtain⟨xn,hxn⟩:∃x,x=imm%4294967296:=⟨_,rfl⟩
  obtain⟨pc,hpc⟩:∃x,x=d.h.pc:=⟨_,rfl⟩
  have era:d.h.reg (k1:Int)=xa:=zX
  have erb:d.h.reg (k2:Int)=xb:=zW
  have ua:U32 xa:=zZ
  have ub:U32 xb:=zY
  have un:U32 xn:=zO
  have up:U32 pc:=yG
  have e:doS ⟨58,kd,k1,k2,imm⟩ d=(qz d).1.setPc ((pc+4)%4294967296):=by
    unfold doS
    dsimp only
    rw[era,erb,←hxn,←hpc]
    rw[if_neg om,if_neg om,if_neg om,if_neg om,if_neg om,if_neg om,if_neg om,if_neg om,if_neg om,if_neg om,if_pos om,if_pos hq]
  rw[e]
  clear e
  have HCa:=lI (fun W hW=>call_any (cp:=cp) (hb:=hb) (ho:=ho) (vm:=vm) (d:=d) (w:=W) hW wf hlen)
  rw[hq]at HCa
  have wf2:(qz d).1.h.Wf:=(callS_wf wf hlen).h
  generalize (qz d).1=d2 at *
  have hne:=h.hbl
  have HA:=lI ua
  have HB:=lI ub
  have HN:=lI un
  have HU:=lI up
  obtain⟨w1,hw1⟩:∃w1,w1=w.alloc (.cells #[.int .i64 58,.int .i64 kd,.int .i64 k1,.int .i64 k2,.int .i32 imm] 82):=⟨_,rfl⟩
  have H1:Hid (qP cp hb ho vm 43 w1 d):=lI zN
  have G1:Hid (Cgo cp hb ho vm 43 w w1):=lI zJ
  have hbx:cp<w.heap.size:=h.lt
  have HX:Hid (w1.heap[w.heap.size]? =some (.cells #[.int .i64 58,.int .i64 kd,.int .i64 k1,.int .i64 k2,.int .i32 imm] 82 (0,0))):=lI zI
  have q0:(w1).cell? ⟨w.heap.size,0,none⟩=some (.int .i64 58):=zA
  have q1:(w1).cell? ⟨w.heap.size,1,none⟩=some (.int .i64 kd):=zA
  have q2:(w1).cell? ⟨w.heap.size,2,none⟩=some (.int .i64 k1):=zA
  have q3:(w1).cell? ⟨w.heap.size,3,none⟩=some (.int .i64 k2):=zA
  have q4:(w1).cell? ⟨w.heap.size,4,none⟩=some (.int .i32 imm):=zA
  have HW1:=lI hw1
  clear hw1 h
  have hp:=H1.out.ptr
  have hca:=H1.out.hart.get (qV wf.h k1 h1)
  have hcb:=H1.out.hart.get (qV wf.h k2 h2)
  have hc32:=H1.out.hart.get (qe wf.h)
  rw[←hxa]at hca
  rw[←hxb]at hcb
  rw[←hpc]at hc32
  have HPC:=lI hpc
  have HIM:=lI hxn
  clear hxa hxb era erb hpc ua ub un up hxn
  obtain⟨b1,b2⟩:=HU.out
  have j1:(k1:Int)<32:=om
  have j2:(k2:Int)<32:=om
  go_enter Tryz.func45,Tryz.ntmps45
  go_upto_region 1 with(fail)
  rw[←HW1.out]
  go_quiet (fail)
  rw[←HIM.out]
  clear hca hcb
  go_upto_region 37 with(go_at_call 77;refine(HCa.out _ (H1.out.drewN _)).mono ?_;rintro e w2 ⟨rfl,hc,hg⟩)
  clear q0 q1 q2 q3 q4
  have HG:=lI ((G1.out.drewN _).trans hg)
  clear hg
  clear hp hc32
  have hp:=hc.ptr
  have h32:=hc.hart.get (qe wf2)
  have f32:=hc.hfz (ho+32)
  have HC:=lI hc
  clear hc
  go_wp2_with fail
  go_end0
  exact⟨rfl,HC.out.setHart 32 _ _ (qh wf2.len _) yS,HG.out.trans (Cgo.setHart _ 32 om _)⟩
theorem do_atom_no(h:qP cp hb ho vm 43 w d)(wf:d.Wf)(hlen:d.out.length<1099511627776)(op:Int)(kd k1 k2:Nat)(imm:Int)(hop:46≤op∧op≤56)(hd:kd<32)(h1:k1<32)(h2:k2<32)(hq:(qY d op (d.h.reg k1) (d.h.reg k2)).2.2=false)(hi: -2147483648≤imm∧imm≤2147483647):
    Calls Tryz.prog 45 #[.pointer (some ⟨cp,0,none⟩),.agg #[.int .i64 op,.int .i64 kd,.int .i64 k1,.int .i64 k2,.int .i32 imm]] w fun e w'=>e=.returned (.tuple #[])∧qP cp hb ho vm 43 w' (doS ⟨op,kd,k1,k2,imm⟩ d)∧Cgo cp hb ho vm 43 w w':=by
  obtain⟨o0,o1⟩:=hop
  have f1:(op==1)=false:=sH.2 om
  have f2:(op==2)=false:=sH.2 om
  have f3:(op==3)=false:=sH.2 om
  have f4:(op==4)=false:=sH.2 om
  obtain⟨i0,i1⟩:=hi
  obtain⟨xa,hxa⟩:∃x,x=d.h.regs.getD k1 0:=⟨_,rfl⟩
  obtain⟨xb,hxb⟩:∃x,x=d.h.regs.getD k2 0:=⟨_,rfl⟩
  obtain⟨xn,hxn⟩:∃x,x=imm%4294967296:=⟨_,rfl⟩
  obtain⟨pc,hpc⟩:∃x,x=d.h.pc:=⟨_,rfl⟩
  have era:d.h.reg (k1:Int)=xa:=zX
  have erb:d.h.reg (k2:Int)=xb:=zW
  rw[era,erb]at hq
  have ua:U32 xa:=zZ
  have ub:U32 xb:=zY
  have un:U32 xn:=zO
  have up:U32 pc:=yG
  have e:doS ⟨op,kd,k1,k2,imm⟩ d=(qY d op xa xb).1:=by
    unfold doS
    dsimp only
    rw[era,erb,←hxn,←hpc]
    rw[if_neg om,if_neg om,if_neg om,if_neg om,if_neg om,if_neg om,if_neg om,if_neg om,if_neg om,if_pos om,if_neg wF]
  rw[e]
  clear e
  have HAt:=lI (fun W hW=>atom_any (cp:=cp) (hb:=hb) (ho:=ho) (vm:=vm) (d:=d) (w:=W) hW wf op xa xb ⟨o0,o1⟩ ua ub)
  rw[hq]at HAt
  generalize (qY d op xa xb).1=d2 at *
  generalize (qY d op xa xb).2.1=xl at *
  have hne:=h.hbl
  have HA:=lI ua
  have HB:=lI ub
  have HN:=lI un
  have HU:=lI up
  obtain⟨w1,hw1⟩:∃w1,w1=w.alloc (.cells #[.int .i64 op,.int .i64 kd,.int .i64 k1,.int .i64 k2,.int .i32 imm] 82):=⟨_,rfl⟩
  have H1:Hid (qP cp hb ho vm 43 w1 d):=lI zN
  have G1:Hid (Cgo cp hb ho vm 43 w w1):=lI zJ
  have hbx:cp<w.heap.size:=h.lt
  have HX:Hid (w1.heap[w.heap.size]? =some (.cells #[.int .i64 op,.int .i64 kd,.int .i64 k1,.int .i64 k2,.int .i32 imm] 82 (0,0))):=lI zI
  have q0:(w1).cell? ⟨w.heap.size,0,none⟩=some (.int .i64 op):=zA
  have q1:(w1).cell? ⟨w.heap.size,1,none⟩=some (.int .i64 kd):=zA
  have q2:(w1).cell? ⟨w.heap.size,2,none⟩=some (.int .i64 k1):=zA
  have q3:(w1).cell? ⟨w.heap.size,3,none⟩=some (.int .i64 k2):=zA
  have q4:(w1).cell? ⟨w.heap.size,4,none⟩=some (.int .i32 imm):=zA
  have HW1:=lI hw1
  clear hw1 h
  have hp:=H1.out.ptr
  have hca:=H1.out.hart.get (qV wf.h k1 h1)
  have hcb:=H1.out.hart.get (qV wf.h k2 h2)
  have hc32:=H1.out.hart.get (qe wf.h)
  rw[←hxa]at hca
  rw[←hxb]at hcb
  rw[←hpc]at hc32
  have HPC:=lI hpc
  have HIM:=lI hxn
  clear hxa hxb era erb hpc ua ub un up hxn
  obtain⟨b1,b2⟩:=HU.out
  have j1:(k1:Int)<32:=om
  have j2:(k2:Int)<32:=om
  go_enter Tryz.func45,Tryz.ntmps45
  go_upto_region 1 with(fail)
  rw[←HW1.out]
  go_quiet (fail)
  rw[←HIM.out]
  clear hca hcb
  go_wp2_with (go_at_call 76;refine(HAt.out _ (H1.out.drewN _)).mono ?_;rintro e w2 ⟨rfl,hc,hg⟩)
  exact sP (results_none zP _ _ _) rfl ⟨rfl,hc,(G1.out.drewN _).trans hg⟩
theorem do_atom_yes(h:qP cp hb ho vm 43 w d)(wf:d.Wf)(hlen:d.out.length<1099511627776)(op:Int)(kd k1 k2:Nat)(imm:Int)(hop:46≤op∧op≤56)(hd:kd<32)(h1:k1<32)(h2:k2<32)(hq:(qY d op (d.h.reg k1) (d.h.reg k2)).2.2=true)(hi: -2147483648≤imm∧imm≤2147483647):
    Calls Tryz.prog 45 #[.pointer (some ⟨cp,0,none⟩),.agg #[.int .i64 op,.int .i64 kd,.int .i64 k1,.int .i64 k2,.int .i32 imm]] w fun e w'=>e=.returned (.tuple #[])∧qP cp hb ho vm 43 w' (doS ⟨op,kd,k1,k2,imm⟩ d)∧Cgo cp hb ho vm 43 w w':=by
  obtain⟨o0,o1⟩:=hop
  have f1:(op==1)=false:=sH.2 om
  have f2:(op==2)=false:=sH.2 om
  have f3:(op==3)=false:=sH.2 om
  have f4:(op==4)=false:=sH.2 om
  obtain⟨i0,i1⟩:=hi
  obtain⟨xa,hxa⟩:∃x,x=d.h.regs.getD k1 0:=⟨_,rfl⟩
  obtain⟨xb,hxb⟩:∃x,x=d.h.regs.getD k2 0:=⟨_,rfl⟩
  obtain⟨xn,hxn⟩:∃x,x=imm%4294967296:=⟨_,rfl⟩
  obtain⟨pc,hpc⟩:∃x,x=d.h.pc:=⟨_,rfl⟩
  have era:d.h.reg (k1:Int)=xa:=zX
  have erb:d.h.reg (k2:Int)=xb:=zW
  rw[era,erb]at hq
  have ua:U32 xa:=zZ
  have ub:U32 xb:=zY
  have un:U32 xn:=zO
  have up:U32 pc:=yG
  have e:doS ⟨op,kd,k1,k2,imm⟩ d=((qY d op xa xb).1.set kd (qY d op xa xb).2.1).setPc ((pc+4)%4294967296):=by
    unfold doS
    dsimp only
    rw[era,erb,←hxn,←hpc]
    rw[if_neg om,if_neg om,if_neg om,if_neg om,if_neg om,if_neg om,if_neg om,if_neg om,if_neg om,if_pos om,if_pos hq]
  rw[e]
  clear e
  have HAt:=lI (fun W hW=>atom_any (cp:=cp) (hb:=hb) (ho:=ho) (vm:=vm) (d:=d) (w:=W) hW wf op xa xb ⟨o0,o1⟩ ua ub)
  rw[hq]at HAt
  have HWF:=lI (Jb wf op xa xb ua ub)
  generalize (qY d op xa xb).1=d2 at *
  generalize (qY d op xa xb).2.1=xl at *
  have hne:=h.hbl
  have HA:=lI ua
  have HB:=lI ub
  have HN:=lI un
  have HU:=lI up
  obtain⟨w1,hw1⟩:∃w1,w1=w.alloc (.cells #[.int .i64 op,.int .i64 kd,.int .i64 k1,.int .i64 k2,.int .i32 imm] 82):=⟨_,rfl⟩
  have H1:Hid (qP cp hb ho vm 43 w1 d):=lI zN
  have G1:Hid (Cgo cp hb ho vm 43 w w1):=lI zJ
  have hbx:cp<w.heap.size:=h.lt
  have HX:Hid (w1.heap[w.heap.size]? =some (.cells #[.int .i64 op,.int .i64 kd,.int .i64 k1,.int .i64 k2,.int .i32 imm] 82 (0,0))):=lI zI
  have q0:(w1).cell? ⟨w.heap.size,0,none⟩=some (.int .i64 op):=zA
  have q1:(w1).cell? ⟨w.heap.size,1,none⟩=some (.int .i64 kd):=zA
  have q2:(w1).cell? ⟨w.heap.size,2,none⟩=some (.int .i64 k1):=zA
  have q3:(w1).cell? ⟨w.heap.size,3,none⟩=some (.int .i64 k2):=zA
  have q4:(w1).cell? ⟨w.heap.size,4,none⟩=some (.int .i32 imm):=zA
  have HW1:=lI hw1
  clear hw1 h
  have hp:=H1.out.ptr
  have hca:=H1.out.hart.get (qV wf.h k1 h1)
  have hcb:=H1.out.hart.get (qV wf.h k2 h2)
  have hc32:=H1.out.hart.get (qe wf.h)
  rw[←hxa]at hca
  rw[←hxb]at hcb
  rw[←hpc]at hc32
  have HPC:=lI hpc
  have HIM:=lI hxn
  clear hxa hxb era erb hpc ua ub un up hxn
  obtain⟨b1,b2⟩:=HU.out
  have j1:(k1:Int)<32:=om
  have j2:(k2:Int)<32:=om
  go_enter Tryz.func45,Tryz.ntmps45
  go_upto_region 1 with(fail)
  rw[←HW1.out]
  go_quiet (fail)
  rw[←HIM.out]
  clear hca hcb
  go_upto_region 32 with(go_at_call 76;refine(HAt.out _ (H1.out.drewN _)).mono ?_;rintro e w2 ⟨rfl,hc0,hg0⟩)
  have HG0:=lI ((G1.out.drewN _).trans hg0)
  have p1:w2.cell? ⟨w.heap.size,1,none⟩=some (.int .i64 kd):=(World.cell?_of_block (w:=w1) (hg0.block w.heap.size (qH q1) (by have:=H1.out.hbl;omega) (fun e=>by have:=H1.out.vm_lt e;omega) (.inr ⟨hbx,fun cs fr e=>by change w1.heap[w.heap.size]? =_ at e;rw[HX.out]at e;injection e with e;injection e with e1 e2;exact absurd e2 zL⟩))).trans q1
  clear hg0 q0 q1 q2 q3 q4 hp hc32
  go_upto_region 37 with(go_at_call 71;refine(uN hc0 HWF.out.1.h kd hd _).mono ?_;rintro e w3 ⟨rfl,hc,hg⟩)
  have HG:Hid (Cgo cp hb ho vm 43 w w3):=lI (HG0.out.trans hg)
  have wf2:=(HWF.out.1.set kd xl HWF.out.2).h
  clear hg p1
  have hp:=hc.ptr
  have hc32:=hc.hart.get (qe wf2)
  clear hp hc32
  have hp:=hc.ptr
  have h32:=hc.hart.get (qe wf2)
  have f32:=hc.hfz (ho+32)
  have HC:=lI hc
  clear hc
  go_wp2_with fail
  go_end0
  exact⟨rfl,HC.out.setHart 32 _ _ (qh wf2.len _) yS,HG.out.trans (Cgo.setHart _ 32 om _)⟩
end
section
variable {cp hb ho : Nat} {vm : Value} {d : qD} {w : World}
theorem do_auipc(h:qP cp hb ho vm 43 w d)(wf:d.Wf)(hlen:d.out.length<1099511627776)(kd k1 k2:Nat)(imm:Int)(hd:kd<32)(h1:k1<32)(h2:k2<32)(hi: -2147483648≤imm∧imm≤2147483647):
    Calls Tryz.prog 45 #[.pointer (some ⟨cp,0,none⟩),.agg #[.int .i64 2,.int .i64 kd,.int .i64 k1,.int .i64 k2,.int .i32 imm]] w fun e w'=>e=.returned (.tuple #[])∧qP cp hb ho vm 43 w' (doS ⟨2,kd,k1,k2,imm⟩ d)∧Cgo cp hb ho vm 43 w w':=by
  obtain⟨i0,i1⟩:=hi
  obtain⟨xa,hxa⟩:∃x,x=d.h.regs.getD k1 0:=⟨_,rfl⟩
  obtain⟨xb,hxb⟩:∃x,x=d.h.regs.getD k2 0:=⟨_,rfl⟩
  obtain⟨xn,hxn⟩:∃x,x=imm%4294967296:=⟨_,rfl⟩
  obtain⟨pc,hpc⟩:∃x,x=d.h.pc:=⟨_,rfl⟩
  have era:d.h.reg (k1:Int)=xa:=zX
  have erb:d.h.reg (k2:Int)=xb:=zW
  have ua:U32 xa:=zZ
  have ub:U32 xb:=zY
  have un:U32 xn:=zO
  have up:U32 pc:=yG
  have e:doS ⟨2,kd,k1,k2,imm⟩ d=(d.set kd ((pc+xn)%4294967296)).setPc ((pc+4)%4294967296):=by
    unfold doS
    dsimp only
    rw[era,erb,←hxn,←hpc]
    rw[if_neg om,if_pos rfl]
  rw[e]
  clear e
  have hne:=h.hbl
  have HA:=lI ua
  have HB:=lI ub
  have HN:=lI un
  have HU:=lI up
  obtain⟨w1,hw1⟩:∃w1,w1=w.alloc (.cells #[.int .i64 2,.int .i64 kd,.int .i64 k1,.int .i64 k2,.int .i32 imm] 82):=⟨_,rfl⟩
  have H1:Hid (qP cp hb ho vm 43 w1 d):=lI zN
  have G1:Hid (Cgo cp hb ho vm 43 w w1):=lI zJ
  have hbx:cp<w.heap.size:=h.lt
  have HX:Hid (w1.heap[w.heap.size]? =some (.cells #[.int .i64 2,.int .i64 kd,.int .i64 k1,.int .i64 k2,.int .i32 imm] 82 (0,0))):=lI zI
  have q0:(w1).cell? ⟨w.heap.size,0,none⟩=some (.int .i64 2):=zA
  have q1:(w1).cell? ⟨w.heap.size,1,none⟩=some (.int .i64 kd):=zA
  have q2:(w1).cell? ⟨w.heap.size,2,none⟩=some (.int .i64 k1):=zA
  have q3:(w1).cell? ⟨w.heap.size,3,none⟩=some (.int .i64 k2):=zA
  have q4:(w1).cell? ⟨w.heap.size,4,none⟩=some (.int .i32 imm):=zA
  have HW1:=lI hw1
  clear hw1 h
  have hp:=H1.out.ptr
  have hca:=H1.out.hart.get (qV wf.h k1 h1)
  have hcb:=H1.out.hart.get (qV wf.h k2 h2)
  have hc32:=H1.out.hart.get (qe wf.h)
  rw[←hxa]at hca
  rw[←hxb]at hcb
  rw[←hpc]at hc32
  have HPC:=lI hpc
  have HIM:=lI hxn
  clear hxa hxb era erb hpc ua ub un up hxn
  obtain⟨b1,b2⟩:=HU.out
  have j1:(k1:Int)<32:=om
  have j2:(k2:Int)<32:=om
  go_enter Tryz.func45,Tryz.ntmps45
  go_upto_region 1 with(fail)
  rw[←HW1.out]
  go_quiet (fail)
  rw[←HIM.out]
  clear hca hcb
  obtain⟨n0,n1⟩:=HN.out
  have KP:Hid (∀wx w2,wx.heap=w1.heap→Cgo cp hb ho vm 43 wx w2→w2.cell? ⟨w.heap.size,1,none⟩=some (.int .i64 kd)):=lI (fun wx w2 eh hg=>
    have hsz:wx.heap.size=w1.heap.size:=by rw[eh]
    (World.cell?_of_block (w:=w1) ((hg.block w.heap.size (by have:=qH q1;rw[hsz];exact this) (by have:=H1.out.hbl;omega) (fun e=>by have:=H1.out.vm_lt e;omega) (.inr ⟨hbx,fun cs fr e=>by rw[eh,HX.out]at e;injection e with e;injection e with e1 e2;exact absurd e2 zL⟩)).trans (by rw[eh]))).trans q1)
  have PK:Hid (∀r x w2,qP cp hb ho vm 43 w2 (d.set r x)→U32 x→w2.cell? ⟨hb,ho+32,none⟩=some (.int .u32 pc)):=lI (fun r x w2 hc ux=>by
    have:=hc.hart.get (qe (wf.set r x ux).h)
    rw[this,HPC.out]
    unfold qD.set Hart.setReg
    split<;>rfl)
  go_upto_region 7 with(fail)
  go_region_held3 (fun w'=>w'.cell? ⟨w.heap.size,1,none⟩=some (.int .i64 kd)∧w'.cell? ⟨cp,0,none⟩=some (.pointer (some ⟨hb,ho,none⟩))∧w'.cell? ⟨hb,ho+32,none⟩=some (.int .u32 pc))
    (first|exact⟨q1,hp,hc32⟩|exact⟨p1,p2,p3⟩)
    ((first|(go_at_call 71;(try rw[IntKind.wrap_u32]);refine(uN (H1.out.below (by repeat(first|exact Below.refl _ _|refine qC ?_ _|refine Below.drew ?_))) wf.h kd hd _).mono ?_;rintro e w2 ⟨rfl,hc,hg⟩;have p1:=KP.out _ w2 zP hg;have p2:=hc.ptr;have p3:=PK.out _ _ w2 hc (QG _))))
  have HG:Hid (Cgo cp hb ho vm 43 w w2):=lI ((G1.out.drewN _).trans hg)
  have wf2:=(wf.set kd _ (QG ((pc+xn)))).h
  clear hg q0 q1 q2 q3 q4 p1 p2 p3
  clear hp hc32
  have hp:=hc.ptr
  have h32:=hc.hart.get (qe wf2)
  have f32:=hc.hfz (ho+32)
  have HC:=lI hc
  clear hc
  go_wp2_with fail
  go_end0
  exact⟨rfl,HC.out.setHart 32 _ _ (qh wf2.len _) yS,HG.out.trans (Cgo.setHart _ 32 om _)⟩
end
end Go.Proofs.YtlfnddmncbkjaacGreat.W
