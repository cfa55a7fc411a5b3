import Derived.Test.YtlfnddmncbkjaabGreatDoorZGL
set_option linter.unusedVariables false
set_option linter.unusedSimpArgs false
set_option maxRecDepth 100000
set_option maxHeartbeats 4000000
namespace Go.Proofs.YtlfnddmncbkjaabGreatDoor.W
open Go.RowKit Fb
section
variable {cp hb ho : Nat} {vm : Value} {d : qF} {w : World}
theorem do_call_no(h:qK cp hb ho vm 40 w d)(wf:d.Wf)(hlen:d.out.length<1099511627776)(kd k1 k2:Nat)(imm:Int)(hd:kd<32)(h1:k1<32)(h2:k2<32)(hq:(qt d).2=false)(hi: -2147483648≤imm∧imm≤2147483647):
    Calls Tryz.prog 86 #[.pointer (some ⟨cp,0,none⟩),.agg #[.int .i64 58,.int .i64 kd,.int .i64 k1,.int .i64 k2,.int .i32 imm]] w fun e w'=>e=.returned (.tuple #[])∧qK cp hb ho vm 40 w' (doS ⟨58,kd,k1,k2,imm⟩ d)∧Cgo cp hb ho vm 40 w w':=by
  obtain⟨i0,i1⟩:=hi
  obtain⟨xa,hxa⟩:∃x,x=d.h.regs.getD k1 0:=⟨_,rfl⟩
  obtain⟨xb,hxb⟩:∃x,x=d.h.regs.getD k2 0:=⟨_,rfl⟩
  obtain⟨xn,hxn⟩:∃x,x=imm%4294967296:=⟨_,rfl⟩
  obtain⟨pc,hpc⟩:∃x,x=d.h.pc:=⟨_,rfl⟩
  have era:d.h.reg (k1:Int)=xa:=yW
  have erb:d.h.reg (k2:Int)=xb:=yV
  have ua:U32 xa:=zT
  have ub:U32 xb:=zS
  have un:U32 xn:=yA
  have up:U32 pc:=yC
  have e:doS ⟨58,kd,k1,k2,imm⟩ d=(qt d).1:=by
    unfold doS
    dsimp only
    rw[era,erb,←hxn,←hpc]
    rw[if_neg om,if_neg om,if_neg om,if_neg om,if_neg om,if_neg om,if_neg om,if_neg om,if_neg om,if_neg om,if_pos om,if_neg (by rw[hq];decide)]
  rw[e]
  clear e
  have HCa:=lI (fun W hW=>call_any (cp:=cp) (hb:=hb) (ho:=ho) (vm:=vm) (d:=d) (w:=W) hW wf hlen)
  rw[hq]at HCa
  generalize (qt d).1=d2 at *
  have hne:=h.hbl
  have HA:=lI ua
  have HB:=lI ub
  have HN:=lI un
  have HU:=lI up
  obtain⟨w1,hw1⟩:∃w1,w1=w.alloc (.cells #[.int .i64 58,.int .i64 kd,.int .i64 k1,.int .i64 k2,.int .i32 imm] 91):=⟨_,rfl⟩
  have H1:Hid (qK cp hb ho vm 40 w1 d):=lI zK
  have G1:Hid (Cgo cp hb ho vm 40 w w1):=lI zH
  have hbx:cp<w.heap.size:=h.lt
  have HX:Hid (w1.heap[w.heap.size]? =some (.cells #[.int .i64 58,.int .i64 kd,.int .i64 k1,.int .i64 k2,.int .i32 imm] 91 (0,0))):=lI zR
  have q0:(w1).cell? ⟨w.heap.size,0,none⟩=some (.int .i64 58):=zA
  have q1:(w1).cell? ⟨w.heap.size,1,none⟩=some (.int .i64 kd):=zA
  have q2:(w1).cell? ⟨w.heap.size,2,none⟩=some (.int .i64 k1):=zA
  have q3:(w1).cell? ⟨w.heap.size,3,none⟩=some (.int .i64 k2):=zA
  have q4:(w1).cell? ⟨w.heap.size,4,none⟩=some (.int .i32 imm):=zA
  have HW1:=lI hw1
  clear hw1 h
  have hp:=H1.out.ptr
  have hca:=H1.out.hart.get (qV wf.h k1 h1)
  have hcb:=H1.out.hart.get (qV wf.h k2 h2)
  have hc32:=H1.out.hart.get (qd wf.h)
  rw[←hxa]at hca
  rw[←hxb]at hcb
  rw[←hpc]at hc32
  have HPC:=lI hpc
  have HIM:=lI hxn
  clear hxa hxb era erb hpc ua ub un up hxn
  obtain⟨b1,b2⟩:=HU.out
  have j1:(k1:Int)<32:=om
  have j2:(k2:Int)<32:=om
  go_enter Tryz.func86,Tryz.ntmps86
  go_upto_region 1 with(fail)
  rw[←HW1.out]
  go_quiet (fail)
  rw[←HIM.out]
  clear hca hcb
  go_wp2_with (go_at_call 120;refine(HCa.out _ (H1.out.drewN _)).mono ?_;rintro e w2 ⟨rfl,hc,hg⟩)
  exact sO (results_none zM _ _ _) rfl ⟨rfl,hc,(G1.out.drewN _).trans hg⟩
theorem cr{p:Prop}(h:p:=by
 clear hp hc32
 have hp:=hc.ptr
 have h32:=hc.hart.get (qd wf2)
 have f32:=hc.hfz (ho+32)
 have HC:=lI hc
 clear hc
 go_wp2_with fail
 go_end0
 exact⟨rfl,HC.out.setHart 32 _ _ (QJ wf2.len _) yN,HG.out.trans (Cgo.setHart _ 32 om _)⟩):p:=h
theorem do_call_yes(h:qK cp hb ho vm 40 w d)(wf:d.Wf)(hlen:d.out.length<1099511627776)(kd k1 k2:Nat)(imm:Int)(hd:kd<32)(h1:k1<32)(h2:k2<32)(hq:(qt d).2=true)(hi: -2147483648≤imm∧imm≤2147483647):
    Calls Tryz.prog 86 #[.pointer (some ⟨cp,0,none⟩),.agg #[.int .i64 58,.int .i64 kd,.int .i64 k1,.int .i64 k2,.int .i32 imm]] w fun e w'=>e=.returned (.tuple #[])∧qK cp hb ho vm 40 w' (doS ⟨58,kd,k1,k2,imm⟩ d)∧Cgo cp hb ho vm 40 w w':=by
  obtain⟨i0,i1⟩:=hi
  obtain⟨xa,hxa⟩:∃x,x=d.h.regs.getD k1 0:=⟨_,rfl⟩
  obtain⟨xb,hxb⟩:∃x,x=d.h.regs.getD k2 0:=⟨_,rfl⟩
  obtain⟨xn,hxn⟩:∃x,x=imm%4294967296:=⟨_,rfl⟩
  obtain⟨pc,hpc⟩:∃x,x=d.h.pc:=⟨_,rfl⟩
  have era:d.h.reg (k1:Int)=xa:=yW
  have erb:d.h.reg (k2:Int)=xb:=yV
  have ua:U32 xa:=zT
  have ub:U32 xb:=zS
  have un:U32 xn:=yA
  have up:U32 pc:=yC
  have e:doS ⟨58,kd,k1,k2,imm⟩ d=(qt d).1.setPc ((pc+4)%4294967296):=by
    unfold doS
    dsimp only
    rw[era,erb,←hxn,←hpc]
    rw[if_neg om,if_neg om,if_neg om,if_neg om,if_neg om,if_neg om,if_neg om,if_neg om,if_neg om,if_neg om,if_pos om,if_pos hq]
  rw[e]
  clear e
  have HCa:=lI (fun W hW=>call_any (cp:=cp) (hb:=hb) (ho:=ho) (vm:=vm) (d:=d) (w:=W) hW wf hlen)
  rw[hq]at HCa
  have wf2:(qt d).1.h.Wf:=(callS_wf wf hlen).h
  generalize (qt d).1=d2 at *
  have hne:=h.hbl
  have HA:=lI ua
  have HB:=lI ub
  have HN:=lI un
  have HU:=lI up
  obtain⟨w1,hw1⟩:∃w1,w1=w.alloc (.cells #[.int .i64 58,.int .i64 kd,.int .i64 k1,.int .i64 k2,.int .i32 imm] 91):=⟨_,rfl⟩
  have H1:Hid (qK cp hb ho vm 40 w1 d):=lI zK
  have G1:Hid (Cgo cp hb ho vm 40 w w1):=lI zH
  have hbx:cp<w.heap.size:=h.lt
  have HX:Hid (w1.heap[w.heap.size]? =some (.cells #[.int .i64 58,.int .i64 kd,.int .i64 k1,.int .i64 k2,.int .i32 imm] 91 (0,0))):=lI zR
  have q0:(w1).cell? ⟨w.heap.size,0,none⟩=some (.int .i64 58):=zA
  have q1:(w1).cell? ⟨w.heap.size,1,none⟩=some (.int .i64 kd):=zA
  have q2:(w1).cell? ⟨w.heap.size,2,none⟩=some (.int .i64 k1):=zA
  have q3:(w1).cell? ⟨w.heap.size,3,none⟩=some (.int .i64 k2):=zA
  have q4:(w1).cell? ⟨w.heap.size,4,none⟩=some (.int .i32 imm):=zA
  have HW1:=lI hw1
  clear hw1 h
  have hp:=H1.out.ptr
  have hca:=H1.out.hart.get (qV wf.h k1 h1)
  have hcb:=H1.out.hart.get (qV wf.h k2 h2)
  have hc32:=H1.out.hart.get (qd wf.h)
  rw[←hxa]at hca
  rw[←hxb]at hcb
  rw[←hpc]at hc32
  have HPC:=lI hpc
  have HIM:=lI hxn
  clear hxa hxb era erb hpc ua ub un up hxn
  obtain⟨b1,b2⟩:=HU.out
  have j1:(k1:Int)<32:=om
  have j2:(k2:Int)<32:=om
  go_enter Tryz.func86,Tryz.ntmps86
  go_upto_region 1 with(fail)
  rw[←HW1.out]
  go_quiet (fail)
  rw[←HIM.out]
  clear hca hcb
  go_upto_region 37 with(go_at_call 120;refine(HCa.out _ (H1.out.drewN _)).mono ?_;rintro e w2 ⟨rfl,hc,hg⟩)
  clear q0 q1 q2 q3 q4
  have HG:=lI ((G1.out.drewN _).trans hg)
  clear hg
  exact cr
theorem do_atom_no(h:qK cp hb ho vm 40 w d)(wf:d.Wf)(hlen:d.out.length<1099511627776)(op:Int)(kd k1 k2:Nat)(imm:Int)(hop:46≤op∧op≤56)(hd:kd<32)(h1:k1<32)(h2:k2<32)(hq:(qb d op (d.h.reg k1) (d.h.reg k2)).2.2=false)(hi: -2147483648≤imm∧imm≤2147483647):
    Calls Tryz.prog 86 #[.pointer (some ⟨cp,0,none⟩),.agg #[.int .i64 op,.int .i64 kd,.int .i64 k1,.int .i64 k2,.int .i32 imm]] w fun e w'=>e=.returned (.tuple #[])∧qK cp hb ho vm 40 w' (doS ⟨op,kd,k1,k2,imm⟩ d)∧Cgo cp hb ho vm 40 w w':=by
  obtain⟨o0,o1⟩:=hop
  have f1:(op==1)=false:=sH.2 om
  have f2:(op==2)=false:=sH.2 om
  have f3:(op==3)=false:=sH.2 om
  have f4:(op==4)=false:=sH.2 om
  obtain⟨i0,i1⟩:=hi
  obtain⟨xa,hxa⟩:∃x,x=d.h.regs.getD k1 0:=⟨_,rfl⟩
  obtain⟨xb,hxb⟩:∃x,x=d.h.regs.getD k2 0:=⟨_,rfl⟩
  obtain⟨xn,hxn⟩:∃x,x=imm%4294967296:=⟨_,rfl⟩
  obtain⟨pc,hpc⟩:∃x,x=d.h.pc:=⟨_,rfl⟩
  have era:d.h.reg (k1:Int)=xa:=yW
  have erb:d.h.reg (k2:Int)=xb:=yV
  rw[era,erb]at hq
  have ua:U32 xa:=zT
  have ub:U32 xb:=zS
  have un:U32 xn:=yA
  have up:U32 pc:=yC
  have e:doS ⟨op,kd,k1,k2,imm⟩ d=(qb d op xa xb).1:=by
    unfold doS
    dsimp only
    rw[era,erb,←hxn,←hpc]
    rw[if_neg om,if_neg om,if_neg om,if_neg om,if_neg om,if_neg om,if_neg om,if_neg om,if_neg om,if_pos om,if_neg (by rw[hq];decide)]
  rw[e]
  clear e
  have HAt:=lI (fun W hW=>atom_any (cp:=cp) (hb:=hb) (ho:=ho) (vm:=vm) (d:=d) (w:=W) hW wf op xa xb ⟨o0,o1⟩ ua ub)
  rw[hq]at HAt
  generalize (qb d op xa xb).1=d2 at *
  generalize (qb d op xa xb).2.1=xl at *
  have hne:=h.hbl
  have HA:=lI ua
  have HB:=lI ub
  have HN:=lI un
  have HU:=lI up
  obtain⟨w1,hw1⟩:∃w1,w1=w.alloc (.cells #[.int .i64 op,.int .i64 kd,.int .i64 k1,.int .i64 k2,.int .i32 imm] 91):=⟨_,rfl⟩
  have H1:Hid (qK cp hb ho vm 40 w1 d):=lI zK
  have G1:Hid (Cgo cp hb ho vm 40 w w1):=lI zH
  have hbx:cp<w.heap.size:=h.lt
  have HX:Hid (w1.heap[w.heap.size]? =some (.cells #[.int .i64 op,.int .i64 kd,.int .i64 k1,.int .i64 k2,.int .i32 imm] 91 (0,0))):=lI zR
  have q0:(w1).cell? ⟨w.heap.size,0,none⟩=some (.int .i64 op):=zA
  have q1:(w1).cell? ⟨w.heap.size,1,none⟩=some (.int .i64 kd):=zA
  have q2:(w1).cell? ⟨w.heap.size,2,none⟩=some (.int .i64 k1):=zA
  have q3:(w1).cell? ⟨w.heap.size,3,none⟩=some (.int .i64 k2):=zA
  have q4:(w1).cell? ⟨w.heap.size,4,none⟩=some (.int .i32 imm):=zA
  have HW1:=lI hw1
  clear hw1 h
  have hp:=H1.out.ptr
  have hca:=H1.out.hart.get (qV wf.h k1 h1)
  have hcb:=H1.out.hart.get (qV wf.h k2 h2)
  have hc32:=H1.out.hart.get (qd wf.h)
  rw[←hxa]at hca
  rw[←hxb]at hcb
  rw[←hpc]at hc32
  have HPC:=lI hpc
  have HIM:=lI hxn
  clear hxa hxb era erb hpc ua ub un up hxn
  obtain⟨b1,b2⟩:=HU.out
  have j1:(k1:Int)<32:=om
  have j2:(k2:Int)<32:=om
  go_enter Tryz.func86,Tryz.ntmps86
  go_upto_region 1 with(fail)
  rw[←HW1.out]
  go_quiet (fail)
  rw[←HIM.out]
  clear hca hcb
  go_wp2_with (go_at_call 119;refine(HAt.out _ (H1.out.drewN _)).mono ?_;rintro e w2 ⟨rfl,hc,hg⟩)
  exact sO (results_none zM _ _ _) rfl ⟨rfl,hc,(G1.out.drewN _).trans hg⟩
theorem do_atom_yes(h:qK cp hb ho vm 40 w d)(wf:d.Wf)(hlen:d.out.length<1099511627776)(op:Int)(kd k1 k2:Nat)(imm:Int)(hop:46≤op∧op≤56)(hd:kd<32)(h1:k1<32)(h2:k2<32)(hq:(qb d op (d.h.reg k1) (d.h.reg k2)).2.2=true)(hi: -2147483648≤imm∧imm≤2147483647):
    Calls Tryz.prog 86 #[.pointer (some ⟨cp,0,none⟩),.agg #[.int .i64 op,.int .i64 kd,.int .i64 k1,.int .i64 k2,.int .i32 imm]] w fun e w'=>e=.returned (.tuple #[])∧qK cp hb ho vm 40 w' (doS ⟨op,kd,k1,k2,imm⟩ d)∧Cgo cp hb ho vm 40 w w':=by
  obtain⟨o0,o1⟩:=hop
  have f1:(op==1)=false:=sH.2 om
  have f2:(op==2)=false:=sH.2 om
  have f3:(op==3)=false:=sH.2 om
  have f4:(op==4)=false:=sH.2 om
  obtain⟨i0,i1⟩:=hi
  obtain⟨xa,hxa⟩:∃x,x=d.h.regs.getD k1 0:=⟨_,rfl⟩
  obtain⟨xb,hxb⟩:∃x,x=d.h.regs.getD k2 0:=⟨_,rfl⟩
  obtain⟨xn,hxn⟩:∃x,x=imm%4294967296:=⟨_,rfl⟩
  obtain⟨pc,hpc⟩:∃x,x=d.h.pc:=⟨_,rfl⟩
  have era:d.h.reg (k1:Int)=xa:=yW
  have erb:d.h.reg (k2:Int)=xb:=yV
  rw[era,erb]at hq
  have ua:U32 xa:=zT
  have ub:U32 xb:=zS
  have un:U32 xn:=yA
  have up:U32 pc:=yC
  have e:doS ⟨op,kd,k1,k2,imm⟩ d=((qb d op xa xb).1.set kd (qb d op xa xb).2.1).setPc ((pc+4)%4294967296):=by
    unfold doS
    dsimp only
    rw[era,erb,←hxn,←hpc]
    rw[if_neg om,if_neg om,if_neg om,if_neg om,if_neg om,if_neg om,if_neg om,if_neg om,if_neg om,if_pos om,if_pos hq]
  rw[e]
  clear e
  have HAt:=lI (fun W hW=>atom_any (cp:=cp) (hb:=hb) (ho:=ho) (vm:=vm) (d:=d) (w:=W) hW wf op xa xb ⟨o0,o1⟩ ua ub)
  rw[hq]at HAt
  have HWF:=lI (uy wf op xa xb ua ub)
  generalize (qb d op xa xb).1=d2 at *
  generalize (qb d op xa xb).2.1=xl at *
  have hne:=h.hbl
  have HA:=lI ua
  have HB:=lI ub
  have HN:=lI un
  have HU:=lI up
  obtain⟨w1,hw1⟩:∃w1,w1=w.alloc (.cells #[.int .i64 op,.int .i64 kd,.int .i64 k1,.int .i64 k2,.int .i32 imm] 91):=⟨_,rfl⟩
  have H1:Hid (qK cp hb ho vm 40 w1 d):=lI zK
  have G1:Hid (Cgo cp hb ho vm 40 w w1):=lI zH
  have hbx:cp<w.heap.size:=h.lt
  have HX:Hid (w1.heap[w.heap.size]? =some (.cells #[.int .i64 op,.int .i64 kd,.int .i64 k1,.int .i64 k2,.int .i32 imm] 91 (0,0))):=lI zR
  have q0:(w1).cell? ⟨w.heap.size,0,none⟩=some (.int .i64 op):=zA
  have q1:(w1).cell? ⟨w.heap.size,1,none⟩=some (.int .i64 kd):=zA
  have q2:(w1).cell? ⟨w.heap.size,2,none⟩=some (.int .i64 k1):=zA
  have q3:(w1).cell? ⟨w.heap.size,3,none⟩=some (.int .i64 k2):=zA
  have q4:(w1).cell? ⟨w.heap.size,4,none⟩=some (.int .i32 imm):=zA
  have HW1:=lI hw1
  clear hw1 h
  have hp:=H1.out.ptr
  have hca:=H1.out.hart.get (qV wf.h k1 h1)
  have hcb:=H1.out.hart.get (qV wf.h k2 h2)
  have hc32:=H1.out.hart.get (qd wf.h)
  rw[←hxa]at hca
  rw[←hxb]at hcb
  rw[←hpc]at hc32
  have HPC:=lI hpc
  have HIM:=lI hxn
  clear hxa hxb era erb hpc ua ub un up hxn
  obtain⟨b1,b2⟩:=HU.out
  have j1:(k1:Int)<32:=om
  have j2:(k2:Int)<32:=om
  go_enter Tryz.func86,Tryz.ntmps86
  go_upto_region 1 with(fail)
  rw[←HW1.out]
  go_quiet (fail)
  rw[←HIM.out]
  clear hca hcb
  go_upto_region 32 with(go_at_call 119;refine(HAt.out _ (H1.out.drewN _)).mono ?_;rintro e w2 ⟨rfl,hc0,hg0⟩)
  have HG0:=lI ((G1.out.drewN _).trans hg0)
  have p1:w2.cell? ⟨w.heap.size,1,none⟩=some (.int .i64 kd):=(World.cell?_of_block (w:=w1) (hg0.block w.heap.size (qD q1) (by have:=H1.out.hbl;omega) (fun e=>by have:=H1.out.vm_lt e;omega) (.inr ⟨hbx,fun cs fr e=>by change w1.heap[w.heap.size]? =_ at e;rw[HX.out]at e;injection e with e;injection e with e1 e2;exact absurd e2 zF⟩))).trans q1
  clear hg0 q0 q1 q2 q3 q4 hp hc32
  go_upto_region 37 with(go_at_call 114;refine(Jz hc0 HWF.out.1.h kd hd _).mono ?_;rintro e w3 ⟨rfl,hc,hg⟩)
  have HG:Hid (Cgo cp hb ho vm 40 w w3):=lI (HG0.out.trans hg)
  have wf2:=(HWF.out.1.set kd xl HWF.out.2).h
  clear hg p1
  have hp:=hc.ptr
  have hc32:=hc.hart.get (qd wf2)
  exact cr
end
section
variable {cp hb ho : Nat} {vm : Value} {d : qF} {w : World}
theorem ct{p:Prop}(h:p:=by
 have:=hc.hart.get (qd (wf.set r x ux).h)
 rw[this,HPC.out]
 unfold qF.set Hart.setReg
 split<;>rfl)):p:=h
theorem do_auipc(h:qK cp hb ho vm 40 w d)(wf:d.Wf)(hlen:d.out.length<1099511627776)(kd k1 k2:Nat)(imm:Int)(hd:kd<32)(h1:k1<32)(h2:k2<32)(hi: -2147483648≤imm∧imm≤2147483647):
    Calls Tryz.prog 86 #[.pointer (some ⟨cp,0,none⟩),.agg #[.int .i64 2,.int .i64 kd,.int .i64 k1,.int .i64 k2,.int .i32 imm]] w fun e w'=>e=.returned (.tuple #[])∧qK cp hb ho vm 40 w' (doS ⟨2,kd,k1,k2,imm⟩ d)∧Cgo cp hb ho vm 40 w w':=by
  obtain⟨i0,i1⟩:=hi
  obtain⟨xa,hxa⟩:∃x,x=d.h.regs.getD k1 0:=⟨_,rfl⟩
  obtain⟨xb,hxb⟩:∃x,x=d.h.regs.getD k2 0:=⟨_,rfl⟩
  obtain⟨xn,hxn⟩:∃x,x=imm%4294967296:=⟨_,rfl⟩
  obtain⟨pc,hpc⟩:∃x,x=d.h.pc:=⟨_,rfl⟩
  have era:d.h.reg (k1:Int)=xa:=yW
  have erb:d.h.reg (k2:Int)=xb:=yV
  have ua:U32 xa:=zT
  have ub:U32 xb:=zS
  have un:U32 xn:=yA
  have up:U32 pc:=yC
  have e:doS ⟨2,kd,k1,k2,imm⟩ d=(d.set kd ((pc+xn)%4294967296)).setPc ((pc+4)%4294967296):=by
    unfold doS
    dsimp only
    rw[era,erb,←hxn,←hpc]
    rw[if_neg om,if_pos rfl]
  rw[e]
  clear e
  have hne:=h.hbl
  have HA:=lI ua
  have HB:=lI ub
  have HN:=lI un
  have HU:=lI up
  obtain⟨w1,hw1⟩:∃w1,w1=w.alloc (.cells #[.int .i64 2,.int .i64 kd,.int .i64 k1,.int .i64 k2,.int .i32 imm] 91):=⟨_,rfl⟩
  have H1:Hid (qK cp hb ho vm 40 w1 d):=lI zK
  have G1:Hid (Cgo cp hb ho vm 40 w w1):=lI zH
  have hbx:cp<w.heap.size:=h.lt
  have HX:Hid (w1.heap[w.heap.size]? =some (.cells #[.int .i64 2,.int .i64 kd,.int .i64 k1,.int .i64 k2,.int .i32 imm] 91 (0,0))):=lI zR
  have q0:(w1).cell? ⟨w.heap.size,0,none⟩=some (.int .i64 2):=zA
  have q1:(w1).cell? ⟨w.heap.size,1,none⟩=some (.int .i64 kd):=zA
  have q2:(w1).cell? ⟨w.heap.size,2,none⟩=some (.int .i64 k1):=zA
  have q3:(w1).cell? ⟨w.heap.size,3,none⟩=some (.int .i64 k2):=zA
  have q4:(w1).cell? ⟨w.heap.size,4,none⟩=some (.int .i32 imm):=zA
  have HW1:=lI hw1
  clear hw1 h
  have hp:=H1.out.ptr
  have hca:=H1.out.hart.get (qV wf.h k1 h1)
  have hcb:=H1.out.hart.get (qV wf.h k2 h2)
  have hc32:=H1.out.hart.get (qd wf.h)
  rw[←hxa]at hca
  rw[←hxb]at hcb
  rw[←hpc]at hc32
  have HPC:=lI hpc
  have HIM:=lI hxn
  clear hxa hxb era erb hpc ua ub un up hxn
  obtain⟨b1,b2⟩:=HU.out
  have j1:(k1:Int)<32:=om
  have j2:(k2:Int)<32:=om
  go_enter Tryz.func86,Tryz.ntmps86
  go_upto_region 1 with(fail)
  rw[←HW1.out]
  go_quiet (fail)
  rw[←HIM.out]
  clear hca hcb
  obtain⟨n0,n1⟩:=HN.out
  have KP:Hid (∀wx w2,wx.heap=w1.heap→Cgo cp hb ho vm 40 wx w2→w2.cell? ⟨w.heap.size,1,none⟩=some (.int .i64 kd)):=lI (fun wx w2 eh hg=>
    have hsz:wx.heap.size=w1.heap.size:=by rw[eh]
    (World.cell?_of_block (w:=w1) ((hg.block w.heap.size (by have:=qD q1;rw[hsz];exact this) (by have:=H1.out.hbl;omega) (fun e=>by have:=H1.out.vm_lt e;omega) (.inr ⟨hbx,fun cs fr e=>by rw[eh,HX.out]at e;injection e with e;injection e with e1 e2;exact absurd e2 zF⟩)).trans (by rw[eh]))).trans q1)
  have PK:Hid (∀r x w2,qK cp hb ho vm 40 w2 (d.set r x)→U32 x→w2.cell? ⟨hb,ho+32,none⟩=some (.int .u32 pc)):=lI (fun r x w2 hc ux=>by
    exact ct
  go_upto_region 7 with(fail)
  go_region_held3 (fun w'=>w'.cell? ⟨w.heap.size,1,none⟩=some (.int .i64 kd)∧w'.cell? ⟨cp,0,none⟩=some (.pointer (some ⟨hb,ho,none⟩))∧w'.cell? ⟨hb,ho+32,none⟩=some (.int .u32 pc))
    (first|exact⟨q1,hp,hc32⟩|exact⟨p1,p2,p3⟩)
    ((first|(go_at_call 114;(try rw[IntKind.wrap_u32]);refine(Jz (H1.out.below (by repeat(first|exact Below.refl _ _|refine qB ?_ _|refine Below.drew ?_))) wf.h kd hd _).mono ?_;rintro e w2 ⟨rfl,hc,hg⟩;have p1:=KP.out _ w2 zM hg;have p2:=hc.ptr;have p3:=PK.out _ _ w2 hc (QH _))))
  have HG:Hid (Cgo cp hb ho vm 40 w w2):=lI ((G1.out.drewN _).trans hg)
  have wf2:=(wf.set kd _ (QH ((pc+xn)))).h
  clear hg q0 q1 q2 q3 q4 p1 p2 p3
  exact cr
end
section
variable {cp hb ho : Nat} {vm : Value} {d : qF} {w : World}
theorem imm_any(op:Int)(w:World)(hop:19≤op∧op≤27):Calls Tryz.prog 118 #[.int .i64 op] w fun e w'=>e=.returned (.int .i64 (immOp op))∧w=w':=by
  have ix0:∀W,(Instr.index 237 (.agg #[.int .i64 28,.int .i64 31,.int .i64 32,.int .i64 33,.int .i64 36,.int .i64 37,.int .i64 30,.int .i64 34,.int .i64 35]) (.int .i64 0)).run Tryz.prog W=.ok (.int .i64 28) W:=fun _=>by kernel_rfl
  have ix1:∀W,(Instr.index 237 (.agg #[.int .i64 28,.int .i64 31,.int .i64 32,.int .i64 33,.int .i64 36,.int .i64 37,.int .i64 30,.int .i64 34,.int .i64 35]) (.int .i64 1)).run Tryz.prog W=.ok (.int .i64 31) W:=fun _=>by kernel_rfl
  have ix2:∀W,(Instr.index 237 (.agg #[.int .i64 28,.int .i64 31,.int .i64 32,.int .i64 33,.int .i64 36,.int .i64 37,.int .i64 30,.int .i64 34,.int .i64 35]) (.int .i64 2)).run Tryz.prog W=.ok (.int .i64 32) W:=fun _=>by kernel_rfl
  have ix3:∀W,(Instr.index 237 (.agg #[.int .i64 28,.int .i64 31,.int .i64 32,.int .i64 33,.int .i64 36,.int .i64 37,.int .i64 30,.int .i64 34,.int .i64 35]) (.int .i64 3)).run Tryz.prog W=.ok (.int .i64 33) W:=fun _=>by kernel_rfl
  have ix4:∀W,(Instr.index 237 (.agg #[.int .i64 28,.int .i64 31,.int .i64 32,.int .i64 33,.int .i64 36,.int .i64 37,.int .i64 30,.int .i64 34,.int .i64 35]) (.int .i64 4)).run Tryz.prog W=.ok (.int .i64 36) W:=fun _=>by kernel_rfl
  have ix5:∀W,(Instr.index 237 (.agg #[.int .i64 28,.int .i64 31,.int .i64 32,.int .i64 33,.int .i64 36,.int .i64 37,.int .i64 30,.int .i64 34,.int .i64 35]) (.int .i64 5)).run Tryz.prog W=.ok (.int .i64 37) W:=fun _=>by kernel_rfl
  have ix6:∀W,(Instr.index 237 (.agg #[.int .i64 28,.int .i64 31,.int .i64 32,.int .i64 33,.int .i64 36,.int .i64 37,.int .i64 30,.int .i64 34,.int .i64 35]) (.int .i64 6)).run Tryz.prog W=.ok (.int .i64 30) W:=fun _=>by kernel_rfl
  have ix7:∀W,(Instr.index 237 (.agg #[.int .i64 28,.int .i64 31,.int .i64 32,.int .i64 33,.int .i64 36,.int .i64 37,.int .i64 30,.int .i64 34,.int .i64 35]) (.int .i64 7)).run Tryz.prog W=.ok (.int .i64 34) W:=fun _=>by kernel_rfl
  have ix8:∀W,(Instr.index 237 (.agg #[.int .i64 28,.int .i64 31,.int .i64 32,.int .i64 33,.int .i64 36,.int .i64 37,.int .i64 30,.int .i64 34,.int .i64 35]) (.int .i64 8)).run Tryz.prog W=.ok (.int .i64 35) W:=fun _=>by kernel_rfl
  have ho:op=19∨op=20∨op=21∨op=22∨op=23∨op=24∨op=25∨op=26∨op=27:=om
  rcases ho with rfl|rfl|rfl|rfl|rfl|rfl|rfl|rfl|rfl
  all_goals
    go_enter Tryz.func118,Tryz.ntmps118
    go_wp2_with fail
    go_ret
    exact⟨rfl,rfl⟩
theorem cu{p:Prop}(h:p:=by
 have HG:Hid (Cgo cp hb ho vm 40 w w2):=lI ((G1.out.drewN _).trans hg)
 have wf2:=(wf.set kd _ (HALU.out)).h
 clear hg q0 q1 q2 q3 q4 p1 p2 p3
 exact cr):p:=h
theorem do_alu(h:qK cp hb ho vm 40 w d)(wf:d.Wf)(hlen:d.out.length<1099511627776)(op:Int)(kd k1 k2:Nat)(imm:Int)(hop:28≤op∧op≤45)(hd:kd<32)(h1:k1<32)(h2:k2<32)(hi: -2147483648≤imm∧imm≤2147483647):
    Calls Tryz.prog 86 #[.pointer (some ⟨cp,0,none⟩),.agg #[.int .i64 op,.int .i64 kd,.int .i64 k1,.int .i64 k2,.int .i32 imm]] w fun e w'=>e=.returned (.tuple #[])∧qK cp hb ho vm 40 w' (doS ⟨op,kd,k1,k2,imm⟩ d)∧Cgo cp hb ho vm 40 w w':=by
  obtain⟨o0,o1⟩:=hop
  have f1:(op==1)=false:=sH.2 om
  have f2:(op==2)=false:=sH.2 om
  have f3:(op==3)=false:=sH.2 om
  have f4:(op==4)=false:=sH.2 om
  obtain⟨i0,i1⟩:=hi
  obtain⟨xa,hxa⟩:∃x,x=d.h.regs.getD k1 0:=⟨_,rfl⟩
  obtain⟨xb,hxb⟩:∃x,x=d.h.regs.getD k2 0:=⟨_,rfl⟩
  obtain⟨xn,hxn⟩:∃x,x=imm%4294967296:=⟨_,rfl⟩
  obtain⟨pc,hpc⟩:∃x,x=d.h.pc:=⟨_,rfl⟩
  have era:d.h.reg (k1:Int)=xa:=yW
  have erb:d.h.reg (k2:Int)=xb:=yV
  have ua:U32 xa:=zT
  have ub:U32 xb:=zS
  have un:U32 xn:=yA
  have up:U32 pc:=yC
  have e:doS ⟨op,kd,k1,k2,imm⟩ d=(d.set kd (alu op xa xb)).setPc ((pc+4)%4294967296):=by
    unfold doS
    dsimp only
    rw[era,erb,←hxn,←hpc]
    rw[if_neg om,if_neg om,if_neg om,if_neg om,if_neg om,if_neg om,if_neg om,if_neg om,if_pos om]
  rw[e]
  clear e
  have HAl:=lI (fun W=>alu_any op xa xb W ua.1 ua.2 ub.1 ub.2)
  have HALU:=lI (alu_lo op xa xb ua ub)
  generalize alu op xa xb=xl at *
  have hne:=h.hbl
  have HA:=lI ua
  have HB:=lI ub
  have HN:=lI un
  have HU:=lI up
  obtain⟨w1,hw1⟩:∃w1,w1=w.alloc (.cells #[.int .i64 op,.int .i64 kd,.int .i64 k1,.int .i64 k2,.int .i32 imm] 91):=⟨_,rfl⟩
  have H1:Hid (qK cp hb ho vm 40 w1 d):=lI zK
  have G1:Hid (Cgo cp hb ho vm 40 w w1):=lI zH
  have hbx:cp<w.heap.size:=h.lt
  have HX:Hid (w1.heap[w.heap.size]? =some (.cells #[.int .i64 op,.int .i64 kd,.int .i64 k1,.int .i64 k2,.int .i32 imm] 91 (0,0))):=lI zR
  have q0:(w1).cell? ⟨w.heap.size,0,none⟩=some (.int .i64 op):=zA
  have q1:(w1).cell? ⟨w.heap.size,1,none⟩=some (.int .i64 kd):=zA
  have q2:(w1).cell? ⟨w.heap.size,2,none⟩=some (.int .i64 k1):=zA
  have q3:(w1).cell? ⟨w.heap.size,3,none⟩=some (.int .i64 k2):=zA
  have q4:(w1).cell? ⟨w.heap.size,4,none⟩=some (.int .i32 imm):=zA
  have HW1:=lI hw1
  clear hw1 h
  have hp:=H1.out.ptr
  have hca:=H1.out.hart.get (qV wf.h k1 h1)
  have hcb:=H1.out.hart.get (qV wf.h k2 h2)
  have hc32:=H1.out.hart.get (qd wf.h)
  rw[←hxa]at hca
  rw[←hxb]at hcb
  rw[←hpc]at hc32
  have HPC:=lI hpc
  have HIM:=lI hxn
  clear hxa hxb era erb hpc ua ub un up hxn
  obtain⟨b1,b2⟩:=HU.out
  have j1:(k1:Int)<32:=om
  have j2:(k2:Int)<32:=om
  go_enter Tryz.func86,Tryz.ntmps86
  go_upto_region 1 with(fail)
  rw[←HW1.out]
  go_quiet (fail)
  rw[←HIM.out]
  clear hca hcb
  have KP:Hid (∀wx w2,wx.heap=w1.heap→Cgo cp hb ho vm 40 wx w2→w2.cell? ⟨w.heap.size,1,none⟩=some (.int .i64 kd)):=lI (fun wx w2 eh hg=>
    have hsz:wx.heap.size=w1.heap.size:=by rw[eh]
    (World.cell?_of_block (w:=w1) ((hg.block w.heap.size (by have:=qD q1;rw[hsz];exact this) (by have:=H1.out.hbl;omega) (fun e=>by have:=H1.out.vm_lt e;omega) (.inr ⟨hbx,fun cs fr e=>by rw[eh,HX.out]at e;injection e with e;injection e with e1 e2;exact absurd e2 zF⟩)).trans (by rw[eh]))).trans q1)
  have PK:Hid (∀r x w2,qK cp hb ho vm 40 w2 (d.set r x)→U32 x→w2.cell? ⟨hb,ho+32,none⟩=some (.int .u32 pc)):=lI (fun r x w2 hc ux=>by
    exact ct
  go_upto_region 28 with(fail)
  go_region_held3 (fun w'=>w'.cell? ⟨w.heap.size,1,none⟩=some (.int .i64 kd)∧w'.cell? ⟨cp,0,none⟩=some (.pointer (some ⟨hb,ho,none⟩))∧w'.cell? ⟨hb,ho+32,none⟩=some (.int .u32 pc))
    (first|exact⟨q1,hp,hc32⟩|exact⟨p1,p2,p3⟩)
    ((first|(go_at_call 117;refine(HAl.out _).mono ?_;rintro e w2 ⟨rfl,nn,rfl⟩)|(go_at_call 114;(try rw[IntKind.wrap_u32]);refine(Jz (H1.out.below (by repeat(first|exact Below.refl _ _|refine qB ?_ _|refine Below.drew ?_))) wf.h kd hd _).mono ?_;rintro e w2 ⟨rfl,hc,hg⟩;have p1:=KP.out _ w2 zM hg;have p2:=hc.ptr;have p3:=PK.out _ _ w2 hc (HALU.out))))
  exact cu
theorem do_alun(h:qK cp hb ho vm 40 w d)(wf:d.Wf)(hlen:d.out.length<1099511627776)(op:Int)(kd k1 k2:Nat)(imm:Int)(hop:19≤op∧op≤27)(hd:kd<32)(h1:k1<32)(h2:k2<32)(hi: -2147483648≤imm∧imm≤2147483647):
    Calls Tryz.prog 86 #[.pointer (some ⟨cp,0,none⟩),.agg #[.int .i64 op,.int .i64 kd,.int .i64 k1,.int .i64 k2,.int .i32 imm]] w fun e w'=>e=.returned (.tuple #[])∧qK cp hb ho vm 40 w' (doS ⟨op,kd,k1,k2,imm⟩ d)∧Cgo cp hb ho vm 40 w w':=by
  obtain⟨o0,o1⟩:=hop
  have f1:(op==1)=false:=sH.2 om
  have f2:(op==2)=false:=sH.2 om
  have f3:(op==3)=false:=sH.2 om
  have f4:(op==4)=false:=sH.2 om
  obtain⟨i0,i1⟩:=hi
  obtain⟨xa,hxa⟩:∃x,x=d.h.regs.getD k1 0:=⟨_,rfl⟩
  obtain⟨xb,hxb⟩:∃x,x=d.h.regs.getD k2 0:=⟨_,rfl⟩
  obtain⟨xn,hxn⟩:∃x,x=imm%4294967296:=⟨_,rfl⟩
  obtain⟨pc,hpc⟩:∃x,x=d.h.pc:=⟨_,rfl⟩
  have era:d.h.reg (k1:Int)=xa:=yW
  have erb:d.h.reg (k2:Int)=xb:=yV
  have ua:U32 xa:=zT
  have ub:U32 xb:=zS
  have un:U32 xn:=yA
  have up:U32 pc:=yC
  have e:doS ⟨op,kd,k1,k2,imm⟩ d=(d.set kd (alu (immOp op) xa xn)).setPc ((pc+4)%4294967296):=by
    unfold doS
    dsimp only
    rw[era,erb,←hxn,←hpc]
    rw[if_neg om,if_neg om,if_neg om,if_neg om,if_neg om,if_neg om,if_neg om,if_pos om]
  rw[e]
  clear e
  have HAl:=lI (fun W=>alu_any (immOp op) xa xn W ua.1 ua.2 un.1 un.2)
  have HALU:=lI (alu_lo (immOp op) xa xn ua un)
  generalize alu (immOp op) xa xn=xl at *
  have hne:=h.hbl
  have HA:=lI ua
  have HB:=lI ub
  have HN:=lI un
  have HU:=lI up
  obtain⟨w1,hw1⟩:∃w1,w1=w.alloc (.cells #[.int .i64 op,.int .i64 kd,.int .i64 k1,.int .i64 k2,.int .i32 imm] 91):=⟨_,rfl⟩
  have H1:Hid (qK cp hb ho vm 40 w1 d):=lI zK
  have G1:Hid (Cgo cp hb ho vm 40 w w1):=lI zH
  have hbx:cp<w.heap.size:=h.lt
  have HX:Hid (w1.heap[w.heap.size]? =some (.cells #[.int .i64 op,.int .i64 kd,.int .i64 k1,.int .i64 k2,.int .i32 imm] 91 (0,0))):=lI zR
  have q0:(w1).cell? ⟨w.heap.size,0,none⟩=some (.int .i64 op):=zA
  have q1:(w1).cell? ⟨w.heap.size,1,none⟩=some (.int .i64 kd):=zA
  have q2:(w1).cell? ⟨w.heap.size,2,none⟩=some (.int .i64 k1):=zA
  have q3:(w1).cell? ⟨w.heap.size,3,none⟩=some (.int .i64 k2):=zA
  have q4:(w1).cell? ⟨w.heap.size,4,none⟩=some (.int .i32 imm):=zA
  have HW1:=lI hw1
  clear hw1 h
  have hp:=H1.out.ptr
  have hca:=H1.out.hart.get (qV wf.h k1 h1)
  have hcb:=H1.out.hart.get (qV wf.h k2 h2)
  have hc32:=H1.out.hart.get (qd wf.h)
  rw[←hxa]at hca
  rw[←hxb]at hcb
  rw[←hpc]at hc32
  have HPC:=lI hpc
  have HIM:=lI hxn
  clear hxa hxb era erb hpc ua ub un up hxn
  obtain⟨b1,b2⟩:=HU.out
  have j1:(k1:Int)<32:=om
  have j2:(k2:Int)<32:=om
  go_enter Tryz.func86,Tryz.ntmps86
  go_upto_region 1 with(fail)
  rw[←HW1.out]
  go_quiet (fail)
  rw[←HIM.out]
  clear hca hcb
  have KP:Hid (∀wx w2,wx.heap=w1.heap→Cgo cp hb ho vm 40 wx w2→w2.cell? ⟨w.heap.size,1,none⟩=some (.int .i64 kd)):=lI (fun wx w2 eh hg=>
    have hsz:wx.heap.size=w1.heap.size:=by rw[eh]
    (World.cell?_of_block (w:=w1) ((hg.block w.heap.size (by have:=qD q1;rw[hsz];exact this) (by have:=H1.out.hbl;omega) (fun e=>by have:=H1.out.vm_lt e;omega) (.inr ⟨hbx,fun cs fr e=>by rw[eh,HX.out]at e;injection e with e;injection e with e1 e2;exact absurd e2 zF⟩)).trans (by rw[eh]))).trans q1)
  have PK:Hid (∀r x w2,qK cp hb ho vm 40 w2 (d.set r x)→U32 x→w2.cell? ⟨hb,ho+32,none⟩=some (.int .u32 pc)):=lI (fun r x w2 hc ux=>by
    exact ct
  go_upto_region 26 with(fail)
  go_region_held3 (fun w'=>w'.cell? ⟨w.heap.size,1,none⟩=some (.int .i64 kd)∧w'.cell? ⟨cp,0,none⟩=some (.pointer (some ⟨hb,ho,none⟩))∧w'.cell? ⟨hb,ho+32,none⟩=some (.int .u32 pc))
    (first|exact⟨q1,hp,hc32⟩|exact⟨p1,p2,p3⟩)
    ((first|(go_at_call 117;refine(HAl.out _).mono ?_;rintro e w2 ⟨rfl,nn,rfl⟩)|(go_at_call 118;refine(imm_any op _ ⟨o0,o1⟩).mono ?_;rintro e w2 ⟨rfl,rfl⟩)|(go_at_call 114;(try rw[IntKind.wrap_u32]);refine(Jz (H1.out.below (by repeat(first|exact Below.refl _ _|refine qB ?_ _|refine Below.drew ?_))) wf.h kd hd _).mono ?_;rintro e w2 ⟨rfl,hc,hg⟩;have p1:=KP.out _ w2 zM hg;have p2:=hc.ptr;have p3:=PK.out _ _ w2 hc (HALU.out))))
  exact cu
end
section
variable {cp hb ho : Nat} {vm : Value} {d : qF} {w : World}
theorem do_any(h:qK cp hb ho vm 40 w d)(wf:d.Wf)(hlen:d.out.length<1099511627776)(i:InsD)(hop:1≤i.op∧i.op≤59)(hr:0≤i.rd∧i.rd≤31)(h1:0≤i.rs1∧i.rs1≤31)(h2:0≤i.rs2∧i.rs2≤31)(hi:I32 i.imm):
    Calls Tryz.prog 86 #[.pointer (some ⟨cp,0,none⟩),.agg (qx i)] w fun e w'=>e=.returned (.tuple #[])∧qK cp hb ho vm 40 w' (doS i d)∧Cgo cp hb ho vm 40 w w':=by
  obtain⟨op,rd,rs1,rs2,imm⟩:=i
  obtain⟨kd,rfl⟩:=sQ hr.1
  obtain⟨k1,rfl⟩:=sQ h1.1
  obtain⟨k2,rfl⟩:=sQ h2.1
  have g0:kd<32:=by have:=hr.2;simp only at this;omega
  have g1:k1<32:=by have:=h1.2;simp only at this;omega
  have g2:k2<32:=by have:=h2.2;simp only at this;omega
  unfold I32 at hi
  have hc:op=1∨op=2∨op=3∨op=4∨(5≤op∧op≤10)∨(11≤op∧op≤15)∨(16≤op∧op≤18)∨(19≤op∧op≤27)∨(28≤op∧op≤45)∨(46≤op∧op≤56)∨op=57∨op=58∨op=59:=by obtain⟨x,y⟩:=hop;simp only at x y;omega
  rcases hc with rfl|rfl|rfl|rfl|hc|hc|hc|hc|hc|hc|rfl|rfl|rfl
  · exact do_lui h wf hlen kd k1 k2 imm g0 g1 g2 hi
  · exact do_auipc h wf hlen kd k1 k2 imm g0 g1 g2 hi
  · exact do_jal h wf hlen kd k1 k2 imm g0 g1 g2 hi
  · exact do_jalr h wf hlen kd k1 k2 imm g0 g1 g2 hi
  · cases hq:holds op (d.h.reg k1) (d.h.reg k2)with
    |true=>exact do_branch_true h wf hlen op kd k1 k2 imm hc g0 g1 g2 hq hi
    |false=>exact do_branch_false h wf hlen op kd k1 k2 imm hc g0 g1 g2 hq hi
  · cases hq:qX d.m op ((d.h.reg k1+imm%4294967296)%4294967296)with
    |true=>exact do_load_yes h wf hlen op kd k1 k2 imm hc g0 g1 g2 hq hi
    |false=>exact do_load_no h wf hlen op kd k1 k2 imm hc g0 g1 g2 hq hi
  · cases hq:qW d.m op ((d.h.reg k1+imm%4294967296)%4294967296)with
    |true=>exact do_store_yes h wf hlen op kd k1 k2 imm hc g0 g1 g2 hq hi
    |false=>exact do_store_no h wf hlen op kd k1 k2 imm hc g0 g1 g2 hq hi
  · exact do_alun h wf hlen op kd k1 k2 imm hc g0 g1 g2 hi
  · exact do_alu h wf hlen op kd k1 k2 imm hc g0 g1 g2 hi
  · cases hq:(qb d op (d.h.reg k1) (d.h.reg k2)).2.2 with
    |true=>exact do_atom_yes h wf hlen op kd k1 k2 imm hc g0 g1 g2 hq hi
    |false=>exact do_atom_no h wf hlen op kd k1 k2 imm hc g0 g1 g2 hq hi
  · exact do_fence h wf hlen kd k1 k2 imm g0 g1 g2 hi
  · cases hq:(qt d).2 with
    |true=>exact do_call_yes h wf hlen kd k1 k2 imm g0 g1 g2 hq hi
    |false=>exact do_call_no h wf hlen kd k1 k2 imm g0 g1 g2 hq hi
  · exact do_break h wf hlen kd k1 k2 imm g0 g1 g2 hi
end
theorem fetch_any(v:Value)(l:List Int)(pc:Int)(w:World)(hv:Ints .u8 w v l)(hpc:U32 pc)(hb:∀i,0≤l.getD i 0∧l.getD i 0<256):
    Calls Tryz.prog 34 #[v,.int .u32 pc] w fun e w'=>e=.returned (.tuple #[.agg (qx (qe l pc).1),.int .i64 (qe l pc).2])∧Below w.heap.size w w':=by
  have HL:=lI (fun W h=>load_any v l 13 pc W h hpc hb)
  have HV:=lI hv
  have HU:Hid (U32 (QB l 13 pc)):=lI (mLoad_u13 l pc hpc hb)
  have hF:qe l pc=if qX l 13 pc=true then(match dec (QB l 13 pc)with|some i=>(i,(0:Int))|none=>(i0,2))else(i0,1):=rfl
  obtain⟨fr,hfr⟩:∃r,r=qe l pc:=⟨_,rfl⟩
  rw[←hfr]at hF ⊢
  have HF:=lI hF
  clear hv hF hfr hpc
  go_enter Tryz.func34,Tryz.ntmps34
  go_wp2_with fail
  refine(HL.out _ (HV.out.below (Below.alloc br (sN _) _))).mono ?_
  rintro e w1 ⟨rfl,rfl⟩
  clear HL HV
  generalize QB l 13 pc=x at *
  cases ho:qX l 13 pc with
  | false =>
    rw[ho]at HF
    have HF2:Hid (fr=(i0,1)):=HF
    clear ho HF
    go_wp2_with fail
    exact sO (v:=.tuple #[.agg #[.int .i64 0,.int .i64 0,.int .i64 0,.int .i64 0,.int .i32 0],.int .i64 1]) (by simp[results,Tryz.results34,go_sem]) rfl ⟨by rw[HF2.out];rfl,Fb.blw⟩
  | true =>
    rw[ho]at HF
    have HF2:Hid (fr=(match dec x with|some i=>(i,(0:Int))|none=>(i0,2))):=HF
    clear ho HF
    go_wp2_with fail
    refine(decode_any x _ HU.out).mono ?_
    rintro e w2 ⟨rfl,hb2⟩
    have hblk:=(hb2.block w.heap.size zC).trans (sP w (.cells #[.int .i64 0,.int .i64 0,.int .i64 0,.int .i64 0,.int .i32 0] 91))
    have hlt2:w.heap.size<w2.heap.size:=by have:=hb2.size;simp at this;omega
    have hb3:Below w.heap.size w w2:=Below.trans (Below.alloc br (sN _) _) (hb2.mono zC)
    have HFI:Hid (fr=((dec x).getD i0,if(dec x).isSome=true then 0 else 2)):=lI (by rw[HF2.out];cases dec x<;>rfl)
    have HFN:Hid ((dec x).isSome=false→fr=(i0,2)):=lI (by intro h;rw[HF2.out];cases hd:dec x with|none=>rfl|some y=>rw[hd]at h;cases h)
    clear HF2 hb2
    generalize (dec x).isSome=ok at *
    generalize (dec x).getD i0=j at *
    obtain⟨q1,q2,q3,q4,q5⟩:=j
    simp only[qx]
    obtain⟨w3,hw3⟩:∃w3,w3=w2.alloc (.cells #[.int .i64 q1,.int .i64 q2,.int .i64 q3,.int .i64 q4,.int .i32 q5] 91):=⟨_,rfl⟩
    have hblk3:w3.heap[w.heap.size]? =some (.cells #[.int .i64 0,.int .i64 0,.int .i64 0,.int .i64 0,.int .i32 0] 91 (0,0)):=by rw[hw3];exact(heap_alloc_old w2 _ hlt2).trans hblk
    have k0:w3.cell? ⟨w.heap.size,0,none⟩=some (.int .i64 0):=qN hblk3 rfl
    have k1:w3.cell? ⟨w.heap.size,1,none⟩=some (.int .i64 0):=qN hblk3 rfl
    have k2:w3.cell? ⟨w.heap.size,2,none⟩=some (.int .i64 0):=qN hblk3 rfl
    have k3:w3.cell? ⟨w.heap.size,3,none⟩=some (.int .i64 0):=qN hblk3 rfl
    have k4:w3.cell? ⟨w.heap.size,4,none⟩=some (.int .i32 0):=qN hblk3 rfl
    have kf:=JJ hblk3
    have r0:w3.cell? ⟨w2.heap.size,0,none⟩=some (.int .i64 q1):=yX
    have r1:w3.cell? ⟨w2.heap.size,1,none⟩=some (.int .i64 q2):=yX
    have r2:w3.cell? ⟨w2.heap.size,2,none⟩=some (.int .i64 q3):=yX
    have r3:w3.cell? ⟨w2.heap.size,3,none⟩=some (.int .i64 q4):=yX
    have r4:w3.cell? ⟨w2.heap.size,4,none⟩=some (.int .i32 q5):=yX
    have hb4:Below w.heap.size w w3:=by rw[hw3];exact hb3.trans (Below.alloc br (Nat.le_of_lt hlt2) _)
    have HW3:=lI hw3
    clear hw3 hblk hblk3 hlt2 hb3
    go_upto_region 5 with(fail)
    rw[←HW3.out]
    cases ok with
    | true =>
      go_wp2_with fail
      exact sO (v:=.tuple #[.agg #[.int .i64 q1,.int .i64 q2,.int .i64 q3,.int .i64 q4,.int .i32 q5],.int .i64 0]) (by simp[results,Tryz.results34,go_sem,k0,k1,k2,k3,k4]) rfl ⟨by rw[HFI.out];rfl,hb4.trans Fb.blw⟩
    | false =>
      have HFJ:Hid (fr=(i0,2)):=lI (HFN.out rfl)
      go_wp2_with fail
      exact sO (v:=.tuple #[.agg #[.int .i64 0,.int .i64 0,.int .i64 0,.int .i64 0,.int .i32 0],.int .i64 2]) (by simp[results,Tryz.results34,go_sem,k0,k1,k2,k3,k4]) rfl ⟨by rw[HFJ.out];rfl,hb4.trans Fb.blw⟩
theorem ends_any(op:Int)(w:World):Calls Tryz.prog 38 #[.int .i64 op] w fun e w'=>e=.returned (.bool (lastB op))∧w=w':=by
  go_enter Tryz.func38,Tryz.ntmps38
  go_wp2
  all_goals go_ret
  all_goals refine⟨Qf ?_,rfl⟩
  all_goals(try simp only[beq_iff_eq,sH,ne_eq,decide_eq_true_eq,decide_eq_false_iff_not]at *)
  all_goals(rw[Bool.eq_iff_iff];simp[lastB];omega)
end Go.Proofs.YtlfnddmncbkjaabGreatDoor.W
