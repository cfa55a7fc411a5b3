import Derived.Test.YtlfnddmncbkjaacGreatZGY
import Derived.Test.YtlfnddmncbkjaacGreatZGZ
set_option linter.unusedVariables false
set_option linter.unusedSimpArgs false
set_option maxRecDepth 100000
set_option maxHeartbeats 4000000
namespace Go.Proofs.YtlfnddmncbkjaacGreat.W
open Go.RowKit Fb
section
variable {cp hb ho : Nat} {vm : Value} {d : qD} {w : World}
theorem imm_any(op:Int)(w:World)(hop:19≤op∧op≤27):Calls Tryz.prog 75 #[.int .i64 op] w fun e w'=>e=.returned (.int .i64 (immOp op))∧w=w':=by
  have ix0:∀W,(Instr.index 173 (.agg #[.int .i64 28,.int .i64 31,.int .i64 32,.int .i64 33,.int .i64 36,.int .i64 37,.int .i64 30,.int .i64 34,.int .i64 35]) (.int .i64 0)).run Tryz.prog W=.ok (.int .i64 28) W:=fun _=>by kernel_rfl
  have ix1:∀W,(Instr.index 173 (.agg #[.int .i64 28,.int .i64 31,.int .i64 32,.int .i64 33,.int .i64 36,.int .i64 37,.int .i64 30,.int .i64 34,.int .i64 35]) (.int .i64 1)).run Tryz.prog W=.ok (.int .i64 31) W:=fun _=>by kernel_rfl
  have ix2:∀W,(Instr.index 173 (.agg #[.int .i64 28,.int .i64 31,.int .i64 32,.int .i64 33,.int .i64 36,.int .i64 37,.int .i64 30,.int .i64 34,.int .i64 35]) (.int .i64 2)).run Tryz.prog W=.ok (.int .i64 32) W:=fun _=>by kernel_rfl
  have ix3:∀W,(Instr.index 173 (.agg #[.int .i64 28,.int .i64 31,.int .i64 32,.int .i64 33,.int .i64 36,.int .i64 37,.int .i64 30,.int .i64 34,.int .i64 35]) (.int .i64 3)).run Tryz.prog W=.ok (.int .i64 33) W:=fun _=>by kernel_rfl
  have ix4:∀W,(Instr.index 173 (.agg #[.int .i64 28,.int .i64 31,.int .i64 32,.int .i64 33,.int .i64 36,.int .i64 37,.int .i64 30,.int .i64 34,.int .i64 35]) (.int .i64 4)).run Tryz.prog W=.ok (.int .i64 36) W:=fun _=>by kernel_rfl
  have ix5:∀W,(Instr.index 173 (.agg #[.int .i64 28,.int .i64 31,.int .i64 32,.int .i64 33,.int .i64 36,.int .i64 37,.int .i64 30,.int .i64 34,.int .i64 35]) (.int .i64 5)).run Tryz.prog W=.ok (.int .i64 37) W:=fun _=>by kernel_rfl
  have ix6:∀W,(Instr.index 173 (.agg #[.int .i64 28,.int .i64 31,.int .i64 32,.int .i64 33,.int .i64 36,.int .i64 37,.int .i64 30,.int .i64 34,.int .i64 35]) (.int .i64 6)).run Tryz.prog W=.ok (.int .i64 30) W:=fun _=>by kernel_rfl
  have ix7:∀W,(Instr.index 173 (.agg #[.int .i64 28,.int .i64 31,.int .i64 32,.int .i64 33,.int .i64 36,.int .i64 37,.int .i64 30,.int .i64 34,.int .i64 35]) (.int .i64 7)).run Tryz.prog W=.ok (.int .i64 34) W:=fun _=>by kernel_rfl
  have ix8:∀W,(Instr.index 173 (.agg #[.int .i64 28,.int .i64 31,.int .i64 32,.int .i64 33,.int .i64 36,.int .i64 37,.int .i64 30,.int .i64 34,.int .i64 35]) (.int .i64 8)).run Tryz.prog W=.ok (.int .i64 35) W:=fun _=>by kernel_rfl
  have ho:op=19∨op=20∨op=21∨op=22∨op=23∨op=24∨op=25∨op=26∨op=27:=om
  rcases ho with rfl|rfl|rfl|rfl|rfl|rfl|rfl|rfl|rfl
  all_goals
    go_enter Tryz.func75,Tryz.ntmps75
    go_wp2_with fail
    go_ret
    exact⟨rfl,rfl⟩
theorem do_alu(h:qP cp hb ho vm 43 w d)(wf:d.Wf)(hlen:d.out.length<1099511627776)(op:Int)(kd k1 k2:Nat)(imm:Int)(hop:28≤op∧op≤45)(hd:kd<32)(h1:k1<32)(h2:k2<32)(hi: -2147483648≤imm∧imm≤2147483647):
    Calls Tryz.prog 45 #[.pointer (some ⟨cp,0,none⟩),.agg #[.int .i64 op,.int .i64 kd,.int .i64 k1,.int .i64 k2,.int .i32 imm]] w fun e w'=>e=.returned (.tuple #[])∧qP cp hb ho vm 43 w' (doS ⟨op,kd,k1,k2,imm⟩ d)∧Cgo cp hb ho vm 43 w w':=by
  obtain⟨o0,o1⟩:=hop
  have f1:(op==1)=false:=sH.2 om
  have f2:(op==2)=false:=sH.2 om
  have f3:(op==3)=false:=sH.2 om
  have f4:(op==4)=false:=sH.2 om
  obtain⟨i0,i1⟩:=hi
  obtain⟨xa,hxa⟩:∃x,x=d.h.regs.getD k1 0:=⟨_,rfl⟩
  obtain⟨xb,hxb⟩:∃x,x=d.h.regs.getD k2 0:=⟨_,rfl⟩
  obtain⟨xn,hxn⟩:∃x,x=imm%4294967296:=⟨_,rfl⟩
  obtain⟨pc,hpc⟩:∃x,x=d.h.pc:=⟨_,rfl⟩
  have era:d.h.reg (k1:Int)=xa:=zX
  have erb:d.h.reg (k2:Int)=xb:=zW
  have ua:U32 xa:=zZ
  have ub:U32 xb:=zY
  have un:U32 xn:=zO
  have up:U32 pc:=yG
  have e:doS ⟨op,kd,k1,k2,imm⟩ d=(d.set kd (alu op xa xb)).setPc ((pc+4)%4294967296):=by
    unfold doS
    dsimp only
    rw[era,erb,←hxn,←hpc]
    rw[if_neg om,if_neg om,if_neg om,if_neg om,if_neg om,if_neg om,if_neg om,if_neg om,if_pos om]
  rw[e]
  clear e
  have HAl:=lI (fun W=>alu_any op xa xb W ua.1 ua.2 ub.1 ub.2)
  have HALU:=lI (alu_lo op xa xb ua ub)
  generalize alu op xa xb=xl at *
  have hne:=h.hbl
  have HA:=lI ua
  have HB:=lI ub
  have HN:=lI un
  have HU:=lI up
  obtain⟨w1,hw1⟩:∃w1,w1=w.alloc (.cells #[.int .i64 op,.int .i64 kd,.int .i64 k1,.int .i64 k2,.int .i32 imm] 82):=⟨_,rfl⟩
  have H1:Hid (qP cp hb ho vm 43 w1 d):=lI zN
  have G1:Hid (Cgo cp hb ho vm 43 w w1):=lI zJ
  have hbx:cp<w.heap.size:=h.lt
  have HX:Hid (w1.heap[w.heap.size]? =some (.cells #[.int .i64 op,.int .i64 kd,.int .i64 k1,.int .i64 k2,.int .i32 imm] 82 (0,0))):=lI zI
  have q0:(w1).cell? ⟨w.heap.size,0,none⟩=some (.int .i64 op):=zA
  have q1:(w1).cell? ⟨w.heap.size,1,none⟩=some (.int .i64 kd):=zA
  have q2:(w1).cell? ⟨w.heap.size,2,none⟩=some (.int .i64 k1):=zA
  have q3:(w1).cell? ⟨w.heap.size,3,none⟩=some (.int .i64 k2):=zA
  have q4:(w1).cell? ⟨w.heap.size,4,none⟩=some (.int .i32 imm):=zA
  have HW1:=lI hw1
  clear hw1 h
  have hp:=H1.out.ptr
  have hca:=H1.out.hart.get (qV wf.h k1 h1)
  have hcb:=H1.out.hart.get (qV wf.h k2 h2)
  have hc32:=H1.out.hart.get (qe wf.h)
  rw[←hxa]at hca
  rw[←hxb]at hcb
  rw[←hpc]at hc32
  have HPC:=lI hpc
  have HIM:=lI hxn
  clear hxa hxb era erb hpc ua ub un up hxn
  obtain⟨b1,b2⟩:=HU.out
  have j1:(k1:Int)<32:=om
  have j2:(k2:Int)<32:=om
  go_enter Tryz.func45,Tryz.ntmps45
  go_upto_region 1 with(fail)
  rw[←HW1.out]
  go_quiet (fail)
  rw[←HIM.out]
  clear hca hcb
  have KP:Hid (∀wx w2,wx.heap=w1.heap→Cgo cp hb ho vm 43 wx w2→w2.cell? ⟨w.heap.size,1,none⟩=some (.int .i64 kd)):=lI (fun wx w2 eh hg=>
    have hsz:wx.heap.size=w1.heap.size:=by rw[eh]
    (World.cell?_of_block (w:=w1) ((hg.block w.heap.size (by have:=qH q1;rw[hsz];exact this) (by have:=H1.out.hbl;omega) (fun e=>by have:=H1.out.vm_lt e;omega) (.inr ⟨hbx,fun cs fr e=>by rw[eh,HX.out]at e;injection e with e;injection e with e1 e2;exact absurd e2 zL⟩)).trans (by rw[eh]))).trans q1)
  have PK:Hid (∀r x w2,qP cp hb ho vm 43 w2 (d.set r x)→U32 x→w2.cell? ⟨hb,ho+32,none⟩=some (.int .u32 pc)):=lI (fun r x w2 hc ux=>by
    have:=hc.hart.get (qe (wf.set r x ux).h)
    rw[this,HPC.out]
    unfold qD.set Hart.setReg
    split<;>rfl)
  go_upto_region 28 with(fail)
  go_region_held3 (fun w'=>w'.cell? ⟨w.heap.size,1,none⟩=some (.int .i64 kd)∧w'.cell? ⟨cp,0,none⟩=some (.pointer (some ⟨hb,ho,none⟩))∧w'.cell? ⟨hb,ho+32,none⟩=some (.int .u32 pc))
    (first|exact⟨q1,hp,hc32⟩|exact⟨p1,p2,p3⟩)
    ((first|(go_at_call 74;refine(HAl.out _).mono ?_;rintro e w2 ⟨rfl,nn,rfl⟩)|(go_at_call 71;(try rw[IntKind.wrap_u32]);refine(uN (H1.out.below (by repeat(first|exact Below.refl _ _|refine qC ?_ _|refine Below.drew ?_))) wf.h kd hd _).mono ?_;rintro e w2 ⟨rfl,hc,hg⟩;have p1:=KP.out _ w2 zP hg;have p2:=hc.ptr;have p3:=PK.out _ _ w2 hc (HALU.out))))
  have HG:Hid (Cgo cp hb ho vm 43 w w2):=lI ((G1.out.drewN _).trans hg)
  have wf2:=(wf.set kd _ (HALU.out)).h
  clear hg q0 q1 q2 q3 q4 p1 p2 p3
  clear hp hc32
  have hp:=hc.ptr
  have h32:=hc.hart.get (qe wf2)
  have f32:=hc.hfz (ho+32)
  have HC:=lI hc
  clear hc
  go_wp2_with fail
  go_end0
  exact⟨rfl,HC.out.setHart 32 _ _ (qh wf2.len _) yS,HG.out.trans (Cgo.setHart _ 32 om _)⟩
theorem do_alun(h:qP cp hb ho vm 43 w d)(wf:d.Wf)(hlen:d.out.length<1099511627776)(op:Int)(kd k1 k2:Nat)(imm:Int)(hop:19≤op∧op≤27)(hd:kd<32)(h1:k1<32)(h2:k2<32)(hi: -2147483648≤imm∧imm≤2147483647):
    Calls Tryz.prog 45 #[.pointer (some ⟨cp,0,none⟩),.agg #[.int .i64 op,.int .i64 kd,.int .i64 k1,.int .i64 k2,.int .i32 imm]] w fun e w'=>e=.returned (.tuple #[])∧qP cp hb ho vm 43 w' (doS ⟨op,kd,k1,k2,imm⟩ d)∧Cgo cp hb ho vm 43 w w':=by
  obtain⟨o0,o1⟩:=hop
  have f1:(op==1)=false:=sH.2 om
  have f2:(op==2)=false:=sH.2 om
  have f3:(op==3)=false:=sH.2 om
  have f4:(op==4)=false:=sH.2 om
  obtain⟨i0,i1⟩:=hi
  obtain⟨xa,hxa⟩:∃x,x=d.h.regs.getD k1 0:=⟨_,rfl⟩
  obtain⟨xb,hxb⟩:∃x,x=d.h.regs.getD k2 0:=⟨_,rfl⟩
  obtain⟨xn,hxn⟩:∃x,x=imm%4294967296:=⟨_,rfl⟩
  obtain⟨pc,hpc⟩:∃x,x=d.h.pc:=⟨_,rfl⟩
  have era:d.h.reg (k1:Int)=xa:=zX
  have erb:d.h.reg (k2:Int)=xb:=zW
  have ua:U32 xa:=zZ
  have ub:U32 xb:=zY
  have un:U32 xn:=zO
  have up:U32 pc:=yG
  have e:doS ⟨op,kd,k1,k2,imm⟩ d=(d.set kd (alu (immOp op) xa xn)).setPc ((pc+4)%4294967296):=by
    unfold doS
    dsimp only
    rw[era,erb,←hxn,←hpc]
    rw[if_neg om,if_neg om,if_neg om,if_neg om,if_neg om,if_neg om,if_neg om,if_pos om]
  rw[e]
  clear e
  have HAl:=lI (fun W=>alu_any (immOp op) xa xn W ua.1 ua.2 un.1 un.2)
  have HALU:=lI (alu_lo (immOp op) xa xn ua un)
  generalize alu (immOp op) xa xn=xl at *
  have hne:=h.hbl
  have HA:=lI ua
  have HB:=lI ub
  have HN:=lI un
  have HU:=lI up
  obtain⟨w1,hw1⟩:∃w1,w1=w.alloc (.cells #[.int .i64 op,.int .i64 kd,.int .i64 k1,.int .i64 k2,.int .i32 imm] 82):=⟨_,rfl⟩
  have H1:Hid (qP cp hb ho vm 43 w1 d):=lI zN
  have G1:Hid (Cgo cp hb ho vm 43 w w1):=lI zJ
  have hbx:cp<w.heap.size:=h.lt
  have HX:Hid (w1.heap[w.heap.size]? =some (.cells #[.int .i64 op,.int .i64 kd,.int .i64 k1,.int .i64 k2,.int .i32 imm] 82 (0,0))):=lI zI
  have q0:(w1).cell? ⟨w.heap.size,0,none⟩=some (.int .i64 op):=zA
  have q1:(w1).cell? ⟨w.heap.size,1,none⟩=some (.int .i64 kd):=zA
  have q2:(w1).cell? ⟨w.heap.size,2,none⟩=some (.int .i64 k1):=zA
  have q3:(w1).cell? ⟨w.heap.size,3,none⟩=some (.int .i64 k2):=zA
  have q4:(w1).cell? ⟨w.heap.size,4,none⟩=some (.int .i32 imm):=zA
  have HW1:=lI hw1
  clear hw1 h
  have hp:=H1.out.ptr
  have hca:=H1.out.hart.get (qV wf.h k1 h1)
  have hcb:=H1.out.hart.get (qV wf.h k2 h2)
  have hc32:=H1.out.hart.get (qe wf.h)
  rw[←hxa]at hca
  rw[←hxb]at hcb
  rw[←hpc]at hc32
  have HPC:=lI hpc
  have HIM:=lI hxn
  clear hxa hxb era erb hpc ua ub un up hxn
  obtain⟨b1,b2⟩:=HU.out
  have j1:(k1:Int)<32:=om
  have j2:(k2:Int)<32:=om
  go_enter Tryz.func45,Tryz.ntmps45
  go_upto_region 1 with(fail)
  rw[←HW1.out]
  go_quiet (fail)
  rw[←HIM.out]
  clear hca hcb
  have KP:Hid (∀wx w2,wx.heap=w1.heap→Cgo cp hb ho vm 43 wx w2→w2.cell? ⟨w.heap.size,1,none⟩=some (.int .i64 kd)):=lI (fun wx w2 eh hg=>
    have hsz:wx.heap.size=w1.heap.size:=by rw[eh]
    (World.cell?_of_block (w:=w1) ((hg.block w.heap.size (by have:=qH q1;rw[hsz];exact this) (by have:=H1.out.hbl;omega) (fun e=>by have:=H1.out.vm_lt e;omega) (.inr ⟨hbx,fun cs fr e=>by rw[eh,HX.out]at e;injection e with e;injection e with e1 e2;exact absurd e2 zL⟩)).trans (by rw[eh]))).trans q1)
  have PK:Hid (∀r x w2,qP cp hb ho vm 43 w2 (d.set r x)→U32 x→w2.cell? ⟨hb,ho+32,none⟩=some (.int .u32 pc)):=lI (fun r x w2 hc ux=>by
    have:=hc.hart.get (qe (wf.set r x ux).h)
    rw[this,HPC.out]
    unfold qD.set Hart.setReg
    split<;>rfl)
  go_upto_region 26 with(fail)
  go_region_held3 (fun w'=>w'.cell? ⟨w.heap.size,1,none⟩=some (.int .i64 kd)∧w'.cell? ⟨cp,0,none⟩=some (.pointer (some ⟨hb,ho,none⟩))∧w'.cell? ⟨hb,ho+32,none⟩=some (.int .u32 pc))
    (first|exact⟨q1,hp,hc32⟩|exact⟨p1,p2,p3⟩)
    ((first|(go_at_call 74;refine(HAl.out _).mono ?_;rintro e w2 ⟨rfl,nn,rfl⟩)|(go_at_call 75;refine(imm_any op _ ⟨o0,o1⟩).mono ?_;rintro e w2 ⟨rfl,rfl⟩)|(go_at_call 71;(try rw[IntKind.wrap_u32]);refine(uN (H1.out.below (by repeat(first|exact Below.refl _ _|refine qC ?_ _|refine Below.drew ?_))) wf.h kd hd _).mono ?_;rintro e w2 ⟨rfl,hc,hg⟩;have p1:=KP.out _ w2 zP hg;have p2:=hc.ptr;have p3:=PK.out _ _ w2 hc (HALU.out))))
  have HG:Hid (Cgo cp hb ho vm 43 w w2):=lI ((G1.out.drewN _).trans hg)
  have wf2:=(wf.set kd _ (HALU.out)).h
  clear hg q0 q1 q2 q3 q4 p1 p2 p3
  clear hp hc32
  have hp:=hc.ptr
  have h32:=hc.hart.get (qe wf2)
  have f32:=hc.hfz (ho+32)
  have HC:=lI hc
  clear hc
  go_wp2_with fail
  go_end0
  exact⟨rfl,HC.out.setHart 32 _ _ (qh wf2.len _) yS,HG.out.trans (Cgo.setHart _ 32 om _)⟩
end
section
variable {cp hb ho : Nat} {vm : Value} {d : qD} {w : World}
theorem do_any(h:qP cp hb ho vm 43 w d)(wf:d.Wf)(hlen:d.out.length<1099511627776)(i:InsD)(hop:1≤i.op∧i.op≤59)(hr:0≤i.rd∧i.rd≤31)(h1:0≤i.rs1∧i.rs1≤31)(h2:0≤i.rs2∧i.rs2≤31)(hi:I32 i.imm):
    Calls Tryz.prog 45 #[.pointer (some ⟨cp,0,none⟩),.agg (ql i)] w fun e w'=>e=.returned (.tuple #[])∧qP cp hb ho vm 43 w' (doS i d)∧Cgo cp hb ho vm 43 w w':=by
  obtain⟨op,rd,rs1,rs2,imm⟩:=i
  obtain⟨kd,rfl⟩:=sS hr.1
  obtain⟨k1,rfl⟩:=sS h1.1
  obtain⟨k2,rfl⟩:=sS h2.1
  have g0:kd<32:=by have:=hr.2;simp only at this;omega
  have g1:k1<32:=by have:=h1.2;simp only at this;omega
  have g2:k2<32:=by have:=h2.2;simp only at this;omega
  unfold I32 at hi
  have hc:op=1∨op=2∨op=3∨op=4∨(5≤op∧op≤10)∨(11≤op∧op≤15)∨(16≤op∧op≤18)∨(19≤op∧op≤27)∨(28≤op∧op≤45)∨(46≤op∧op≤56)∨op=57∨op=58∨op=59:=by obtain⟨x,y⟩:=hop;simp only at x y;omega
  rcases hc with rfl|rfl|rfl|rfl|hc|hc|hc|hc|hc|hc|rfl|rfl|rfl
  · exact do_lui h wf hlen kd k1 k2 imm g0 g1 g2 hi
  · exact do_auipc h wf hlen kd k1 k2 imm g0 g1 g2 hi
  · exact do_jal h wf hlen kd k1 k2 imm g0 g1 g2 hi
  · exact do_jalr h wf hlen kd k1 k2 imm g0 g1 g2 hi
  · cases hq:holds op (d.h.reg k1) (d.h.reg k2)with
    |true=>exact do_branch_true h wf hlen op kd k1 k2 imm hc g0 g1 g2 hq hi
    |false=>exact do_branch_false h wf hlen op kd k1 k2 imm hc g0 g1 g2 hq hi
  · cases hq:qN d.m op ((d.h.reg k1+imm%4294967296)%4294967296)with
    |true=>exact do_load_yes h wf hlen op kd k1 k2 imm hc g0 g1 g2 hq hi
    |false=>exact do_load_no h wf hlen op kd k1 k2 imm hc g0 g1 g2 hq hi
  · cases hq:qU d.m op ((d.h.reg k1+imm%4294967296)%4294967296)with
    |true=>exact do_store_yes h wf hlen op kd k1 k2 imm hc g0 g1 g2 hq hi
    |false=>exact do_store_no h wf hlen op kd k1 k2 imm hc g0 g1 g2 hq hi
  · exact do_alun h wf hlen op kd k1 k2 imm hc g0 g1 g2 hi
  · exact do_alu h wf hlen op kd k1 k2 imm hc g0 g1 g2 hi
  · cases hq:(qY d op (d.h.reg k1) (d.h.reg k2)).2.2 with
    |true=>exact do_atom_yes h wf hlen op kd k1 k2 imm hc g0 g1 g2 hq hi
    |false=>exact do_atom_no h wf hlen op kd k1 k2 imm hc g0 g1 g2 hq hi
  · exact do_fence h wf hlen kd k1 k2 imm g0 g1 g2 hi
  · cases hq:(qz d).2 with
    |true=>exact do_call_yes h wf hlen kd k1 k2 imm g0 g1 g2 hq hi
    |false=>exact do_call_no h wf hlen kd k1 k2 imm g0 g1 g2 hq hi
  · exact do_break h wf hlen kd k1 k2 imm g0 g1 g2 hi
end
end Go.Proofs.YtlfnddmncbkjaacGreat.W
namespace Go.Proofs.YtlfnddmncbkjaacGreat.Fb
theorem fetchS_ins(l:List Int)(pc:Int)(h:(qm l pc).2=0):isS (qm l pc).1=true∧I32 (qm l pc).1.imm:=by
  unfold qm at h ⊢
  split
  · rename_i hok
    rw[if_pos hok]at h
    cases hd:dec (qa l 13 pc)with
    |none=>rw[hd]at h;simp at h
    |some i=>exact dec_is _ _ hd
  · rename_i hok
    rw[if_neg hok]at h
    simp at h
theorem isS_b{i:InsD}(h:isS i=true):(1≤i.op∧i.op≤59)∧(0≤i.rd∧i.rd≤31)∧(0≤i.rs1∧i.rs1≤31)∧(0≤i.rs2∧i.rs2≤31):=by
  have h2:=isS_known h
  unfold QI regsOk at h2
  simp only[Bool.and_eq_true,decide_eq_true_eq]at h2
  omega
end Go.Proofs.YtlfnddmncbkjaacGreat.Fb
namespace Go.Proofs.YtlfnddmncbkjaacGreat.W
open Go.RowKit Fb
section
variable {cp hb ho : Nat} {vm : Value} {d : qD} {w : World}
theorem go_any(h:qP cp hb ho vm 43 w d)(wf:d.Wf)(hlen:d.out.length<1099511627776):
    Calls Tryz.prog 25 #[.pointer (some ⟨cp,0,none⟩)] w fun e w'=>e=.returned (.tuple #[])∧qP cp hb ho vm 43 w' (goS d)∧Cgo cp hb ho vm 43 w w':=by
  have hne:=h.hbl
  have hfr:=h.fr
  have htw:=h.tw
  have f3:=h.frz 3
  have f4:=h.frz 4
  have H1:Hid (qP cp hb ho vm 43 ((w.setCell ⟨cp,3,none⟩ (.int .u32 0)).setCell ⟨cp,4,none⟩ (.int .u32 0)) d.none):=lI ((h.setFr 0).setTo 0)
  have G1:Hid (Cgo cp hb ho vm 43 w ((w.setCell ⟨cp,3,none⟩ (.int .u32 0)).setCell ⟨cp,4,none⟩ (.int .u32 0))):=lI ((Cgo.setCore w hne 3 _).trans (Cgo.setCore _ hne 4 _))
  have wf0:=wf.none
  have hgo:goS d=if(qm d.m d.h.pc).2=0 then doS (qm d.m d.h.pc).1 d.none else d.none.trap (qm d.m d.h.pc).2:=rfl
  rw[hgo]
  have HI:=lI (fetchS_ins d.m d.h.pc)
  have HFE:=lI (fun W hW=>fetch_any vm d.m d.h.pc W hW wf.h.pc wf.m.getD)
  clear hgo h
  generalize (qm d.m d.h.pc).2=code at *
  generalize (qm d.m d.h.pc).1=ii at *
  obtain⟨dd,hdd⟩:∃x,x=(if code=0 then doS ii d.none else d.none.trap code):=⟨_,rfl⟩
  rw[←hdd]
  have HD:=lI hdd
  clear hdd
  go_enter Tryz.func25,Tryz.ntmps25
  go_upto_region 1 with(fail)
  clear hfr htw f3 f4
  generalize (w.setCell ⟨cp,3,none⟩ (.int .u32 0)).setCell ⟨cp,4,none⟩ (.int .u32 0)=w1 at *
  have hp:=H1.out.ptr
  have hm:=H1.out.mem
  have hc32:w1.cell? ⟨hb,ho+32,none⟩=some (.int .u32 d.h.pc):=H1.out.hart.get (qe wf.h)
  have l1:=H1.out.lt
  have l2:=H1.out.hlt
  obtain⟨q1,q2,q3,q4,q5⟩:=ii
  simp only[ql]at HFE
  have KP:Hid (∀w',Below w1.heap.size w1 w'→Below w1.heap.size w1 w'∧w'.cell? ⟨cp,0,none⟩=some (.pointer (some ⟨hb,ho,none⟩))∧w'.cell? ⟨cp,1,none⟩=some vm∧w'.cell? ⟨hb,ho+32,none⟩=some (.int .u32 d.h.pc)):=
    lI (fun w' h=>⟨h,(h.cell (p:=⟨cp,0,none⟩) l1).trans hp,(h.cell (p:=⟨cp,1,none⟩) l1).trans hm,(h.cell (p:=⟨hb,ho+32,none⟩) l2).trans hc32⟩)
  go_region_held3 (fun w'=>Below w1.heap.size w1 w'∧w'.cell? ⟨cp,0,none⟩=some (.pointer (some ⟨hb,ho,none⟩))∧w'.cell? ⟨cp,1,none⟩=some vm∧w'.cell? ⟨hb,ho+32,none⟩=some (.int .u32 d.h.pc))
    ((refine KP.out _ ?_;(repeat(first|with_reducible exact Below.refl _ _|with_reducible exact hK|with_reducible refine qC ?_ _|with_reducible refine Below.drew ?_|((with_reducible refine Below.setCell ?_ ?hq _);(case hq=>(first|(simp;done)|(simp;omega))))|((with_reducible refine Below.alloc ?_ ?hq _);(case hq=>(first|(simp;done)|(simp;omega)|exact hK.size)))))))
    ((go_at_call 43;refine(HFE.out _ (H1.out.bytes.below ?hB)).mono ?_;(case hB=>(repeat(first|with_reducible exact Below.refl _ _|with_reducible exact hK|with_reducible refine qC ?_ _|with_reducible refine Below.drew ?_|((with_reducible refine Below.setCell ?_ ?hq _);(case hq=>(first|(simp;done)|(simp;omega))))|((with_reducible refine Below.alloc ?_ ?hq _);(case hq=>(first|(simp;done)|(simp;omega)|exact hK.size))))));rintro e w2 ⟨rfl,hb2⟩;have hK:Below w1.heap.size w1 w2:=(Below.trans (by(repeat(first|with_reducible exact Below.refl _ _|with_reducible exact hK|with_reducible refine qC ?_ _|with_reducible refine Below.drew ?_|((with_reducible refine Below.setCell ?_ ?hq _);(case hq=>(first|(simp;done)|(simp;omega))))|((with_reducible refine Below.alloc ?_ ?hq _);(case hq=>(first|(simp;done)|(simp;omega)|exact hK.size)))))) (hb2.mono (by first|(simp;done)|(simp;omega))));(try have hx:w2.heap[w1.heap.size]? =some (.cells #[.int .i64 0,.int .i64 0,.int .i64 0,.int .i64 0,.int .i32 0] 82 (0,0)):=(hb2.block w1.heap.size zG).trans (sQ w1 _));(try have x0:w2.cell? ⟨w1.heap.size,0,none⟩=some (.int .i64 0):=qS hx rfl);(try have x1:w2.cell? ⟨w1.heap.size,1,none⟩=some (.int .i64 0):=qS hx rfl);(try have x2:w2.cell? ⟨w1.heap.size,2,none⟩=some (.int .i64 0):=qS hx rfl);(try have x3:w2.cell? ⟨w1.heap.size,3,none⟩=some (.int .i64 0):=qS hx rfl);(try have x4:w2.cell? ⟨w1.heap.size,4,none⟩=some (.int .i32 0):=qS hx rfl);(try have xf:=JY hx)))
  all_goals
    by_cases hcode:code=0
    · obtain⟨hs,hi32⟩:=HI.out hcode
      obtain⟨s1,s2,s3,s4⟩:=isS_b hs
      subst hcode
      clear HI hs
      go_wp2_with fail
      refine(do_any (H1.out.below ?hKK) wf0 hlen ⟨q1,q2,q3,q4,q5⟩ s1 s2 s3 s4 hi32).mono ?_
      case hKK=>(repeat(first|with_reducible exact Below.refl _ _|with_reducible exact hK|with_reducible refine qC ?_ _|with_reducible refine Below.drew ?_|((with_reducible refine Below.setCell ?_ ?hq _);(case hq=>(first|(simp;done)|(simp;omega))))|((with_reducible refine Below.alloc ?_ ?hq _);(case hq=>(first|(simp;done)|(simp;omega)|exact hK.size)))))
      rintro e w3 ⟨rfl,hc,hg⟩
      go_wp2_with fail
      go_end0
      refine⟨rfl,by rw[HD.out];first|(rw[if_pos rfl];exact hc)|(rw[if_pos trivial];exact hc),(G1.out.trans (Cgo.of_below ?_ l2)).trans hg⟩
      (repeat(first|with_reducible exact Below.refl _ _|with_reducible exact hK|with_reducible refine qC ?_ _|with_reducible refine Below.drew ?_|((with_reducible refine Below.setCell ?_ ?hq _);(case hq=>(first|(simp;done)|(simp;omega))))|((with_reducible refine Below.alloc ?_ ?hq _);(case hq=>(first|(simp;done)|(simp;omega)|exact hK.size)))))
    · go_wp2_with fail
      refine(uC (H1.out.below ?hKK) wf0.h code).mono ?_
      case hKK=>(repeat(first|with_reducible exact Below.refl _ _|with_reducible exact hK|with_reducible refine qC ?_ _|with_reducible refine Below.drew ?_|((with_reducible refine Below.setCell ?_ ?hq _);(case hq=>(first|(simp;done)|(simp;omega))))|((with_reducible refine Below.alloc ?_ ?hq _);(case hq=>(first|(simp;done)|(simp;omega)|exact hK.size)))))
      rintro e w3 ⟨rfl,hc,hg⟩
      go_wp2_with fail
      refine sP (results_none zP _ _ _) rfl ⟨rfl,by rw[HD.out,if_neg hcode];exact hc,(G1.out.trans (Cgo.of_below ?_ l2)).trans hg⟩
      (repeat(first|with_reducible exact Below.refl _ _|with_reducible exact hK|with_reducible refine qC ?_ _|with_reducible refine Below.drew ?_|((with_reducible refine Below.setCell ?_ ?hq _);(case hq=>(first|(simp;done)|(simp;omega))))|((with_reducible refine Below.alloc ?_ ?hq _);(case hq=>(first|(simp;done)|(simp;omega)|exact hK.size)))))
end
end Go.Proofs.YtlfnddmncbkjaacGreat.W
