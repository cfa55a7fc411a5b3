import Derived.Test.YtlfnddmncbkjaabGreatDoorZGK
set_option linter.unusedVariables false
set_option linter.unusedSimpArgs false
set_option maxRecDepth 100000
set_option maxHeartbeats 4000000
namespace Go.Proofs.YtlfnddmncbkjaabGreatDoor.W
open Go.RowKit Fb
section
variable {cp hb ho : Nat} {vm : Value} {d : qF} {w : World}
theorem imm_any(op:Int)(w:World)(hop:19≤op∧op≤27):Calls Tryz.prog 118 #[.int .i64 op] w fun e w'=>e=.returned (.int .i64 (immOp op))∧w=w':=by
  have ix0:∀W,(Instr.index 237 (.agg #[.int .i64 28,.int .i64 31,.int .i64 32,.int .i64 33,.int .i64 36,.int .i64 37,.int .i64 30,.int .i64 34,.int .i64 35]) (.int .i64 0)).run Tryz.prog W=.ok (.int .i64 28) W:=fun _=>by kernel_rfl
  have ix1:∀W,(Instr.index 237 (.agg #[.int .i64 28,.int .i64 31,.int .i64 32,.int .i64 33,.int .i64 36,.int .i64 37,.int .i64 30,.int .i64 34,.int .i64 35]) (.int .i64 1)).run Tryz.prog W=.ok (.int .i64 31) W:=fun _=>by kernel_rfl
  have ix2:∀W,(Instr.index 237 (.agg #[.int .i64 28,.int .i64 31,.int .i64 32,.int .i64 33,.int .i64 36,.int .i64 37,.int .i64 30,.int .i64 34,.int .i64 35]) (.int .i64 2)).run Tryz.prog W=.ok (.int .i64 32) W:=fun _=>by kernel_rfl
  have ix3:∀W,(Instr.index 237 (.agg #[.int .i64 28,.int .i64 31,.int .i64 32,.int .i64 33,.int .i64 36,.int .i64 37,.int .i64 30,.int .i64 34,.int .i64 35]) (.int .i64 3)).run Tryz.prog W=.ok (.int .i64 33) W:=fun _=>by kernel_rfl
  have ix4:∀W,(Instr.index 237 (.agg #[.int .i64 28,.int .i64 31,.int .i64 32,.int .i64 33,.int .i64 36,.int .i64 37,.int .i64 30,.int .i64 34,.int .i64 35]) (.int .i64 4)).run Tryz.prog W=.ok (.int .i64 36) W:=fun _=>by kernel_rfl
  have ix5:∀W,(Instr.index 237 (.agg #[.int .i64 28,.int .i64 31,.int .i64 32,.int .i64 33,.int .i64 36,.int .i64 37,.int .i64 30,.int .i64 34,.int .i64 35]) (.int .i64 5)).run Tryz.prog W=.ok (.int .i64 37) W:=fun _=>by kernel_rfl
  have ix6:∀W,(Instr.index 237 (.agg #[.int .i64 28,.int .i64 31,.int .i64 32,.int .i64 33,.int .i64 36,.int .i64 37,.int .i64 30,.int .i64 34,.int .i64 35]) (.int .i64 6)).run Tryz.prog W=.ok (.int .i64 30) W:=fun _=>by kernel_rfl
  have ix7:∀W,(Instr.index 237 (.agg #[.int .i64 28,.int .i64 31,.int .i64 32,.int .i64 33,.int .i64 36,.int .i64 37,.int .i64 30,.int .i64 34,.int .i64 35]) (.int .i64 7)).run Tryz.prog W=.ok (.int .i64 34) W:=fun _=>by kernel_rfl
  have ix8:∀W,(Instr.index 237 (.agg #[.int .i64 28,.int .i64 31,.int .i64 32,.int .i64 33,.int .i64 36,.int .i64 37,.int .i64 30,.int .i64 34,.int .i64 35]) (.int .i64 8)).run Tryz.prog W=.ok (.int .i64 35) W:=fun _=>by kernel_rfl
  have ho:op=19∨op=20∨op=21∨op=22∨op=23∨op=24∨op=25∨op=26∨op=27:=om
  rcases ho with rfl|rfl|rfl|rfl|rfl|rfl|rfl|rfl|rfl
  all_goals
    go_enter Tryz.func118,Tryz.ntmps118
    go_wp2_with fail
    go_ret
    exact⟨rfl,rfl⟩
theorem cj{p:Prop}(h:p:=by
 clear hp hc32
 have hp:=hc.ptr
 have h32:=hc.hart.get (QM wf2)
 have f32:=hc.hfz (ho+32)
 have HC:=lI hc
 clear hc
 go_wp2_with fail
 go_end0
 exact⟨rfl,HC.out.setHart 32 _ _ (QG wf2.len _) yG,HG.out.trans (Cgo.setHart _ 32 om _)⟩):p:=h
theorem ck{p:Prop}(h:p:=by
 have f1:(op==1)=false:=sH.2 om
 have f2:(op==2)=false:=sH.2 om
 have f3:(op==3)=false:=sH.2 om
 have f4:(op==4)=false:=sH.2 om
 repeat first|rw[if_pos om]|rw[if_neg om]|rw[if_pos hq]|rw[if_neg xD]
 have HH:=lI (fun W=>holds_any op xa xb W HA.out.1 HA.out.2 HB.out.1 HB.out.2)
 rw[hq]at HH
 go_enter Tryz.func86,Tryz.ntmps86
 go_upto_region 1 with(fail)
 rw[←HW1.out]
 go_quiet (fail)
 rw[←HIM.out]
 clear hca hcb
 obtain⟨n0,n1⟩:=HN.out
 go_upto_region 15 with(fail)
 go_upto_region 37 with(go_at_call 115;refine(HH.out _).mono ?_;rintro e w2 ⟨rfl,rfl⟩)
 have h32:=hc32
 have f32:=H1.out.hfz (ho+32)
 clear q0 q1 q2 q3 q4 hc32
 go_wp2_with fail
 go_end0
 exact⟨rfl,(H1.out.drewN _).setHart 32 _ _ (QG wf.h.len _) yX,(G1.out.drewN _).trans (Cgo.setHart _ 32 om _)⟩):p:=h
theorem cn{p:Prop}(h:p:=by
 exact sO (results_none zK _ _ _) rfl ⟨rfl,hc,(G1.out.drewN _).trans hg⟩):p:=h
theorem cr{p:Prop}(h:p:=by
 have HG:Hid (Cgo cp hb ho vm 40 w w2):=lI ((G1.out.drewN _).trans hg)
 have wf2:=(wf.set kd _ (HALU.out)).h
 clear hg q0 q1 q2 q3 q4 p1 p2 p3
 exact cj):p:=h
theorem do_any(h:qX cp hb ho vm 40 w d)(wf:d.Wf)(hlen:d.out.length<1099511627776)(i:InsD)(hop:1≤i.op∧i.op≤59)(hr:0≤i.rd∧i.rd≤31)(h1:0≤i.rs1∧i.rs1≤31)(h2:0≤i.rs2∧i.rs2≤31)(hi:I32 i.imm):
    Calls Tryz.prog 86 #[.pointer (some ⟨cp,0,none⟩),.agg (qr i)] w fun e w'=>e=.returned (.tuple #[])∧qX cp hb ho vm 40 w' (doS i d)∧Cgo cp hb ho vm 40 w w':=by
  obtain⟨op,rd,rs1,rs2,imm⟩:=i
  obtain⟨kd,rfl⟩:=sQ hr.1
  obtain⟨k1,rfl⟩:=sQ h1.1
  obtain⟨k2,rfl⟩:=sQ h2.1
  replace hd:kd<32:=by have:=hr.2;simp only at this;omega
  replace h1:k1<32:=by have:=h1.2;simp only at this;omega
  replace h2:k2<32:=by have:=h2.2;simp only at this;omega
  clear hr
  obtain⟨i0,i1⟩:=hi
  simp only at i0 i1
  have hc:op=1∨op=2∨op=3∨op=4∨(5≤op∧op≤10)∨(11≤op∧op≤15)∨(16≤op∧op≤18)∨(19≤op∧op≤27)∨(28≤op∧op≤45)∨(46≤op∧op≤56)∨op=57∨op=58∨op=59:=by obtain⟨x,y⟩:=hop;simp only at x y;omega
  clear hop
  simp only[qr]
  obtain⟨xa,hxa⟩:∃x,x=d.h.regs.getD k1 0:=⟨_,rfl⟩
  obtain⟨xb,hxb⟩:∃x,x=d.h.regs.getD k2 0:=⟨_,rfl⟩
  obtain⟨xn,hxn⟩:∃x,x=imm%4294967296:=⟨_,rfl⟩
  obtain⟨pc,hpc⟩:∃x,x=d.h.pc:=⟨_,rfl⟩
  have era:d.h.reg (k1:Int)=xa:=by rw[hxa];rfl
  have erb:d.h.reg (k2:Int)=xb:=by rw[hxb];rfl
  have HA:Hid (U32 xa):=lI (by rw[←era];exact reg_u wf.h _)
  have HB:Hid (U32 xb):=lI (by rw[←erb];exact reg_u wf.h _)
  have HN:Hid (U32 xn):=lI (by rw[hxn];exact QE _)
  have HU:Hid (U32 pc):=lI (by rw[hpc];exact wf.h.pc)
  unfold doS
  dsimp only
  rw[era,erb,←hxn,←hpc]
  have hne:=h.hbl
  obtain⟨w1,hw1⟩:∃w1,w1=w.alloc (.cells #[.int .i64 op,.int .i64 kd,.int .i64 k1,.int .i64 k2,.int .i32 imm] 91):=⟨_,rfl⟩
  have H1:Hid (qX cp hb ho vm 40 w1 d):=lI (by rw[hw1];exact h.below (Below.alloc br (sN _) _))
  have G1:Hid (Cgo cp hb ho vm 40 w w1):=lI (by rw[hw1];exact Cgo.of_below (Below.alloc br (sN _) _) h.hlt)
  have hbx:cp<w.heap.size:=h.lt
  have HX:Hid (w1.heap[w.heap.size]? =some (.cells #[.int .i64 op,.int .i64 kd,.int .i64 k1,.int .i64 k2,.int .i32 imm] 91 (0,0))):=lI xJ
  have q0:(w1).cell? ⟨w.heap.size,0,none⟩=some (.int .i64 op):=zA
  have q1:(w1).cell? ⟨w.heap.size,1,none⟩=some (.int .i64 kd):=zA
  have q2:(w1).cell? ⟨w.heap.size,2,none⟩=some (.int .i64 k1):=zA
  have q3:(w1).cell? ⟨w.heap.size,3,none⟩=some (.int .i64 k2):=zA
  have q4:(w1).cell? ⟨w.heap.size,4,none⟩=some (.int .i32 imm):=zA
  have HW1:=lI hw1
  clear hw1 h
  have hp:=H1.out.ptr
  have hca:=H1.out.hart.get (JB wf.h k1 h1)
  have hcb:=H1.out.hart.get (JB wf.h k2 h2)
  have hc32:=H1.out.hart.get (QM wf.h)
  rw[←hxa]at hca
  rw[←hxb]at hcb
  rw[←hpc]at hc32
  have HPC:=lI hpc
  have HIM:=lI hxn
  clear hxa hxb era erb hpc hxn
  obtain⟨b1,b2⟩:=HU.out
  have j1:(k1:Int)<32:=om
  have j2:(k2:Int)<32:=om
  rcases hc with rfl|rfl|rfl|rfl|⟨o0,o1⟩|⟨o0,o1⟩|⟨o0,o1⟩|⟨o0,o1⟩|⟨o0,o1⟩|⟨o0,o1⟩|rfl|rfl|rfl
  · repeat first|rw[if_pos om]|rw[if_neg om]
    go_enter Tryz.func86,Tryz.ntmps86
    go_upto_region 1 with(fail)
    rw[←HW1.out]
    go_quiet (fail)
    rw[←HIM.out]
    clear hca hcb
    go_upto_region 37 with(go_at_call 114;refine(Jy (H1.out.drewN _) wf.h kd hd _).mono ?_;rintro e w2 ⟨rfl,hc,hg⟩)
    have HG:Hid (Cgo cp hb ho vm 40 w w2):=lI (((G1.out.drewN _)).trans hg)
    have wf2:=(wf.set kd xn HN.out).h
    clear hg q0 q1 q2 q3 q4
    exact cj
  · repeat first|rw[if_pos om]|rw[if_neg om]
    go_enter Tryz.func86,Tryz.ntmps86
    go_upto_region 1 with(fail)
    rw[←HW1.out]
    go_quiet (fail)
    rw[←HIM.out]
    clear hca hcb
    obtain⟨n0,n1⟩:=HN.out
    have KP:Hid (∀wx w2,wx.heap=w1.heap→Cgo cp hb ho vm 40 wx w2→w2.cell? ⟨w.heap.size,1,none⟩=some (.int .i64 kd)):=lI (fun wx w2 eh hg=>
      have hsz:wx.heap.size=w1.heap.size:=by rw[eh]
      (World.cell?_of_block (w:=w1) ((hg.block w.heap.size (by have:=qD q1;rw[hsz];exact this) (by have:=H1.out.hbl;omega) (fun e=>by have:=H1.out.vm_lt e;omega) (.inr ⟨hbx,fun cs fr e=>by rw[eh,HX.out]at e;injection e with e;injection e with e1 e2;exact absurd e2 zF⟩)).trans (by rw[eh]))).trans q1)
    have PK:Hid (∀r x w2,qX cp hb ho vm 40 w2 (d.set r x)→U32 x→w2.cell? ⟨hb,ho+32,none⟩=some (.int .u32 pc)):=lI (fun r x w2 hc ux=>by
      have:=hc.hart.get (QM (wf.set r x ux).h)
      rw[this,HPC.out]
      unfold qF.set Hart.setReg
      split<;>rfl)
    go_upto_region 7 with(fail)
    go_region_held3 (fun w'=>w'.cell? ⟨w.heap.size,1,none⟩=some (.int .i64 kd)∧w'.cell? ⟨cp,0,none⟩=some (.pointer (some ⟨hb,ho,none⟩))∧w'.cell? ⟨hb,ho+32,none⟩=some (.int .u32 pc))
      (first|exact⟨q1,hp,hc32⟩|exact⟨p1,p2,p3⟩)
      ((first|(go_at_call 114;(try rw[IntKind.wrap_u32]);refine(Jy (H1.out.below (by repeat(first|exact Below.refl _ _|refine qB ?_ _|refine Below.drew ?_))) wf.h kd hd _).mono ?_;rintro e w2 ⟨rfl,hc,hg⟩;have p1:=KP.out _ w2 zK hg;have p2:=hc.ptr;have p3:=PK.out _ _ w2 hc (QE _))))
    have HG:Hid (Cgo cp hb ho vm 40 w w2):=lI ((G1.out.drewN _).trans hg)
    have wf2:=(wf.set kd _ (QE ((pc+xn)))).h
    clear hg q0 q1 q2 q3 q4 p1 p2 p3
    exact cj
  · repeat first|rw[if_pos om]|rw[if_neg om]
    go_enter Tryz.func86,Tryz.ntmps86
    go_upto_region 1 with(fail)
    rw[←HW1.out]
    go_quiet (fail)
    rw[←HIM.out]
    clear hca hcb
    obtain⟨n0,n1⟩:=HN.out
    go_upto_region 10 with(go_at_call 114;refine(Jy (H1.out.drewN _) wf.h kd hd _).mono ?_;rintro e w2 ⟨rfl,hc,hg⟩)
    have HG:Hid (Cgo cp hb ho vm 40 w w2):=lI (((G1.out.drewN _)).trans hg)
    have wf2:=(wf.set kd ((pc+4)%4294967296) (QE _)).h
    clear hg q0 q1 q2 q3 q4
    clear hp hc32
    have hp:=hc.ptr
    have h32:=hc.hart.get (QM wf2)
    have ep:(d.set kd ((pc+4)%4294967296)).h.pc=pc:=by rw[HPC.out];unfold qF.set Hart.setReg;split<;>rfl
    rw[ep]at h32
    have f32:=hc.hfz (ho+32)
    have HC:=lI hc
    clear hc
    go_wp2_with fail
    go_end0
    exact⟨rfl,HC.out.setHart 32 _ _ (QG wf2.len _) yG,HG.out.trans (Cgo.setHart _ 32 om _)⟩
  · repeat first|rw[if_pos om]|rw[if_neg om]
    obtain⟨xt,hxt⟩:∃x,x=(xa+xn)%4294967296-(xa+xn)%4294967296%2:=⟨_,rfl⟩
    rw[←hxt]
    have HT:=lI hxt
    clear hxt
    go_enter Tryz.func86,Tryz.ntmps86
    go_upto_region 1 with(fail)
    rw[←HW1.out]
    go_quiet (fail)
    rw[←HIM.out]
    clear hca hcb
    obtain⟨n0,n1⟩:=HN.out
    obtain⟨a0,a1⟩:=HA.out
    have hand:bits .andNot .u32 ((xa+xn)%4294967296) 1=xt:=by rw[HT.out];exact andNot1 _ (QE _)
    go_upto_region 37 with(go_at_call 114;refine(Jy (H1.out.drewN _) wf.h kd hd _).mono ?_;rintro e w2 ⟨rfl,hc,hg⟩)
    have HG:Hid (Cgo cp hb ho vm 40 w w2):=lI (((G1.out.drewN _)).trans hg)
    have wf2:=(wf.set kd ((pc+4)%4294967296) (QE _)).h
    clear hg q0 q1 q2 q3 q4
    exact cj
  · rcases Bool.eq_false_or_eq_true (holds op xa xb)with hq|hq
    · exact ck
    · exact ck
  · rcases Bool.eq_false_or_eq_true (qY d.m op ((xa+xn)%4294967296))with hq|hq
    · have f1:(op==1)=false:=sH.2 om
      have f2:(op==2)=false:=sH.2 om
      have f3:(op==3)=false:=sH.2 om
      have f4:(op==4)=false:=sH.2 om
      repeat first|rw[if_pos om]|rw[if_neg om]|rw[if_pos hq]|rw[if_neg xD]
      have HL:=lI (fun W hW=>load_any vm d.m op ((xa+xn)%4294967296) W hW (QE _) wf.m.getD)
      rw[hq]at HL
      have HLU:=lI (mLoad_u d.m op ((xa+xn)%4294967296) ⟨o0,o1⟩ (QE _) wf.m.getD)
      obtain⟨xl,hxl⟩:∃x,x=QB d.m op ((xa+xn)%4294967296):=⟨_,rfl⟩
      rw[←hxl]at HLU ⊢
      have HL2:Hid (∀W,Ints .u8 W vm d.m→Calls Tryz.prog 59 #[vm,.int .i64 op,.int .u32 ((xa+xn)%4294967296)] W fun e w'=>e=.returned (.tuple #[.int .u32 xl,.bool true])∧W=w'):=lI (by rw[hxl];exact HL.out)
      clear hxl HL
      have HL:=HL2
      clear HL2
      go_enter Tryz.func86,Tryz.ntmps86
      go_upto_region 1 with(fail)
      rw[←HW1.out]
      go_quiet (fail)
      rw[←HIM.out]
      clear hca hcb
      obtain⟨n0,n1⟩:=HN.out
      obtain⟨a0,a1⟩:=HA.out
      have hm:=H1.out.mem
      go_upto_region 18 with(fail)
      go_upto_region 21 with(go_at_call 59;refine(HL.out _ (H1.out.drewN _).bytes).mono ?_;rintro e w2 ⟨rfl,rfl⟩)
      clear hm
      go_upto_region 37 with(go_at_call 114;refine(Jy (H1.out.drewN _) wf.h kd hd _).mono ?_;rintro e w2 ⟨rfl,hc,hg⟩)
      have HG:Hid (Cgo cp hb ho vm 40 w w2):=lI (((G1.out.drewN _)).trans hg)
      have wf2:=(wf.set kd xl HLU.out).h
      clear hg q0 q1 q2 q3 q4
      exact cj
    · have f1:(op==1)=false:=sH.2 om
      have f2:(op==2)=false:=sH.2 om
      have f3:(op==3)=false:=sH.2 om
      have f4:(op==4)=false:=sH.2 om
      repeat first|rw[if_pos om]|rw[if_neg om]|rw[if_pos hq]|rw[if_neg xD]
      have HL:=lI (fun W hW=>load_any vm d.m op ((xa+xn)%4294967296) W hW (QE _) wf.m.getD)
      rw[hq]at HL
      go_enter Tryz.func86,Tryz.ntmps86
      go_upto_region 1 with(fail)
      rw[←HW1.out]
      go_quiet (fail)
      rw[←HIM.out]
      clear hca hcb
      obtain⟨n0,n1⟩:=HN.out
      obtain⟨a0,a1⟩:=HA.out
      have hm:=H1.out.mem
      go_upto_region 18 with(fail)
      go_upto_region 20 with(go_at_call 59;refine(HL.out _ (H1.out.drewN _).bytes).mono ?_;rintro e w2 ⟨rfl,rfl⟩)
      clear hm q0 q1 q2 q3 q4
      clear hp hc32
      go_wp2_with (go_at_call 85;refine(Jj (H1.out.drewN _) wf.h _).mono ?_;rintro e w2 ⟨rfl,hc,hg⟩)
      exact cn
  · rcases Bool.eq_false_or_eq_true (qU d.m op ((xa+xn)%4294967296))with hq|hq
    · have f1:(op==1)=false:=sH.2 om
      have f2:(op==2)=false:=sH.2 om
      have f3:(op==3)=false:=sH.2 om
      have f4:(op==4)=false:=sH.2 om
      repeat first|rw[if_pos om]|rw[if_neg om]|rw[if_pos hq]|rw[if_neg xD]
      have HPut:=lI (fun W hW=>cput_any (cp:=cp) (hb:=hb) (ho:=ho) (vm:=vm) (d:=d) (w:=W) hW wf op ((xa+xn)%4294967296) xb (QE _) HB.out)
      rw[hq]at HPut
      go_enter Tryz.func86,Tryz.ntmps86
      go_upto_region 1 with(fail)
      rw[←HW1.out]
      go_quiet (fail)
      rw[←HIM.out]
      clear hca hcb
      obtain⟨n0,n1⟩:=HN.out
      obtain⟨a0,a1⟩:=HA.out
      go_upto_region 37 with(go_at_call 116;refine(HPut.out _ (H1.out.drewN _)).mono ?_;rintro e w2 ⟨rfl,hc,hg⟩)
      clear q0 q1 q2 q3 q4
      have HG:=lI ((G1.out.drewN _).trans hg)
      have wf2:(d.put op ((xa+xn)%4294967296) xb).h.Wf:=by rw[qF.put_h];exact wf.h
      clear hg
      exact cj
    · have f1:(op==1)=false:=sH.2 om
      have f2:(op==2)=false:=sH.2 om
      have f3:(op==3)=false:=sH.2 om
      have f4:(op==4)=false:=sH.2 om
      repeat first|rw[if_pos om]|rw[if_neg om]|rw[if_pos hq]|rw[if_neg xD]
      have HPut:=lI (fun W hW=>cput_any (cp:=cp) (hb:=hb) (ho:=ho) (vm:=vm) (d:=d) (w:=W) hW wf op ((xa+xn)%4294967296) xb (QE _) HB.out)
      rw[hq,show d.put op ((xa+xn)%4294967296) xb=d by unfold qF.put;rw[hq];rfl]at HPut
      go_enter Tryz.func86,Tryz.ntmps86
      go_upto_region 1 with(fail)
      rw[←HW1.out]
      go_quiet (fail)
      rw[←HIM.out]
      clear hca hcb
      obtain⟨n0,n1⟩:=HN.out
      obtain⟨a0,a1⟩:=HA.out
      go_upto_region 24 with(go_at_call 116;refine(HPut.out _ (H1.out.drewN _)).mono ?_;rintro e w2 ⟨rfl,hc,hg⟩)
      clear hp hc32 q0 q1 q2 q3 q4
      have HG2:=lI ((G1.out.drewN _).trans hg)
      clear hg
      go_wp2_with (go_at_call 85;refine(Jj hc wf.h _).mono ?_;rintro e w3 ⟨rfl,hc3,hg3⟩)
      exact sO (results_none zK _ _ _) rfl ⟨rfl,hc3,HG2.out.trans hg3⟩
  · have f1:(op==1)=false:=sH.2 om
    have f2:(op==2)=false:=sH.2 om
    have f3:(op==3)=false:=sH.2 om
    have f4:(op==4)=false:=sH.2 om
    repeat first|rw[if_pos om]|rw[if_neg om]
    have HAl:=lI (fun W=>alu_any (immOp op) xa xn W HA.out.1 HA.out.2 HN.out.1 HN.out.2)
    have HALU:=lI (alu_lo (immOp op) xa xn HA.out HN.out)
    generalize alu (immOp op) xa xn=xl at *
    go_enter Tryz.func86,Tryz.ntmps86
    go_upto_region 1 with(fail)
    rw[←HW1.out]
    go_quiet (fail)
    rw[←HIM.out]
    clear hca hcb
    have KP:Hid (∀wx w2,wx.heap=w1.heap→Cgo cp hb ho vm 40 wx w2→w2.cell? ⟨w.heap.size,1,none⟩=some (.int .i64 kd)):=lI (fun wx w2 eh hg=>
      have hsz:wx.heap.size=w1.heap.size:=by rw[eh]
      (World.cell?_of_block (w:=w1) ((hg.block w.heap.size (by have:=qD q1;rw[hsz];exact this) (by have:=H1.out.hbl;omega) (fun e=>by have:=H1.out.vm_lt e;omega) (.inr ⟨hbx,fun cs fr e=>by rw[eh,HX.out]at e;injection e with e;injection e with e1 e2;exact absurd e2 zF⟩)).trans (by rw[eh]))).trans q1)
    have PK:Hid (∀r x w2,qX cp hb ho vm 40 w2 (d.set r x)→U32 x→w2.cell? ⟨hb,ho+32,none⟩=some (.int .u32 pc)):=lI (fun r x w2 hc ux=>by
      have:=hc.hart.get (QM (wf.set r x ux).h)
      rw[this,HPC.out]
      unfold qF.set Hart.setReg
      split<;>rfl)
    go_upto_region 26 with(fail)
    go_region_held3 (fun w'=>w'.cell? ⟨w.heap.size,1,none⟩=some (.int .i64 kd)∧w'.cell? ⟨cp,0,none⟩=some (.pointer (some ⟨hb,ho,none⟩))∧w'.cell? ⟨hb,ho+32,none⟩=some (.int .u32 pc))
      (first|exact⟨q1,hp,hc32⟩|exact⟨p1,p2,p3⟩)
      ((first|(go_at_call 117;refine(HAl.out _).mono ?_;rintro e w2 ⟨rfl,nn,rfl⟩)|(go_at_call 118;refine(imm_any op _ ⟨o0,o1⟩).mono ?_;rintro e w2 ⟨rfl,rfl⟩)|(go_at_call 114;(try rw[IntKind.wrap_u32]);refine(Jy (H1.out.below (by repeat(first|exact Below.refl _ _|refine qB ?_ _|refine Below.drew ?_))) wf.h kd hd _).mono ?_;rintro e w2 ⟨rfl,hc,hg⟩;have p1:=KP.out _ w2 zK hg;have p2:=hc.ptr;have p3:=PK.out _ _ w2 hc (HALU.out))))
    exact cr
  · have f1:(op==1)=false:=sH.2 om
    have f2:(op==2)=false:=sH.2 om
    have f3:(op==3)=false:=sH.2 om
    have f4:(op==4)=false:=sH.2 om
    repeat first|rw[if_pos om]|rw[if_neg om]
    have HAl:=lI (fun W=>alu_any op xa xb W HA.out.1 HA.out.2 HB.out.1 HB.out.2)
    have HALU:=lI (alu_lo op xa xb HA.out HB.out)
    generalize alu op xa xb=xl at *
    go_enter Tryz.func86,Tryz.ntmps86
    go_upto_region 1 with(fail)
    rw[←HW1.out]
    go_quiet (fail)
    rw[←HIM.out]
    clear hca hcb
    have KP:Hid (∀wx w2,wx.heap=w1.heap→Cgo cp hb ho vm 40 wx w2→w2.cell? ⟨w.heap.size,1,none⟩=some (.int .i64 kd)):=lI (fun wx w2 eh hg=>
      have hsz:wx.heap.size=w1.heap.size:=by rw[eh]
      (World.cell?_of_block (w:=w1) ((hg.block w.heap.size (by have:=qD q1;rw[hsz];exact this) (by have:=H1.out.hbl;omega) (fun e=>by have:=H1.out.vm_lt e;omega) (.inr ⟨hbx,fun cs fr e=>by rw[eh,HX.out]at e;injection e with e;injection e with e1 e2;exact absurd e2 zF⟩)).trans (by rw[eh]))).trans q1)
    have PK:Hid (∀r x w2,qX cp hb ho vm 40 w2 (d.set r x)→U32 x→w2.cell? ⟨hb,ho+32,none⟩=some (.int .u32 pc)):=lI (fun r x w2 hc ux=>by
      have:=hc.hart.get (QM (wf.set r x ux).h)
      rw[this,HPC.out]
      unfold qF.set Hart.setReg
      split<;>rfl)
    go_upto_region 28 with(fail)
    go_region_held3 (fun w'=>w'.cell? ⟨w.heap.size,1,none⟩=some (.int .i64 kd)∧w'.cell? ⟨cp,0,none⟩=some (.pointer (some ⟨hb,ho,none⟩))∧w'.cell? ⟨hb,ho+32,none⟩=some (.int .u32 pc))
      (first|exact⟨q1,hp,hc32⟩|exact⟨p1,p2,p3⟩)
      ((first|(go_at_call 117;refine(HAl.out _).mono ?_;rintro e w2 ⟨rfl,nn,rfl⟩)|(go_at_call 114;(try rw[IntKind.wrap_u32]);refine(Jy (H1.out.below (by repeat(first|exact Below.refl _ _|refine qB ?_ _|refine Below.drew ?_))) wf.h kd hd _).mono ?_;rintro e w2 ⟨rfl,hc,hg⟩;have p1:=KP.out _ w2 zK hg;have p2:=hc.ptr;have p3:=PK.out _ _ w2 hc (HALU.out))))
    exact cr
  · rcases Bool.eq_false_or_eq_true ((qb d op xa xb).2.2)with hq|hq
    · have f1:(op==1)=false:=sH.2 om
      have f2:(op==2)=false:=sH.2 om
      have f3:(op==3)=false:=sH.2 om
      have f4:(op==4)=false:=sH.2 om
      repeat first|rw[if_pos om]|rw[if_neg om]|rw[if_pos hq]|rw[if_neg xD]
      have HAt:=lI (fun W hW=>atom_any (cp:=cp) (hb:=hb) (ho:=ho) (vm:=vm) (d:=d) (w:=W) hW wf op xa xb ⟨o0,o1⟩ HA.out HB.out)
      rw[hq]at HAt
      have HWF:=lI (uw wf op xa xb HA.out HB.out)
      generalize (qb d op xa xb).1=d2 at *
      generalize (qb d op xa xb).2.1=xl at *
      go_enter Tryz.func86,Tryz.ntmps86
      go_upto_region 1 with(fail)
      rw[←HW1.out]
      go_quiet (fail)
      rw[←HIM.out]
      clear hca hcb
      go_upto_region 32 with(go_at_call 119;refine(HAt.out _ (H1.out.drewN _)).mono ?_;rintro e w2 ⟨rfl,hc0,hg0⟩)
      have HG0:=lI ((G1.out.drewN _).trans hg0)
      have p1:w2.cell? ⟨w.heap.size,1,none⟩=some (.int .i64 kd):=(World.cell?_of_block (w:=w1) (hg0.block w.heap.size (qD q1) (by have:=H1.out.hbl;omega) (fun e=>by have:=H1.out.vm_lt e;omega) (.inr ⟨hbx,fun cs fr e=>by change w1.heap[w.heap.size]? =_ at e;rw[HX.out]at e;injection e with e;injection e with e1 e2;exact absurd e2 zF⟩))).trans q1
      clear hg0 q0 q1 q2 q3 q4 hp hc32
      go_upto_region 37 with(go_at_call 114;refine(Jy hc0 HWF.out.1.h kd hd _).mono ?_;rintro e w3 ⟨rfl,hc,hg⟩)
      have HG:Hid (Cgo cp hb ho vm 40 w w3):=lI (HG0.out.trans hg)
      have wf2:=(HWF.out.1.set kd xl HWF.out.2).h
      clear hg p1
      have hp:=hc.ptr
      have hc32:=hc.hart.get (QM wf2)
      exact cj
    · have f1:(op==1)=false:=sH.2 om
      have f2:(op==2)=false:=sH.2 om
      have f3:(op==3)=false:=sH.2 om
      have f4:(op==4)=false:=sH.2 om
      repeat first|rw[if_pos om]|rw[if_neg om]|rw[if_pos hq]|rw[if_neg xD]
      have HAt:=lI (fun W hW=>atom_any (cp:=cp) (hb:=hb) (ho:=ho) (vm:=vm) (d:=d) (w:=W) hW wf op xa xb ⟨o0,o1⟩ HA.out HB.out)
      rw[hq]at HAt
      generalize (qb d op xa xb).1=d2 at *
      generalize (qb d op xa xb).2.1=xl at *
      go_enter Tryz.func86,Tryz.ntmps86
      go_upto_region 1 with(fail)
      rw[←HW1.out]
      go_quiet (fail)
      rw[←HIM.out]
      clear hca hcb
      go_wp2_with (go_at_call 119;refine(HAt.out _ (H1.out.drewN _)).mono ?_;rintro e w2 ⟨rfl,hc,hg⟩)
      exact cn
  · repeat first|rw[if_pos om]|rw[if_neg om]
    go_enter Tryz.func86,Tryz.ntmps86
    go_upto_region 1 with(fail)
    rw[←HW1.out]
    go_quiet (fail)
    rw[←HIM.out]
    clear hca hcb
    go_upto_region 37 with(fail)
    have h32:=hc32
    have f32:=H1.out.hfz (ho+32)
    clear q0 q1 q2 q3 q4 hc32
    go_wp2_with fail
    go_end0
    exact⟨rfl,(H1.out.drewN _).setHart 32 _ _ (QG wf.h.len _) yX,(G1.out.drewN _).trans (Cgo.setHart _ 32 om _)⟩
  · rcases Bool.eq_false_or_eq_true ((qx d).2)with hq|hq
    · repeat first|rw[if_pos om]|rw[if_neg om]|rw[if_pos hq]|rw[if_neg xD]
      have HCa:=lI (fun W hW=>call_any (cp:=cp) (hb:=hb) (ho:=ho) (vm:=vm) (d:=d) (w:=W) hW wf hlen)
      rw[hq]at HCa
      have wf2:(qx d).1.h.Wf:=(callS_wf wf hlen).h
      generalize (qx d).1=d2 at *
      go_enter Tryz.func86,Tryz.ntmps86
      go_upto_region 1 with(fail)
      rw[←HW1.out]
      go_quiet (fail)
      rw[←HIM.out]
      clear hca hcb
      go_upto_region 37 with(go_at_call 120;refine(HCa.out _ (H1.out.drewN _)).mono ?_;rintro e w2 ⟨rfl,hc,hg⟩)
      clear q0 q1 q2 q3 q4
      have HG:=lI ((G1.out.drewN _).trans hg)
      clear hg
      exact cj
    · repeat first|rw[if_pos om]|rw[if_neg om]|rw[if_pos hq]|rw[if_neg xD]
      have HCa:=lI (fun W hW=>call_any (cp:=cp) (hb:=hb) (ho:=ho) (vm:=vm) (d:=d) (w:=W) hW wf hlen)
      rw[hq]at HCa
      generalize (qx d).1=d2 at *
      go_enter Tryz.func86,Tryz.ntmps86
      go_upto_region 1 with(fail)
      rw[←HW1.out]
      go_quiet (fail)
      rw[←HIM.out]
      clear hca hcb
      go_wp2_with (go_at_call 120;refine(HCa.out _ (H1.out.drewN _)).mono ?_;rintro e w2 ⟨rfl,hc,hg⟩)
      exact cn
  · repeat first|rw[if_pos om]|rw[if_neg om]
    go_enter Tryz.func86,Tryz.ntmps86
    go_upto_region 1 with(fail)
    rw[←HW1.out]
    go_quiet (fail)
    rw[←HIM.out]
    clear hca hcb
    clear q1 q2 q3 q4
    go_wp2_with (go_at_call 85;refine(Jj (H1.out.drewN _) wf.h _).mono ?_;rintro e w2 ⟨rfl,hc,hg⟩)
    exact cn
end
end Go.Proofs.YtlfnddmncbkjaabGreatDoor.W
