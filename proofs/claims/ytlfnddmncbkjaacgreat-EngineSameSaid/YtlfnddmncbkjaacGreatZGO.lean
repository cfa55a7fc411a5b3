import Derived.Test.YtlfnddmncbkjaacGreatZGN
import Derived.Test.YtlfnddmncbkjaacGreatZWTrans3
set_option linter.unusedVariables false
set_option linter.unusedSimpArgs false
set_option maxRecDepth 100000
set_option maxHeartbeats 4000000
namespace Go.Proofs.YtlfnddmncbkjaacGreat.W
open Go.RowKit Fb
theorem gpencode_61:(∀(op l m u rd rs1 rs2 imm c:Int) (w:World) (hop:1≤op∧op≤59) (hrd:0≤rd∧rd<32) (hr1:0≤rs1∧rs1<32) (hr2:0≤rs2∧rs2<32) (hl:0≤l∧l<128) (hm:0≤m∧m<8) (hup:0≤u∧u<32+1) (HK:Hid (qF op=⟨6,l,m,u⟩)) (HC:Hid (encK ⟨6,l,m,u⟩ rd rs1 rs2 (imm%4294967296)=c)),Calls Tryz.prog 63 #[.agg #[.int .i64 op,.int .i64 rd,.int .i64 rs1,.int .i64 rs2,.int .i32 imm]] w fun e w'=>e=.returned (.tuple #[.int .u32 (if dec c=some ⟨op,rd,rs1,rs2,imm⟩then c else 0),.int .i64 (if dec c=some ⟨op,rd,rs1,rs2,imm⟩then 0 else 2)])∧Below w.heap.size w w')∧(∀(op l m u rd rs1 rs2 imm c:Int) (w:World) (hop:1≤op∧op≤59) (hrd:0≤rd∧rd<32) (hr1:0≤rs1∧rs1<32) (hr2:0≤rs2∧rs2<32) (hl:0≤l∧l<128) (hm:0≤m∧m<8) (hup:0≤u∧u<32+1) (HK:Hid (qF op=⟨8,l,m,u⟩)) (HC:Hid (encK ⟨8,l,m,u⟩ rd rs1 rs2 (imm%4294967296)=c)),Calls Tryz.prog 63 #[.agg #[.int .i64 op,.int .i64 rd,.int .i64 rs1,.int .i64 rs2,.int .i32 imm]] w fun e w'=>e=.returned (.tuple #[.int .u32 (if dec c=some ⟨op,rd,rs1,rs2,imm⟩then c else 0),.int .i64 (if dec c=some ⟨op,rd,rs1,rs2,imm⟩then 0 else 2)])∧Below w.heap.size w w')∧(∀(op l m u rd rs1 rs2 imm c:Int) (w:World) (hop:1≤op∧op≤59) (hrd:0≤rd∧rd<32) (hr1:0≤rs1∧rs1<32) (hr2:0≤rs2∧rs2<32) (hl:0≤l∧l<128) (hm:0≤m∧m<8) (hup:0≤u∧u<32) (HK:Hid (qF op=⟨7,l,m,u⟩)) (HC:Hid (encK ⟨7,l,m,u⟩ rd rs1 rs2 (imm%4294967296)=c)),Calls Tryz.prog 63 #[.agg #[.int .i64 op,.int .i64 rd,.int .i64 rs1,.int .i64 rs2,.int .i32 imm]] w fun e w'=>e=.returned (.tuple #[.int .u32 (if dec c=some ⟨op,rd,rs1,rs2,imm⟩then c else 0),.int .i64 (if dec c=some ⟨op,rd,rs1,rs2,imm⟩then 0 else 2)])∧Below w.heap.size w w'):=by
 refine⟨fun op l m u rd rs1 rs2 imm c w hop hrd hr1 hr2 hl hm hup HK HC=> ?_,fun op l m u rd rs1 rs2 imm c w hop hrd hr1 hr2 hl hm hup HK HC=> ?_,fun op l m u rd rs1 rs2 imm c w hop hrd hr1 hr2 hl hm hup HK HC=> ?_⟩
 all_goals
  obtain⟨rc,hrc⟩:∃x,x=(if dec c=some ⟨op,rd,rs1,rs2,imm⟩then c else 0):=⟨_,rfl⟩
  obtain⟨re,hre⟩:∃x:Int,x=(if dec c=some ⟨op,rd,rs1,rs2,imm⟩then 0 else 2):=⟨_,rfl⟩
  rw[←hrc,←hre]
  have HR:=lI (And.intro hrc hre)
  clear hrc hre
  have HUC:Hid (U32 c):=lI yR
  have HN:Hid (U32 (imm%4294967296)):=lI (QG _)
  have HOF:=lI (fun W=>of_any op W)
  rw[HK.out]at HOF
  rw[show QI op=true from by unfold QI;simp;omega]at HOF
  simp only[qg]at HOF
  obtain⟨d0,d1⟩:=hrd
  obtain⟨a0,a1⟩:=hr1
  obtain⟨b0,b1⟩:=hr2
  obtain⟨l0,l1⟩:=hl
  obtain⟨m0,m1⟩:=hm
  obtain⟨u0,u1⟩:=hup
  clear hop
  have ix0:∀W,(Instr.index 157 (.agg #[.int .i64 rd,.int .i64 rs1,.int .i64 rs2]) (.int .i64 0)).run Tryz.prog W=.ok (.int .i64 rd) W:=fun _=>by kernel_rfl
  have ix1:∀W,(Instr.index 157 (.agg #[.int .i64 rd,.int .i64 rs1,.int .i64 rs2]) (.int .i64 1)).run Tryz.prog W=.ok (.int .i64 rs1) W:=fun _=>by kernel_rfl
  have ix2:∀W,(Instr.index 157 (.agg #[.int .i64 rd,.int .i64 rs1,.int .i64 rs2]) (.int .i64 2)).run Tryz.prog W=.ok (.int .i64 rs2) W:=fun _=>by kernel_rfl
  go_enter Tryz.func63,Tryz.ntmps63
  go_wp2_with fail
  refine(HOF.out _).mono ?_
  rintro e w1 ⟨rfl,hb1⟩
  have hblk:=(hb1.block w.heap.size zG).trans (sQ w (.cells #[.int .i64 op,.int .i64 rd,.int .i64 rs1,.int .i64 rs2,.int .i32 imm] 82))
 · have hlt1:w.heap.size<w1.heap.size:=yM
   obtain⟨w2,hw2⟩:∃w2,w2=w1.alloc (.cells #[.int .i64 6,.int .u32 l,.int .u32 m,.int .u32 u] 154):=⟨_,rfl⟩
   have k0:w2.cell? ⟨w.heap.size,0,none⟩=some (.int .i64 op):=by rw[hw2];exact(sI w1 _ _ hlt1).trans (qS hblk rfl)
   have k1:w2.cell? ⟨w.heap.size,1,none⟩=some (.int .i64 rd):=by rw[hw2];exact(sI w1 _ _ hlt1).trans (qS hblk rfl)
   have k2:w2.cell? ⟨w.heap.size,2,none⟩=some (.int .i64 rs1):=by rw[hw2];exact(sI w1 _ _ hlt1).trans (qS hblk rfl)
   have k3:w2.cell? ⟨w.heap.size,3,none⟩=some (.int .i64 rs2):=by rw[hw2];exact(sI w1 _ _ hlt1).trans (qS hblk rfl)
   have k4:w2.cell? ⟨w.heap.size,4,none⟩=some (.int .i32 imm):=by rw[hw2];exact(sI w1 _ _ hlt1).trans (qS hblk rfl)
   have n0:w2.cell? ⟨w1.heap.size,0,none⟩=some (.int .i64 6):=zE
   have n1:w2.cell? ⟨w1.heap.size,1,none⟩=some (.int .u32 l):=zE
   have n2:w2.cell? ⟨w1.heap.size,2,none⟩=some (.int .u32 m):=zE
   have n3:w2.cell? ⟨w1.heap.size,3,none⟩=some (.int .u32 u):=zE
   have hb2:Below w.heap.size w w2:=zM
   have hlt2:w.heap.size<w2.heap.size:=xU
   have HB2:=lI hb2
   have HLT:=lI hlt2
   have HW2:=lI hw2
   clear hblk hb1 hlt1 hb2 hlt2 hw2 HOF
   go_upto_region 2 with(fail)
   rw[←HW2.out]
   go_wp2_with fail
   (refine wp_loop_rounds 4 ?_;repeat any_goals(rw[rounds_succ];go_wp2_with (fail)))
   refine(je w2 _ _ c ?hb ?he HUC.out).mono ?_
   case hb=>first|exact Below.refl _ _|exact qC br _|exact qC (qC br _) _
   case he=>first|exact HC.out|(rw[←HC.out];rfl)|(rw[←HC.out,Qc _ HN.out];rfl)|(rw[←HC.out];simp[encK,jR,orw])
   rintro e w3 ⟨rfl,hb3⟩
   have g0:=(hb3.cell (p:=⟨w.heap.size,0,none⟩) HLT.out).trans k0
   have g1:=(hb3.cell (p:=⟨w.heap.size,1,none⟩) HLT.out).trans k1
   have g2:=(hb3.cell (p:=⟨w.heap.size,2,none⟩) HLT.out).trans k2
   have g3:=(hb3.cell (p:=⟨w.heap.size,3,none⟩) HLT.out).trans k3
   have g4:=(hb3.cell (p:=⟨w.heap.size,4,none⟩) HLT.out).trans k4
   have hb4:Below w.heap.size w w3:=HB2.out.trans (hb3.mono (Nat.le_of_lt HLT.out))
   have hlt3:w.heap.size<w3.heap.size:=Nat.lt_of_lt_of_le HLT.out hb3.size
   clear k0 k1 k2 k3 k4 n0 n1 n2 n3 hb3
   obtain⟨j,hj⟩:∃j,j=(dec c).getD i0:=⟨_,rfl⟩
   have HJ:Hid (rc=(if((dec c).isSome&&decide (j=⟨op,rd,rs1,rs2,imm⟩))=true then c else 0)∧re=(if((dec c).isSome&&decide (j=⟨op,rd,rs1,rs2,imm⟩))=true then 0 else 2)):=lI (by
     rw[HR.out.1,HR.out.2]
     subst hj
     cases dec c with
     |none=>simp
     |some x=>simp)
   rw[←hj]
   clear hj HR HUC
   generalize (dec c).isSome=ok at *
   obtain⟨q1,q2,q3,q4,q5⟩:=j
   simp only[ql]
   obtain⟨w4,hw4⟩:∃w4,w4=w3.alloc (.cells #[.int .i64 q1,.int .i64 q2,.int .i64 q3,.int .i64 q4,.int .i32 q5] 82):=⟨_,rfl⟩
   have p0:w4.cell? ⟨w.heap.size,0,none⟩=some (.int .i64 op):=by rw[hw4];exact(sI w3 _ _ hlt3).trans g0
   have p1:w4.cell? ⟨w.heap.size,1,none⟩=some (.int .i64 rd):=by rw[hw4];exact(sI w3 _ _ hlt3).trans g1
   have p2:w4.cell? ⟨w.heap.size,2,none⟩=some (.int .i64 rs1):=by rw[hw4];exact(sI w3 _ _ hlt3).trans g2
   have p3:w4.cell? ⟨w.heap.size,3,none⟩=some (.int .i64 rs2):=by rw[hw4];exact(sI w3 _ _ hlt3).trans g3
   have p4:w4.cell? ⟨w.heap.size,4,none⟩=some (.int .i32 imm):=by rw[hw4];exact(sI w3 _ _ hlt3).trans g4
   have r0:w4.cell? ⟨w3.heap.size,0,none⟩=some (.int .i64 q1):=zD
   have r1:w4.cell? ⟨w3.heap.size,1,none⟩=some (.int .i64 q2):=zD
   have r2:w4.cell? ⟨w3.heap.size,2,none⟩=some (.int .i64 q3):=zD
   have r3:w4.cell? ⟨w3.heap.size,3,none⟩=some (.int .i64 q4):=zD
   have r4:w4.cell? ⟨w3.heap.size,4,none⟩=some (.int .i32 q5):=zD
   have hb5:Below w.heap.size w w4:=yC
   have hg:Tryz.prog.eqGuardType Tryz.prog.depth 82=false:=xJ
   have HW4:=lI hw4
   clear hw4 g0 g1 g2 g3 g4 hb4 hlt3
   go_upto_region 31 with(fail)
   rw[←HW4.out]
   cases ok with
   | false =>
     go_wp2_with fail
     go_ret2
     exact⟨by rw[HJ.out.1,HJ.out.2];rfl,hb5⟩
   | true =>
     go_wp2_with fail
     all_goals go_ret2
     all_goals refine⟨?_,hb5⟩
     all_goals clear p0 p1 p2 p3 p4 r0 r1 r2 r3 r4 hb5 hg ix0 ix1 ix2 HW4 HW2 HB2 HLT
     all_goals first
       | (have e1 : rc = c := by rw [HJ.out.1, if_pos yK]
          have e2:re=0:=yU
          rw[e1,e2,←HC.out]
          first|rfl|(rw[Qc _ HN.out];rfl)|(simp[encK,jR,orw];done))
       | (have e1 : rc = 0 := by rw [HJ.out.1, if_neg yK]
          have e2:re=2:=yV
          rw[e1,e2]
          rfl)
 · have hlt1:w.heap.size<w1.heap.size:=yM
   obtain⟨w2,hw2⟩:∃w2,w2=w1.alloc (.cells #[.int .i64 8,.int .u32 l,.int .u32 m,.int .u32 u] 154):=⟨_,rfl⟩
   have k0:w2.cell? ⟨w.heap.size,0,none⟩=some (.int .i64 op):=by rw[hw2];exact(sI w1 _ _ hlt1).trans (qS hblk rfl)
   have k1:w2.cell? ⟨w.heap.size,1,none⟩=some (.int .i64 rd):=by rw[hw2];exact(sI w1 _ _ hlt1).trans (qS hblk rfl)
   have k2:w2.cell? ⟨w.heap.size,2,none⟩=some (.int .i64 rs1):=by rw[hw2];exact(sI w1 _ _ hlt1).trans (qS hblk rfl)
   have k3:w2.cell? ⟨w.heap.size,3,none⟩=some (.int .i64 rs2):=by rw[hw2];exact(sI w1 _ _ hlt1).trans (qS hblk rfl)
   have k4:w2.cell? ⟨w.heap.size,4,none⟩=some (.int .i32 imm):=by rw[hw2];exact(sI w1 _ _ hlt1).trans (qS hblk rfl)
   have n0:w2.cell? ⟨w1.heap.size,0,none⟩=some (.int .i64 8):=zE
   have n1:w2.cell? ⟨w1.heap.size,1,none⟩=some (.int .u32 l):=zE
   have n2:w2.cell? ⟨w1.heap.size,2,none⟩=some (.int .u32 m):=zE
   have n3:w2.cell? ⟨w1.heap.size,3,none⟩=some (.int .u32 u):=zE
   have hb2:Below w.heap.size w w2:=zM
   have hlt2:w.heap.size<w2.heap.size:=xU
   have HB2:=lI hb2
   have HLT:=lI hlt2
   have HW2:=lI hw2
   clear hblk hb1 hlt1 hb2 hlt2 hw2 HOF
   go_upto_region 2 with(fail)
   rw[←HW2.out]
   go_wp2_with fail
   (refine wp_loop_rounds 4 ?_;repeat any_goals(rw[rounds_succ];go_wp2_with (fail)))
   refine(je w2 _ _ c ?hb ?he HUC.out).mono ?_
   case hb=>first|exact Below.refl _ _|exact qC br _|exact qC (qC br _) _
   case he=>first|exact HC.out|(rw[←HC.out];rfl)|(rw[←HC.out,Qc _ HN.out];rfl)|(rw[←HC.out];simp[encK,jR,orw])
   rintro e w3 ⟨rfl,hb3⟩
   have g0:=(hb3.cell (p:=⟨w.heap.size,0,none⟩) HLT.out).trans k0
   have g1:=(hb3.cell (p:=⟨w.heap.size,1,none⟩) HLT.out).trans k1
   have g2:=(hb3.cell (p:=⟨w.heap.size,2,none⟩) HLT.out).trans k2
   have g3:=(hb3.cell (p:=⟨w.heap.size,3,none⟩) HLT.out).trans k3
   have g4:=(hb3.cell (p:=⟨w.heap.size,4,none⟩) HLT.out).trans k4
   have hb4:Below w.heap.size w w3:=HB2.out.trans (hb3.mono (Nat.le_of_lt HLT.out))
   have hlt3:w.heap.size<w3.heap.size:=Nat.lt_of_lt_of_le HLT.out hb3.size
   clear k0 k1 k2 k3 k4 n0 n1 n2 n3 hb3
   obtain⟨j,hj⟩:∃j,j=(dec c).getD i0:=⟨_,rfl⟩
   have HJ:Hid (rc=(if((dec c).isSome&&decide (j=⟨op,rd,rs1,rs2,imm⟩))=true then c else 0)∧re=(if((dec c).isSome&&decide (j=⟨op,rd,rs1,rs2,imm⟩))=true then 0 else 2)):=lI (by
     rw[HR.out.1,HR.out.2]
     subst hj
     cases dec c with
     |none=>simp
     |some x=>simp)
   rw[←hj]
   clear hj HR HUC
   generalize (dec c).isSome=ok at *
   obtain⟨q1,q2,q3,q4,q5⟩:=j
   simp only[ql]
   obtain⟨w4,hw4⟩:∃w4,w4=w3.alloc (.cells #[.int .i64 q1,.int .i64 q2,.int .i64 q3,.int .i64 q4,.int .i32 q5] 82):=⟨_,rfl⟩
   have p0:w4.cell? ⟨w.heap.size,0,none⟩=some (.int .i64 op):=by rw[hw4];exact(sI w3 _ _ hlt3).trans g0
   have p1:w4.cell? ⟨w.heap.size,1,none⟩=some (.int .i64 rd):=by rw[hw4];exact(sI w3 _ _ hlt3).trans g1
   have p2:w4.cell? ⟨w.heap.size,2,none⟩=some (.int .i64 rs1):=by rw[hw4];exact(sI w3 _ _ hlt3).trans g2
   have p3:w4.cell? ⟨w.heap.size,3,none⟩=some (.int .i64 rs2):=by rw[hw4];exact(sI w3 _ _ hlt3).trans g3
   have p4:w4.cell? ⟨w.heap.size,4,none⟩=some (.int .i32 imm):=by rw[hw4];exact(sI w3 _ _ hlt3).trans g4
   have r0:w4.cell? ⟨w3.heap.size,0,none⟩=some (.int .i64 q1):=zD
   have r1:w4.cell? ⟨w3.heap.size,1,none⟩=some (.int .i64 q2):=zD
   have r2:w4.cell? ⟨w3.heap.size,2,none⟩=some (.int .i64 q3):=zD
   have r3:w4.cell? ⟨w3.heap.size,3,none⟩=some (.int .i64 q4):=zD
   have r4:w4.cell? ⟨w3.heap.size,4,none⟩=some (.int .i32 q5):=zD
   have hb5:Below w.heap.size w w4:=yC
   have hg:Tryz.prog.eqGuardType Tryz.prog.depth 82=false:=xJ
   have HW4:=lI hw4
   clear hw4 g0 g1 g2 g3 g4 hb4 hlt3
   go_upto_region 31 with(fail)
   rw[←HW4.out]
   cases ok with
   | false =>
     go_wp2_with fail
     go_ret2
     exact⟨by rw[HJ.out.1,HJ.out.2];rfl,hb5⟩
   | true =>
     go_wp2_with fail
     all_goals go_ret2
     all_goals refine⟨?_,hb5⟩
     all_goals clear p0 p1 p2 p3 p4 r0 r1 r2 r3 r4 hb5 hg ix0 ix1 ix2 HW4 HW2 HB2 HLT
     all_goals first
       | (have e1 : rc = c := by rw [HJ.out.1, if_pos yK]
          have e2:re=0:=yU
          rw[e1,e2,←HC.out]
          first|rfl|(rw[Qc _ HN.out];rfl)|(simp[encK,jR,orw];done))
       | (have e1 : rc = 0 := by rw [HJ.out.1, if_neg yK]
          have e2:re=2:=yV
          rw[e1,e2]
          rfl)
 · have hlt1:w.heap.size<w1.heap.size:=yM
   obtain⟨w2,hw2⟩:∃w2,w2=w1.alloc (.cells #[.int .i64 7,.int .u32 l,.int .u32 m,.int .u32 u] 154):=⟨_,rfl⟩
   have k0:w2.cell? ⟨w.heap.size,0,none⟩=some (.int .i64 op):=by rw[hw2];exact(sI w1 _ _ hlt1).trans (qS hblk rfl)
   have k1:w2.cell? ⟨w.heap.size,1,none⟩=some (.int .i64 rd):=by rw[hw2];exact(sI w1 _ _ hlt1).trans (qS hblk rfl)
   have k2:w2.cell? ⟨w.heap.size,2,none⟩=some (.int .i64 rs1):=by rw[hw2];exact(sI w1 _ _ hlt1).trans (qS hblk rfl)
   have k3:w2.cell? ⟨w.heap.size,3,none⟩=some (.int .i64 rs2):=by rw[hw2];exact(sI w1 _ _ hlt1).trans (qS hblk rfl)
   have k4:w2.cell? ⟨w.heap.size,4,none⟩=some (.int .i32 imm):=by rw[hw2];exact(sI w1 _ _ hlt1).trans (qS hblk rfl)
   have n0:w2.cell? ⟨w1.heap.size,0,none⟩=some (.int .i64 7):=zE
   have n1:w2.cell? ⟨w1.heap.size,1,none⟩=some (.int .u32 l):=zE
   have n2:w2.cell? ⟨w1.heap.size,2,none⟩=some (.int .u32 m):=zE
   have n3:w2.cell? ⟨w1.heap.size,3,none⟩=some (.int .u32 u):=zE
   have hb2:Below w.heap.size w w2:=zM
   have hlt2:w.heap.size<w2.heap.size:=xU
   have HB2:=lI hb2
   have HLT:=lI hlt2
   have HW2:=lI hw2
   clear hblk hb1 hlt1 hb2 hlt2 hw2 HOF
   go_upto_region 2 with(fail)
   rw[←HW2.out]
   go_wp2_with fail
   (refine wp_loop_rounds 4 ?_;repeat any_goals(rw[rounds_succ];go_wp2_with (go_at_call 86;first|((with_reducible refine(Jl _ _ HN.out).mono ?_);rintro e w' ⟨rfl,nn,rfl⟩)|((with_reducible refine(Jm _ _ HN.out).mono ?_);rintro e w' ⟨rfl,nn,rfl⟩)|((with_reducible refine(Jz _ _ HN.out).mono ?_);rintro e w' ⟨rfl,nn,rfl⟩)|((with_reducible refine(uz _ _ HN.out).mono ?_);rintro e w' ⟨rfl,nn,rfl⟩)|((with_reducible refine(UA _ _ HN.out).mono ?_);rintro e w' ⟨rfl,nn,rfl⟩)|((with_reducible refine(UQ _ _ HN.out).mono ?_);rintro e w' ⟨rfl,nn,rfl⟩)|((with_reducible refine(Jy _ _ HN.out).mono ?_);rintro e w' ⟨rfl,nn,rfl⟩)|((with_reducible refine(uy _ _ HN.out).mono ?_);rintro e w' ⟨rfl,nn,rfl⟩)|((with_reducible refine(cut_1_4 _ _ HN.out).mono ?_);rintro e w' ⟨rfl,nn,rfl⟩)|((with_reducible refine(uw _ _ HN.out).mono ?_);rintro e w' ⟨rfl,nn,rfl⟩)|((with_reducible refine(UR _ _ HN.out).mono ?_);rintro e w' ⟨rfl,nn,rfl⟩))))
   go_quiet (with_reducible refine Calls.quiet_of (UR _ _ HN.out))
   go_wp2_with fail
   refine(je w2 _ _ c ?hb ?he HUC.out).mono ?_
   case hb=>first|exact Below.refl _ _|exact qC br _|exact qC (qC br _) _
   case he=>first|exact HC.out|(rw[←HC.out];rfl)|(rw[←HC.out,Qc _ HN.out];rfl)|(rw[←HC.out];simp[encK,jR,orw])
   rintro e w3 ⟨rfl,hb3⟩
   have g0:=(hb3.cell (p:=⟨w.heap.size,0,none⟩) HLT.out).trans k0
   have g1:=(hb3.cell (p:=⟨w.heap.size,1,none⟩) HLT.out).trans k1
   have g2:=(hb3.cell (p:=⟨w.heap.size,2,none⟩) HLT.out).trans k2
   have g3:=(hb3.cell (p:=⟨w.heap.size,3,none⟩) HLT.out).trans k3
   have g4:=(hb3.cell (p:=⟨w.heap.size,4,none⟩) HLT.out).trans k4
   have hb4:Below w.heap.size w w3:=HB2.out.trans (hb3.mono (Nat.le_of_lt HLT.out))
   have hlt3:w.heap.size<w3.heap.size:=Nat.lt_of_lt_of_le HLT.out hb3.size
   clear k0 k1 k2 k3 k4 n0 n1 n2 n3 hb3
   obtain⟨j,hj⟩:∃j,j=(dec c).getD i0:=⟨_,rfl⟩
   have HJ:Hid (rc=(if((dec c).isSome&&decide (j=⟨op,rd,rs1,rs2,imm⟩))=true then c else 0)∧re=(if((dec c).isSome&&decide (j=⟨op,rd,rs1,rs2,imm⟩))=true then 0 else 2)):=lI (by
     rw[HR.out.1,HR.out.2]
     subst hj
     cases dec c with
     |none=>simp
     |some x=>simp)
   rw[←hj]
   clear hj HR HUC
   generalize (dec c).isSome=ok at *
   obtain⟨q1,q2,q3,q4,q5⟩:=j
   simp only[ql]
   obtain⟨w4,hw4⟩:∃w4,w4=w3.alloc (.cells #[.int .i64 q1,.int .i64 q2,.int .i64 q3,.int .i64 q4,.int .i32 q5] 82):=⟨_,rfl⟩
   have p0:w4.cell? ⟨w.heap.size,0,none⟩=some (.int .i64 op):=by rw[hw4];exact(sI w3 _ _ hlt3).trans g0
   have p1:w4.cell? ⟨w.heap.size,1,none⟩=some (.int .i64 rd):=by rw[hw4];exact(sI w3 _ _ hlt3).trans g1
   have p2:w4.cell? ⟨w.heap.size,2,none⟩=some (.int .i64 rs1):=by rw[hw4];exact(sI w3 _ _ hlt3).trans g2
   have p3:w4.cell? ⟨w.heap.size,3,none⟩=some (.int .i64 rs2):=by rw[hw4];exact(sI w3 _ _ hlt3).trans g3
   have p4:w4.cell? ⟨w.heap.size,4,none⟩=some (.int .i32 imm):=by rw[hw4];exact(sI w3 _ _ hlt3).trans g4
   have r0:w4.cell? ⟨w3.heap.size,0,none⟩=some (.int .i64 q1):=zD
   have r1:w4.cell? ⟨w3.heap.size,1,none⟩=some (.int .i64 q2):=zD
   have r2:w4.cell? ⟨w3.heap.size,2,none⟩=some (.int .i64 q3):=zD
   have r3:w4.cell? ⟨w3.heap.size,3,none⟩=some (.int .i64 q4):=zD
   have r4:w4.cell? ⟨w3.heap.size,4,none⟩=some (.int .i32 q5):=zD
   have hb5:Below w.heap.size w w4:=yC
   have hg:Tryz.prog.eqGuardType Tryz.prog.depth 82=false:=xJ
   have HW4:=lI hw4
   clear hw4 g0 g1 g2 g3 g4 hb4 hlt3
   go_upto_region 31 with(fail)
   rw[←HW4.out]
   cases ok with
   | false =>
     go_wp2_with fail
     go_ret2
     exact⟨by rw[HJ.out.1,HJ.out.2];rfl,hb5⟩
   | true =>
     go_wp2_with fail
     all_goals go_ret2
     all_goals refine⟨?_,hb5⟩
     all_goals clear p0 p1 p2 p3 p4 r0 r1 r2 r3 r4 hb5 hg ix0 ix1 ix2 HW4 HW2 HB2 HLT
     all_goals first
       | (have e1 : rc = c := by rw [HJ.out.1, if_pos yK]
          have e2:re=0:=yU
          rw[e1,e2,←HC.out]
          first|rfl|(rw[Qc _ HN.out];rfl)|(simp[encK,jR,orw];done))
       | (have e1 : rc = 0 := by rw [HJ.out.1, if_neg yK]
          have e2:re=2:=yV
          rw[e1,e2]
          rfl)
abbrev encode_6:=gpencode_61.1
abbrev encode_8:=gpencode_61.2.1
abbrev encode_7:=gpencode_61.2.2
theorem kind_bounds9(op:Int)(h:QI op=true):∃f l m u,qF op=⟨f,l,m,u⟩∧(f=0∨f=1∨f=2∨f=3∨f=4∨f=5∨f=6∨f=7∨f=8)∧(0≤l∧l<128)∧(0≤m∧m<8)∧(0≤u∧u<32+1)∧(f=7→u<32):=by
  have hb:∀k:Fin 60,QI (k.val:Int)=true→((qF (k.val:Int)).form=0∨(qF (k.val:Int)).form=1∨(qF (k.val:Int)).form=2∨(qF (k.val:Int)).form=3∨(qF (k.val:Int)).form=4∨(qF (k.val:Int)).form=5∨(qF (k.val:Int)).form=6∨(qF (k.val:Int)).form=7∨(qF (k.val:Int)).form=8)∧
      (0≤(qF (k.val:Int)).low∧(qF (k.val:Int)).low<128)∧(0≤(qF (k.val:Int)).mid∧(qF (k.val:Int)).mid<8)∧(0≤(qF (k.val:Int)).up∧(qF (k.val:Int)).up<32+1)∧((qF (k.val:Int)).form=7→(qF (k.val:Int)).up<32):=by decide+kernel
  have h1:1≤op∧op≤59:=by unfold QI at h;simpa using h
  obtain⟨k,rfl⟩:=sS (by omega:0≤op)
  have:=hb ⟨k,om⟩ h
  exact⟨_,_,_,_,rfl,this⟩
theorem encode_any(i:InsD)(w:World)(wf:I32 i.imm):
    Calls Tryz.prog 63 #[.agg (ql i)] w fun e w'=>e=.returned (.tuple #[.int .u32 (if isS i=true then encW i else 0),.int .i64 (if isS i=true then 0 else 2)])∧Below w.heap.size w w':=by
  obtain⟨op,rd,rs1,rs2,imm⟩:=i
  have key:(dec (encW ⟨op,rd,rs1,rs2,imm⟩)=some ⟨op,rd,rs1,rs2,imm⟩)↔isS ⟨op,rd,rs1,rs2,imm⟩=true:=⟨fun h=>(dec_is _ _ h).1,fun h=>enc_dec _ h wf⟩
  by_cases h:1≤op∧op≤59∧0≤rd∧rd<32∧0≤rs1∧rs1<32∧0≤rs2∧rs2<32
  rotate_left
  · have hn:¬isS ⟨op,rd,rs1,rs2,imm⟩=true:=by
      intro hs
      have h2:=isS_known hs
      unfold QI regsOk at h2
      simp only[Bool.and_eq_true,decide_eq_true_eq]at h2
      omega
    rw[if_neg hn,if_neg hn]
    exact encode_no op rd rs1 rs2 imm w h
  obtain⟨g1,g2,g3,g4,g5,g6,g7,g8⟩:=h
  obtain⟨f,l,m,u,hk,hf,hl,hm,hu,hu7⟩:=kind_bounds9 op (by unfold QI;simp;omega)
  have hE:encW ⟨op,rd,rs1,rs2,imm⟩=encK ⟨f,l,m,u⟩ rd rs1 rs2 (imm%4294967296):=by unfold encW;rw[hk]
  simp only[←key]
  rw[hE]
  rcases hf with rfl|rfl|rfl|rfl|rfl|rfl|rfl|rfl|rfl
  · exact encode_0 op l m u rd rs1 rs2 imm _ w ⟨g1,g2⟩ ⟨g3,g4⟩ ⟨g5,g6⟩ ⟨g7,g8⟩ hl hm hu (lI hk) (lI rfl)
  · exact encode_1 op l m u rd rs1 rs2 imm _ w ⟨g1,g2⟩ ⟨g3,g4⟩ ⟨g5,g6⟩ ⟨g7,g8⟩ hl hm hu (lI hk) (lI rfl)
  · exact encode_2 op l m u rd rs1 rs2 imm _ w ⟨g1,g2⟩ ⟨g3,g4⟩ ⟨g5,g6⟩ ⟨g7,g8⟩ hl hm hu (lI hk) (lI rfl)
  · exact encode_3 op l m u rd rs1 rs2 imm _ w ⟨g1,g2⟩ ⟨g3,g4⟩ ⟨g5,g6⟩ ⟨g7,g8⟩ hl hm hu (lI hk) (lI rfl)
  · exact encode_4 op l m u rd rs1 rs2 imm _ w ⟨g1,g2⟩ ⟨g3,g4⟩ ⟨g5,g6⟩ ⟨g7,g8⟩ hl hm hu (lI hk) (lI rfl)
  · exact encode_5 op l m u rd rs1 rs2 imm _ w ⟨g1,g2⟩ ⟨g3,g4⟩ ⟨g5,g6⟩ ⟨g7,g8⟩ hl hm hu (lI hk) (lI rfl)
  · exact encode_6 op l m u rd rs1 rs2 imm _ w ⟨g1,g2⟩ ⟨g3,g4⟩ ⟨g5,g6⟩ ⟨g7,g8⟩ hl hm hu (lI hk) (lI rfl)
  · exact encode_7 op l m u rd rs1 rs2 imm _ w ⟨g1,g2⟩ ⟨g3,g4⟩ ⟨g5,g6⟩ ⟨g7,g8⟩ hl hm ⟨hu.1,hu7 rfl⟩ (lI hk) (lI rfl)
  · exact encode_8 op l m u rd rs1 rs2 imm _ w ⟨g1,g2⟩ ⟨g3,g4⟩ ⟨g5,g6⟩ ⟨g7,g8⟩ hl hm hu (lI hk) (lI rfl)
end Go.Proofs.YtlfnddmncbkjaacGreat.W
namespace Go.Proofs.YtlfnddmncbkjaacGreat.Fb
theorem rowM_append(pc:Int):∀(a b:List InsD) (j:Nat),rowM pc j (a++b)=rowM pc j a++rowM pc (j+a.length) b
  |[],b,j=>by simp[rowM]
  | i :: r, b, j => by
    simp only[List.cons_append,rowM,List.length_cons]
    rw[rowM_append pc r b (j+1),List.append_assoc,show j+1+r.length=j+(r.length+1) by omega]
theorem rowM_snoc(pc:Int)(l:List InsD){k:Nat}(hk:k<l.length):rowM pc 0 (l.take (k+1))=rowM pc 0 (l.take k)++insM l[k] (Fb.u32 (pc+Fb.u32 (4*(k:Int)))):=by
  rw[List.take_succ_eq_append_getElem hk,rowM_append]
  simp[rowM,List.length_take,Nat.min_eq_left (Nat.le_of_lt hk)]
end Go.Proofs.YtlfnddmncbkjaacGreat.Fb
namespace Go.Proofs.YtlfnddmncbkjaacGreat.W
open Go.RowKit Fb
theorem tmake_own(v:Value)(l:List InsD)(pc:Int)(w:World)(hv:jV w v l)(hi:∀i∈l,I32 i.imm):
    Calls Tryz.prog 41 #[.agg #[.int .u32 pc,v]] w fun e w'=>(∃v',e=.returned v'∧Sl w' v' 5 (mkM pc l).length ((mkM pc l).flatMap JC)∧∀q,v'.ownBlock=some q→w.heap.size≤q∧q<w'.heap.size∧∃cs f,w'.heap[q]? =some (.cells cs 144 f))∧Below w.heap.size w w':=by
  obtain⟨ao,cap,rfl,hc,hm,-,ho⟩:=hv.open (fun _ _=>rfl) om
  unfold maxLen at hm
  have HO:=lI ho
  have HI:=lI hi
  obtain⟨w1,hw1⟩:∃w1,w1=w.alloc (.cells #[.int .u32 pc,.slice ao l.length cap] 65):=⟨_,rfl⟩
  have hb1:Below w.heap.size w w1:=zK
  have hs1:w1.heap.size=w.heap.size+1:=yD
  have c0:(w1).cell? ⟨w.heap.size,0,none⟩=some (.int .u32 pc):=zA
  have c1:(w1).cell? ⟨w.heap.size,1,none⟩=some (.slice ao l.length cap):=zA
  have hblk:w1.heap[w.heap.size]? =some (.cells #[.int .u32 pc,.slice ao l.length cap] 65 (0,0)):=zI
  have HBLK:=lI hblk
  have HB1:=lI hb1
  have HW1:=lI hw1
  clear hw1 hb1 hv ho hi hblk
  by_cases h16:16<l.length
  · have hM:mkM pc l=[]:=by unfold mkM;rw[if_pos (.inl h16)]
    rw[hM]
    have k1:(16:Int)<(l.length:Int):=om
    go_enter Tryz.func41,Tryz.ntmps41
    go_upto_region 1 with(fail)
    rw[←HW1.out]
    go_wp2_with fail
    go_ret
    exact⟨⟨_,rfl,Sl.nil _ _,(by intro q hq;cases hq)⟩,HB1.out⟩
  have k1:¬(16:Int)<(l.length:Int):=om
  obtain⟨w2,hw2⟩:∃w2,w2=w1.alloc (.cells #[.slice none 0 0] 132):=⟨_,rfl⟩
  have hb2:Below w1.heap.size w1 w2:=by rw[hw2];exact Fb.blw
  have hs2:w2.heap.size=w1.heap.size+1:=by rw[hw2];simp
  have HMK:Hid (MkW (w.heap.size+1) 144 w2 []):=lI (by rw[hw2,←hs1];exact MkW.init _ _ _)
  have d0:(w2).cell? ⟨w.heap.size,0,none⟩=some (.int .u32 pc):=(hb2.cell (p:=⟨w.heap.size,0,none⟩) ((show w.heap.size<w1.heap.size by omega))).trans c0
  have d1:(w2).cell? ⟨w.heap.size,1,none⟩=some (.slice ao l.length cap):=(hb2.cell (p:=⟨w.heap.size,1,none⟩) ((show w.heap.size<w1.heap.size by omega))).trans c1
  have HB2:Hid (Below w.heap.size w w2):=lI (HB1.out.trans (hb2.mono om))
  have HBL2:Hid (w2.heap[w.heap.size]? =some (.cells #[.int .u32 pc,.slice ao l.length cap] 65 (0,0))):=lI ((hb2.block _ om).trans HBLK.out)
  have HW2:=lI hw2
  clear hw2 hb2
  go_enter Tryz.func41,Tryz.ntmps41
  go_upto_region 1 with(fail)
  rw[←HW1.out]
  go_upto_region 4 with(fail)
  rw[←HW2.out]
  clear c0 c1
  go_wp2_with fail
  go_loopw [17] (fun i wr=>∃k:Nat,i=.int .i64 k∧k≤l.length∧Hid ((l.take k).all isS=true∧MkW (w.heap.size+1) 144 wr (rowM pc 0 (l.take k))∧Below w.heap.size w wr∧At wr w.heap.size 0 [.int .u32 pc,.slice ao l.length cap]∧w.heap.size+2≤wr.heap.size)) (fun i _=>l.length-(intOf i).toNat)
  case atStart=>exact⟨0,rfl,om,lI ⟨rfl,HMK.out,HB2.out,qs d0 (qs d1 uY),om⟩⟩
  case round=>
    obtain⟨k,rfl,hk,HR⟩:=hrel
    by_cases hlt:k<l.length
    · obtain⟨b,off,rfl,hbl,hel⟩:=HO.out zR
      have hat:=(hel k hlt).of_lt HR.out.2.2.1 hbl
      have HIM:=lI (HI.out l[k] (sU hlt))
      have HSN:=lI (rowM_snoc pc l hlt)
      have HAL:Hid ((l.take (k+1)).all isS=((l.take k).all isS&&isS l[k])):=lI (by rw[List.take_succ_eq_append_getElem hlt,List.all_append];simp)
      have HMEM:=lI (sU hlt)
      obtain⟨i,hi⟩:∃i,i=l[k]:=⟨_,rfl⟩
      rw[←hi]at hat HIM HSN HAL HMEM
      clear hi hel
      obtain⟨op,rd,rs1,rs2,imm⟩:=i
      have e0:=hat.get (j:=0) (v:=.int .i64 op) rfl
      have e1:=hat.get (j:=1) (v:=.int .i64 rd) rfl
      have e2:=hat.get (j:=2) (v:=.int .i64 rs1) rfl
      have e3:=hat.get (j:=3) (v:=.int .i64 rs2) rfl
      have e4:=hat.get (j:=4) (v:=.int .i32 imm) rfl
      simp only[sN]at e0 e1 e2 e3 e4
      have i0:(0:Int)≤(k:Int):=om
      have i1:(k:Int)<(l.length:Int):=om
      obtain⟨w3,hw3⟩:∃w3,w3=wr.alloc (.cells #[.int .i64 op,.int .i64 rd,.int .i64 rs1,.int .i64 rs2,.int .i32 imm] 82):=⟨_,rfl⟩
      have hb3:Below wr.heap.size wr w3:=by rw[hw3];exact Fb.blw
      have hs3:wr.heap.size<w3.heap.size:=by rw[hw3];simp
      have g0:(w3).cell? ⟨wr.heap.size,0,none⟩=some (.int .i64 op):=xD
      have g1:(w3).cell? ⟨wr.heap.size,1,none⟩=some (.int .i64 rd):=xD
      have g2:(w3).cell? ⟨wr.heap.size,2,none⟩=some (.int .i64 rs1):=xD
      have g3:(w3).cell? ⟨wr.heap.size,3,none⟩=some (.int .i64 rs2):=xD
      have g4:(w3).cell? ⟨wr.heap.size,4,none⟩=some (.int .i32 imm):=xD
      have HG:Hid (∀W,Below w3.heap.size w3 W→At W wr.heap.size 0 (jO ⟨op,rd,rs1,rs2,imm⟩)∧At W w.heap.size 0 [.int .u32 pc,.slice (some ⟨b,off,none⟩) l.length cap]):=lI (fun W hW=>⟨(qs g0 (qs g1 (qs g2 (qs g3 (qs g4 uY))))).below hW,(HR.out.2.2.2.1.below hb3).below hW⟩)
      have HMK3:=lI (HR.out.2.1.below hb3)
      have hwr:=HR.out.2.2.2.2
      have HB3:=lI (HR.out.2.2.1.trans (hb3.mono om))
      have HALL:=lI HR.out.1
      have HEN:=lI (encode_any ⟨op,rd,rs1,rs2,imm⟩ w3 HIM.out)
      have HW3:=lI hw3
      clear hat hw3 hb3 HR
      go_upto_region 7 with(fail)
      rw[←HW3.out]
      clear e0 e1 e2 e3 e4
      go_wp2_with fail
      refine HEN.out.mono ?_
      rintro e w4 ⟨rfl,hb4⟩
      have hs4:=hb4.size
      have HG4:=lI (HG.out w4 hb4)
      have HMK4:=lI (HMK3.out.below hb4)
      have HB4:=lI (HB3.out.trans (hb4.mono om))
      clear hb4 g0 g1 g2 g3 g4
      cases hs:isS ⟨op,rd,rs1,rs2,imm⟩with
      | false =>
        have hM:mkM pc l=[]:=by
          unfold mkM
          rw[if_pos (.inr (List.all_eq_false.2 ⟨_,HMEM.out,by rw[hs];simp⟩))]
        have HM:=lI hM
        clear hM
        rw[if_neg zG,if_neg zG]
        clear hs
        go_wp2_with fail
        go_ret
        rw[HM.out]
        exact⟨⟨_,rfl,Sl.nil _ _,(by intro q hq;cases hq)⟩,HB4.out⟩
      | true =>
        rw[if_pos rfl,if_pos rfl]
        have hln:=rowM_len pc (l.take k) 0
        have hlt2:(l.take k).length=k:=by rw[List.length_take];omega
        have HINS:=lI (ins_any (w.heap.size+1) (rowM pc 0 (l.take k)) ⟨op,rd,rs1,rs2,imm⟩ (Fb.u32 (pc+Fb.u32 (4*(k:Int)))) w4 HMK4.out om hs)
        have HA2:Hid ((l.take (k+1)).all isS=true):=lI (by rw[HAL.out,HALL.out,hs];rfl)
        obtain⟨pq,hpq⟩:∃pq,pq=Fb.u32 (pc+Fb.u32 (4*(k:Int))):=⟨_,rfl⟩
        have HPQ:Hid ((pc+4*(k:Int))%4294967296=pq):=lI (by rw[hpq];unfold Fb.u32;omega)
        have hkc:(k:Int)%4294967296=(k:Int):=om
        rw[←hpq]at HINS HSN
        clear hs hln hlt2 hpq
        have g0:=HG4.out.1.get (j:=0) (v:=.int .i64 op) rfl
        have g1:=HG4.out.1.get (j:=1) (v:=.int .i64 rd) rfl
        have g2:=HG4.out.1.get (j:=2) (v:=.int .i64 rs1) rfl
        have g3:=HG4.out.1.get (j:=3) (v:=.int .i64 rs2) rfl
        have g4:=HG4.out.1.get (j:=4) (v:=.int .i32 imm) rfl
        have q0:=HG4.out.2.get (j:=0) rfl
        simp only[sN,sM]at g0 g1 g2 g3 g4 q0
        go_wp2_with fail
        rw[HPQ.out]
        refine HINS.out.mono ?_
        rintro e w5 ⟨rfl,hk5,hg5⟩
        have hb5:Below (w.heap.size+1) w4 w5:=hg5.below om
        have HR5:Hid ((l.take (k+1)).all isS=true∧MkW (w.heap.size+1) 144 w5 (rowM pc 0 (l.take (k+1)))∧Below w.heap.size w w5∧At w5 w.heap.size 0 [.int .u32 pc,.slice (some ⟨b,off,none⟩) l.length cap]∧w.heap.size+2≤w5.heap.size):=lI ⟨HA2.out,by rw[HSN.out];exact hk5,HB4.out.trans (hb5.mono om),HG4.out.2.of_lt hb5 om,by have:=hb5.size;omega⟩
        clear hk5 hg5 hb5 g0 g1 g2 g3 g4 q0
        go_wp2_with fail
        go_roundw
        case rel=>exact⟨k+1,by simp,om,HR5⟩
        case measure=>simp[intOf];omega
    · obtain rfl:k=l.length:=om
      have k2:¬((l.length:Int)<(l.length:Int)):=om
      obtain⟨hall,⟨v,m0,m1,m2⟩,hbw,-,-⟩:=HR.out
      rw[List.take_length]at hall m2
      have hM:mkM pc l=rowM pc 0 l:=by unfold mkM;rw[if_neg (by rw[hall];simp;omega)]
      have HM:=lI hM
      have HBW:=lI hbw
      have HSL:=lI (Qs m2)
      have HOT:=lI (fun q (e:v.ownBlock=some q)=>((⟨by have:=(m2.lt q e).1;omega,(m2.lt q e).2,(by
        rcases m2.2 with⟨h0,_⟩|⟨g1,_,c1,h0,_,q1,_⟩
        · rw[h0]at e;cases e
        · rw[h0]at e;cases e;exact⟨_,_,q1⟩)⟩:w.heap.size≤q∧q<wr.heap.size∧∃cs f,wr.heap[q]? =some (.cells cs 144 f))))
      obtain⟨a3,c3,rfl⟩:=qb m2
      clear m2 hall hbw hM
      go_wp2_with fail
      go_ret
      rw[HM.out]
      exact⟨⟨_,rfl,HSL.out,fun q hq=>by
        obtain⟨h1,h2,cs,f,h3⟩:=HOT.out q hq
        first
          |exact⟨h1,h2,cs,f,h3⟩
          |exact⟨h1,h2,cs,f.1,f.2,h3⟩⟩,HBW.out⟩
theorem info_bytes:(Tryz.prog.info? 5).map (fun i=>(i.zero,i.size,i.bytes))=some (some (.int .u8 0),1,1):=by kernel_rfl
theorem clone_bytes(v:Value)(n:Nat)(xs:List Value)(w:World)(hv:Sl w v 1 n xs)(h1c:∀u∈xs,u.oneCell'=true)(hr:n*1≤140737488355328):
    Calls Tryz.prog 21 #[v] w fun e w'=>(∃v',e=.returned v'∧w'.ownsRow w.heap.size 5 1 v' n xs∧(v'=.slice none 0 0→v=.slice none 0 0))∧Below w.heap.size w w':=by
  obtain⟨hlen,ao,cap,rfl,hnc,hcm,hnone,hat⟩:=hv
  have heq:=fun(W:World) (m c:Nat)=>Lib.run_eql_slice_nil (P:=Tryz.prog) W 22 5 ao m c 0 0 Tryz.underlying22
  unfold maxLen at hcm
  cases ao with
  | none =>
    obtain rfl:cap=0:=hnone rfl
    obtain rfl:n=0:=om
    obtain rfl:xs=[]:=List.eq_nil_of_length_eq_zero (by simpa using hlen)
    clear hnone hat
    go_enter Tryz.func21,Tryz.ntmps21
    go_wp2
    go_ret
    exact⟨⟨_,rfl,World.ownsRow_nil _ _ _ _,by simp⟩,Below.refl _ _⟩
  | some a =>
    obtain⟨i0,hi,hz0,hz1,hz2⟩:=info_parts info_bytes
    clear hnone
    have HAT:=lI hat
    have HL:=lI hlen
    have HC:=lI h1c
    clear hat hlen h1c
    go_enter Tryz.func21,Tryz.ntmps21
    go_wp2_with (at_builtin;refine wpList_append_own _ rfl _ _ 22 rfl w.heap.size 5 i0 (.int .u8 0) 1 1 Tryz.underlying22 hi hz0 hz1 hz2 rfl zL _ 0 [] rfl ?_ a n cap xs rfl HL.out ?_ HC.out ?_ ?_ ?_ ?_)
    rotate_right
    · intro v' w1 hown hgrow hnil
      go_wp2
      go_ret
      refine⟨⟨_,rfl, ?_, ?_⟩, ?_⟩
      · simpa using hown
      · intro h
        exact(hnil h).elim
      · exact(Below.alloc br (sO _) _).grown hgrow zG xE
    all_goals(first|(unfold maxLen;omega)|omega|(simp;done)|skip)
    · exact jm _ _ _ _ (sO _)
    · intro j u hu
      have hj:j<xs.length:=(List.getElem?_eq_some_iff.1 hu).1
      have hne:xs≠[]:=xY
      have h3:=(HAT.out a rfl hne)
      have h4:=h3.2 j hj
      have hu2:u=xs[j]:=by rw[sZ hj]at hu;exact(Option.some.inj hu).symm
      rw[hu2,JJ a h3.1,sI _ _ _ (qH h4)]
      exact h4
end Go.Proofs.YtlfnddmncbkjaacGreat.W
