import Derived.Test.YtlfnddmncbkjaabGreatDoorZGD
import Derived.Test.YtlfnddmncbkjaabGreatDoorZWAsm4
set_option linter.unusedVariables false
set_option linter.unusedSimpArgs false
set_option maxRecDepth 100000
set_option maxHeartbeats 4000000
namespace Go.Proofs.YtlfnddmncbkjaabGreatDoor.W
open Go.RowKit Fb
theorem cT{p:Prop}(h:p:=by
 refine(jR w2 _ _ c ?hb ?he HUC.out).mono ?_
 case hb=>first|exact Below.refl _ _|exact qB br _|exact qB (qB br _) _
 case he=>first|exact HC.out|(rw[←HC.out];rfl)|(rw[←HC.out,QV _ HN.out];rfl)|(rw[←HC.out];simp[encK,Qy,orw])
 rintro e w3 ⟨rfl,hb3⟩
 have g0:=(hb3.cell (p:=⟨w.heap.size,0,none⟩) HLT.out).trans k0
 have g1:=(hb3.cell (p:=⟨w.heap.size,1,none⟩) HLT.out).trans k1
 have g2:=(hb3.cell (p:=⟨w.heap.size,2,none⟩) HLT.out).trans k2
 have g3:=(hb3.cell (p:=⟨w.heap.size,3,none⟩) HLT.out).trans k3
 have g4:=(hb3.cell (p:=⟨w.heap.size,4,none⟩) HLT.out).trans k4
 have hb4:Below w.heap.size w w3:=HB2.out.trans (hb3.mono (Nat.le_of_lt HLT.out))
 have hlt3:w.heap.size<w3.heap.size:=Nat.lt_of_lt_of_le HLT.out hb3.size
 clear k0 k1 k2 k3 k4 n0 n1 n2 n3 hb3
 obtain⟨j,hj⟩:∃j,j=(dec c).getD i0:=⟨_,rfl⟩
 have HJ:Hid (rc=(if((dec c).isSome&&decide (j=⟨op,rd,rs1,rs2,imm⟩))=true then c else 0)∧re=(if((dec c).isSome&&decide (j=⟨op,rd,rs1,rs2,imm⟩))=true then 0 else 2)):=lI (by
   rw[HR.out.1,HR.out.2]
   subst hj
   cases dec c with
   |none=>simp
   |some x=>simp)
 rw[←hj]
 clear hj HR HUC
 generalize (dec c).isSome=ok at *
 obtain⟨q1,q2,q3,q4,q5⟩:=j
 simp only[qr]
 obtain⟨w4,hw4⟩:∃w4,w4=w3.alloc (.cells #[.int .i64 q1,.int .i64 q2,.int .i64 q3,.int .i64 q4,.int .i32 q5] 91):=⟨_,rfl⟩
 have p0:w4.cell? ⟨w.heap.size,0,none⟩=some (.int .i64 op):=by rw[hw4];exact(sI w3 _ _ hlt3).trans g0
 have p1:w4.cell? ⟨w.heap.size,1,none⟩=some (.int .i64 rd):=by rw[hw4];exact(sI w3 _ _ hlt3).trans g1
 have p2:w4.cell? ⟨w.heap.size,2,none⟩=some (.int .i64 rs1):=by rw[hw4];exact(sI w3 _ _ hlt3).trans g2
 have p3:w4.cell? ⟨w.heap.size,3,none⟩=some (.int .i64 rs2):=by rw[hw4];exact(sI w3 _ _ hlt3).trans g3
 have p4:w4.cell? ⟨w.heap.size,4,none⟩=some (.int .i32 imm):=by rw[hw4];exact(sI w3 _ _ hlt3).trans g4
 have r0:w4.cell? ⟨w3.heap.size,0,none⟩=some (.int .i64 q1):=zJ
 have r1:w4.cell? ⟨w3.heap.size,1,none⟩=some (.int .i64 q2):=zJ
 have r2:w4.cell? ⟨w3.heap.size,2,none⟩=some (.int .i64 q3):=zJ
 have r3:w4.cell? ⟨w3.heap.size,3,none⟩=some (.int .i64 q4):=zJ
 have r4:w4.cell? ⟨w3.heap.size,4,none⟩=some (.int .i32 q5):=zJ
 have hb5:Below w.heap.size w w4:=zP
 have hg:Tryz.prog.eqGuardType Tryz.prog.depth 91=false:=zE
 have HW4:=lI hw4
 clear hw4 g0 g1 g2 g3 g4 hb4 hlt3
 go_upto_region 31 with(fail)
 rw[←HW4.out]
 cases ok with
 | false =>
   go_wp2_with fail
   go_ret2
   exact⟨by rw[HJ.out.1,HJ.out.2];rfl,hb5⟩
 | true =>
   go_wp2_with fail
   all_goals go_ret2
   all_goals refine⟨?_,hb5⟩
   all_goals clear p0 p1 p2 p3 p4 r0 r1 r2 r3 r4 hb5 hg ix0 ix1 ix2 HW4 HW2 HB2 HLT
   all_goals first
     | (have e1 : rc = c := by rw [HJ.out.1, if_pos zY]
        have e2:re=0:=yI
        rw[e1,e2,←HC.out]
        first|rfl|(rw[QV _ HN.out];rfl)|(simp[encK,Qy,orw];done))
     | (have e1 : rc = 0 := by rw [HJ.out.1, if_neg zY]
        have e2:re=2:=yJ
        rw[e1,e2]
        rfl)):p:=h
theorem cU{p:Prop}(h:p:=by
 have n1:w2.cell? ⟨w1.heap.size,1,none⟩=some (.int .u32 l):=zM
 have n2:w2.cell? ⟨w1.heap.size,2,none⟩=some (.int .u32 m):=zM
 have n3:w2.cell? ⟨w1.heap.size,3,none⟩=some (.int .u32 u):=zM
 have hb2:Below w.heap.size w w2:=zH
 have hlt2:w.heap.size<w2.heap.size:=yW
 have HB2:=lI hb2
 have HLT:=lI hlt2
 have HW2:=lI hw2
 clear hblk hb1 hlt1 hb2 hlt2 hw2 HOF
 go_upto_region 2 with(fail)
 rw[←HW2.out]
 go_wp2_with fail
 (refine wp_loop_rounds 4 ?_;repeat any_goals(rw[rounds_succ];go_wp2_with (go_at_call 57;first|((with_reducible refine(JS _ _ HN.out).mono ?_);rintro e w' ⟨rfl,nn,rfl⟩)|((with_reducible refine(JT _ _ HN.out).mono ?_);rintro e w' ⟨rfl,nn,rfl⟩)|((with_reducible refine(Ji _ _ HN.out).mono ?_);rintro e w' ⟨rfl,nn,rfl⟩)|((with_reducible refine(ut _ _ HN.out).mono ?_);rintro e w' ⟨rfl,nn,rfl⟩)|((with_reducible refine(uu _ _ HN.out).mono ?_);rintro e w' ⟨rfl,nn,rfl⟩)|((with_reducible refine(UY _ _ HN.out).mono ?_);rintro e w' ⟨rfl,nn,rfl⟩)|((with_reducible refine(Jh _ _ HN.out).mono ?_);rintro e w' ⟨rfl,nn,rfl⟩)|((with_reducible refine(ur _ _ HN.out).mono ?_);rintro e w' ⟨rfl,nn,rfl⟩)|((with_reducible refine(cut_1_4 _ _ HN.out).mono ?_);rintro e w' ⟨rfl,nn,rfl⟩)|((with_reducible refine(uq _ _ HN.out).mono ?_);rintro e w' ⟨rfl,nn,rfl⟩)|((with_reducible refine(UZ _ _ HN.out).mono ?_);rintro e w' ⟨rfl,nn,rfl⟩))))
 exact cT):p:=h
theorem cV{p:Prop}(h:p:=by
 have n1:w2.cell? ⟨w1.heap.size,1,none⟩=some (.int .u32 l):=zM
 have n2:w2.cell? ⟨w1.heap.size,2,none⟩=some (.int .u32 m):=zM
 have n3:w2.cell? ⟨w1.heap.size,3,none⟩=some (.int .u32 u):=zM
 have hb2:Below w.heap.size w w2:=zH
 have hlt2:w.heap.size<w2.heap.size:=yW
 have HB2:=lI hb2
 have HLT:=lI hlt2
 have HW2:=lI hw2
 clear hblk hb1 hlt1 hb2 hlt2 hw2 HOF
 go_upto_region 2 with(fail)
 rw[←HW2.out]
 go_wp2_with fail
 (refine wp_loop_rounds 4 ?_;repeat any_goals(rw[rounds_succ];go_wp2_with (fail)))
 exact cT):p:=h
theorem JC:(∀(op l m u rd rs1 rs2 imm c:Int) (w:World) (hop:1≤op∧op≤59) (hrd:0≤rd∧rd<32) (hr1:0≤rs1∧rs1<32) (hr2:0≤rs2∧rs2<32) (hl:0≤l∧l<128) (hm:0≤m∧m<8) (hup:0≤u∧u<32+1) (HK:Hid (qC op=⟨3,l,m,u⟩)) (HC:Hid (encK ⟨3,l,m,u⟩ rd rs1 rs2 (imm%4294967296)=c)),Calls Tryz.prog 60 #[.agg #[.int .i64 op,.int .i64 rd,.int .i64 rs1,.int .i64 rs2,.int .i32 imm]] w fun e w'=>e=.returned (.tuple #[.int .u32 (if dec c=some ⟨op,rd,rs1,rs2,imm⟩then c else 0),.int .i64 (if dec c=some ⟨op,rd,rs1,rs2,imm⟩then 0 else 2)])∧Below w.heap.size w w')∧(∀(op l m u rd rs1 rs2 imm c:Int) (w:World) (hop:1≤op∧op≤59) (hrd:0≤rd∧rd<32) (hr1:0≤rs1∧rs1<32) (hr2:0≤rs2∧rs2<32) (hl:0≤l∧l<128) (hm:0≤m∧m<8) (hup:0≤u∧u<32+1) (HK:Hid (qC op=⟨4,l,m,u⟩)) (HC:Hid (encK ⟨4,l,m,u⟩ rd rs1 rs2 (imm%4294967296)=c)),Calls Tryz.prog 60 #[.agg #[.int .i64 op,.int .i64 rd,.int .i64 rs1,.int .i64 rs2,.int .i32 imm]] w fun e w'=>e=.returned (.tuple #[.int .u32 (if dec c=some ⟨op,rd,rs1,rs2,imm⟩then c else 0),.int .i64 (if dec c=some ⟨op,rd,rs1,rs2,imm⟩then 0 else 2)])∧Below w.heap.size w w')∧(∀(op l m u rd rs1 rs2 imm c:Int) (w:World) (hop:1≤op∧op≤59) (hrd:0≤rd∧rd<32) (hr1:0≤rs1∧rs1<32) (hr2:0≤rs2∧rs2<32) (hl:0≤l∧l<128) (hm:0≤m∧m<8) (hup:0≤u∧u<32+1) (HK:Hid (qC op=⟨5,l,m,u⟩)) (HC:Hid (encK ⟨5,l,m,u⟩ rd rs1 rs2 (imm%4294967296)=c)),Calls Tryz.prog 60 #[.agg #[.int .i64 op,.int .i64 rd,.int .i64 rs1,.int .i64 rs2,.int .i32 imm]] w fun e w'=>e=.returned (.tuple #[.int .u32 (if dec c=some ⟨op,rd,rs1,rs2,imm⟩then c else 0),.int .i64 (if dec c=some ⟨op,rd,rs1,rs2,imm⟩then 0 else 2)])∧Below w.heap.size w w')∧(∀(op l m u rd rs1 rs2 imm c:Int) (w:World) (hop:1≤op∧op≤59) (hrd:0≤rd∧rd<32) (hr1:0≤rs1∧rs1<32) (hr2:0≤rs2∧rs2<32) (hl:0≤l∧l<128) (hm:0≤m∧m<8) (hup:0≤u∧u<32+1) (HK:Hid (qC op=⟨6,l,m,u⟩)) (HC:Hid (encK ⟨6,l,m,u⟩ rd rs1 rs2 (imm%4294967296)=c)),Calls Tryz.prog 60 #[.agg #[.int .i64 op,.int .i64 rd,.int .i64 rs1,.int .i64 rs2,.int .i32 imm]] w fun e w'=>e=.returned (.tuple #[.int .u32 (if dec c=some ⟨op,rd,rs1,rs2,imm⟩then c else 0),.int .i64 (if dec c=some ⟨op,rd,rs1,rs2,imm⟩then 0 else 2)])∧Below w.heap.size w w')∧(∀(op l m u rd rs1 rs2 imm c:Int) (w:World) (hop:1≤op∧op≤59) (hrd:0≤rd∧rd<32) (hr1:0≤rs1∧rs1<32) (hr2:0≤rs2∧rs2<32) (hl:0≤l∧l<128) (hm:0≤m∧m<8) (hup:0≤u∧u<32+1) (HK:Hid (qC op=⟨8,l,m,u⟩)) (HC:Hid (encK ⟨8,l,m,u⟩ rd rs1 rs2 (imm%4294967296)=c)),Calls Tryz.prog 60 #[.agg #[.int .i64 op,.int .i64 rd,.int .i64 rs1,.int .i64 rs2,.int .i32 imm]] w fun e w'=>e=.returned (.tuple #[.int .u32 (if dec c=some ⟨op,rd,rs1,rs2,imm⟩then c else 0),.int .i64 (if dec c=some ⟨op,rd,rs1,rs2,imm⟩then 0 else 2)])∧Below w.heap.size w w')∧(∀(op l m u rd rs1 rs2 imm c:Int) (w:World) (hop:1≤op∧op≤59) (hrd:0≤rd∧rd<32) (hr1:0≤rs1∧rs1<32) (hr2:0≤rs2∧rs2<32) (hl:0≤l∧l<128) (hm:0≤m∧m<8) (hup:0≤u∧u<32) (HK:Hid (qC op=⟨7,l,m,u⟩)) (HC:Hid (encK ⟨7,l,m,u⟩ rd rs1 rs2 (imm%4294967296)=c)),Calls Tryz.prog 60 #[.agg #[.int .i64 op,.int .i64 rd,.int .i64 rs1,.int .i64 rs2,.int .i32 imm]] w fun e w'=>e=.returned (.tuple #[.int .u32 (if dec c=some ⟨op,rd,rs1,rs2,imm⟩then c else 0),.int .i64 (if dec c=some ⟨op,rd,rs1,rs2,imm⟩then 0 else 2)])∧Below w.heap.size w w'):=by
 refine⟨fun op l m u rd rs1 rs2 imm c w hop hrd hr1 hr2 hl hm hup HK HC=> ?_,fun op l m u rd rs1 rs2 imm c w hop hrd hr1 hr2 hl hm hup HK HC=> ?_,fun op l m u rd rs1 rs2 imm c w hop hrd hr1 hr2 hl hm hup HK HC=> ?_,fun op l m u rd rs1 rs2 imm c w hop hrd hr1 hr2 hl hm hup HK HC=> ?_,fun op l m u rd rs1 rs2 imm c w hop hrd hr1 hr2 hl hm hup HK HC=> ?_,fun op l m u rd rs1 rs2 imm c w hop hrd hr1 hr2 hl hm hup HK HC=> ?_⟩
 all_goals
  obtain⟨rc,hrc⟩:∃x,x=(if dec c=some ⟨op,rd,rs1,rs2,imm⟩then c else 0):=⟨_,rfl⟩
  obtain⟨re,hre⟩:∃x:Int,x=(if dec c=some ⟨op,rd,rs1,rs2,imm⟩then 0 else 2):=⟨_,rfl⟩
  rw[←hrc,←hre]
  have HR:=lI (And.intro hrc hre)
  clear hrc hre
  have HUC:Hid (U32 c):=lI yF
  have HN:Hid (U32 (imm%4294967296)):=lI (QE _)
  have HOF:=lI (fun W=>of_any op W)
  rw[HK.out]at HOF
  rw[show qy op=true from by unfold qy;simp;omega]at HOF
  simp only[qW]at HOF
  obtain⟨d0,d1⟩:=hrd
  obtain⟨a0,a1⟩:=hr1
  obtain⟨b0,b1⟩:=hr2
  obtain⟨l0,l1⟩:=hl
  obtain⟨m0,m1⟩:=hm
  obtain⟨u0,u1⟩:=hup
  clear hop
  have ix0:∀W,(Instr.index 180 (.agg #[.int .i64 rd,.int .i64 rs1,.int .i64 rs2]) (.int .i64 0)).run Tryz.prog W=.ok (.int .i64 rd) W:=fun _=>by kernel_rfl
  have ix1:∀W,(Instr.index 180 (.agg #[.int .i64 rd,.int .i64 rs1,.int .i64 rs2]) (.int .i64 1)).run Tryz.prog W=.ok (.int .i64 rs1) W:=fun _=>by kernel_rfl
  have ix2:∀W,(Instr.index 180 (.agg #[.int .i64 rd,.int .i64 rs1,.int .i64 rs2]) (.int .i64 2)).run Tryz.prog W=.ok (.int .i64 rs2) W:=fun _=>by kernel_rfl
  go_enter Tryz.func60,Tryz.ntmps60
  go_wp2_with fail
 · refine(HOF.out _).mono ?_
   rintro e w1 ⟨rfl,hb1⟩
   have hblk:=(hb1.block w.heap.size zC).trans (sP w (.cells #[.int .i64 op,.int .i64 rd,.int .i64 rs1,.int .i64 rs2,.int .i32 imm] 91))
   have hlt1:w.heap.size<w1.heap.size:=yB
   obtain⟨w2,hw2⟩:∃w2,w2=w1.alloc (.cells #[.int .i64 3,.int .u32 l,.int .u32 m,.int .u32 u] 123):=⟨_,rfl⟩
   have k0:w2.cell? ⟨w.heap.size,0,none⟩=some (.int .i64 op):=by rw[hw2];exact(sI w1 _ _ hlt1).trans (qM hblk rfl)
   have k1:w2.cell? ⟨w.heap.size,1,none⟩=some (.int .i64 rd):=by rw[hw2];exact(sI w1 _ _ hlt1).trans (qM hblk rfl)
   have k2:w2.cell? ⟨w.heap.size,2,none⟩=some (.int .i64 rs1):=by rw[hw2];exact(sI w1 _ _ hlt1).trans (qM hblk rfl)
   have k3:w2.cell? ⟨w.heap.size,3,none⟩=some (.int .i64 rs2):=by rw[hw2];exact(sI w1 _ _ hlt1).trans (qM hblk rfl)
   have k4:w2.cell? ⟨w.heap.size,4,none⟩=some (.int .i32 imm):=by rw[hw2];exact(sI w1 _ _ hlt1).trans (qM hblk rfl)
   have n0:w2.cell? ⟨w1.heap.size,0,none⟩=some (.int .i64 3):=zM
   have n1:w2.cell? ⟨w1.heap.size,1,none⟩=some (.int .u32 l):=zM
   have n2:w2.cell? ⟨w1.heap.size,2,none⟩=some (.int .u32 m):=zM
   have n3:w2.cell? ⟨w1.heap.size,3,none⟩=some (.int .u32 u):=zM
   have hb2:Below w.heap.size w w2:=zH
   have hlt2:w.heap.size<w2.heap.size:=yW
   have HB2:=lI hb2
   have HLT:=lI hlt2
   have HW2:=lI hw2
   clear hblk hb1 hlt1 hb2 hlt2 hw2 HOF
   go_upto_region 2 with(fail)
   rw[←HW2.out]
   go_wp2_with fail
   (refine wp_loop_rounds 4 ?_;repeat any_goals(rw[rounds_succ];go_wp2_with (go_at_call 57;first|((with_reducible refine(JS _ _ HN.out).mono ?_);rintro e w' ⟨rfl,nn,rfl⟩)|((with_reducible refine(JT _ _ HN.out).mono ?_);rintro e w' ⟨rfl,nn,rfl⟩)|((with_reducible refine(Ji _ _ HN.out).mono ?_);rintro e w' ⟨rfl,nn,rfl⟩)|((with_reducible refine(ut _ _ HN.out).mono ?_);rintro e w' ⟨rfl,nn,rfl⟩)|((with_reducible refine(uu _ _ HN.out).mono ?_);rintro e w' ⟨rfl,nn,rfl⟩)|((with_reducible refine(UY _ _ HN.out).mono ?_);rintro e w' ⟨rfl,nn,rfl⟩)|((with_reducible refine(Jh _ _ HN.out).mono ?_);rintro e w' ⟨rfl,nn,rfl⟩)|((with_reducible refine(ur _ _ HN.out).mono ?_);rintro e w' ⟨rfl,nn,rfl⟩)|((with_reducible refine(cut_1_4 _ _ HN.out).mono ?_);rintro e w' ⟨rfl,nn,rfl⟩)|((with_reducible refine(uq _ _ HN.out).mono ?_);rintro e w' ⟨rfl,nn,rfl⟩)|((with_reducible refine(UZ _ _ HN.out).mono ?_);rintro e w' ⟨rfl,nn,rfl⟩))))
   go_quiet (with_reducible refine Calls.quiet_of (UY _ _ HN.out))
   go_wp2_with fail
   exact cT
 · refine(HOF.out _).mono ?_
   rintro e w1 ⟨rfl,hb1⟩
   have hblk:=(hb1.block w.heap.size zC).trans (sP w (.cells #[.int .i64 op,.int .i64 rd,.int .i64 rs1,.int .i64 rs2,.int .i32 imm] 91))
   have hlt1:w.heap.size<w1.heap.size:=yB
   obtain⟨w2,hw2⟩:∃w2,w2=w1.alloc (.cells #[.int .i64 4,.int .u32 l,.int .u32 m,.int .u32 u] 123):=⟨_,rfl⟩
   have k0:w2.cell? ⟨w.heap.size,0,none⟩=some (.int .i64 op):=by rw[hw2];exact(sI w1 _ _ hlt1).trans (qM hblk rfl)
   have k1:w2.cell? ⟨w.heap.size,1,none⟩=some (.int .i64 rd):=by rw[hw2];exact(sI w1 _ _ hlt1).trans (qM hblk rfl)
   have k2:w2.cell? ⟨w.heap.size,2,none⟩=some (.int .i64 rs1):=by rw[hw2];exact(sI w1 _ _ hlt1).trans (qM hblk rfl)
   have k3:w2.cell? ⟨w.heap.size,3,none⟩=some (.int .i64 rs2):=by rw[hw2];exact(sI w1 _ _ hlt1).trans (qM hblk rfl)
   have k4:w2.cell? ⟨w.heap.size,4,none⟩=some (.int .i32 imm):=by rw[hw2];exact(sI w1 _ _ hlt1).trans (qM hblk rfl)
   have n0:w2.cell? ⟨w1.heap.size,0,none⟩=some (.int .i64 4):=zM
   exact cU
 · refine(HOF.out _).mono ?_
   rintro e w1 ⟨rfl,hb1⟩
   have hblk:=(hb1.block w.heap.size zC).trans (sP w (.cells #[.int .i64 op,.int .i64 rd,.int .i64 rs1,.int .i64 rs2,.int .i32 imm] 91))
   have hlt1:w.heap.size<w1.heap.size:=yB
   obtain⟨w2,hw2⟩:∃w2,w2=w1.alloc (.cells #[.int .i64 5,.int .u32 l,.int .u32 m,.int .u32 u] 123):=⟨_,rfl⟩
   have k0:w2.cell? ⟨w.heap.size,0,none⟩=some (.int .i64 op):=by rw[hw2];exact(sI w1 _ _ hlt1).trans (qM hblk rfl)
   have k1:w2.cell? ⟨w.heap.size,1,none⟩=some (.int .i64 rd):=by rw[hw2];exact(sI w1 _ _ hlt1).trans (qM hblk rfl)
   have k2:w2.cell? ⟨w.heap.size,2,none⟩=some (.int .i64 rs1):=by rw[hw2];exact(sI w1 _ _ hlt1).trans (qM hblk rfl)
   have k3:w2.cell? ⟨w.heap.size,3,none⟩=some (.int .i64 rs2):=by rw[hw2];exact(sI w1 _ _ hlt1).trans (qM hblk rfl)
   have k4:w2.cell? ⟨w.heap.size,4,none⟩=some (.int .i32 imm):=by rw[hw2];exact(sI w1 _ _ hlt1).trans (qM hblk rfl)
   have n0:w2.cell? ⟨w1.heap.size,0,none⟩=some (.int .i64 5):=zM
   exact cU
 · refine(HOF.out _).mono ?_
   rintro e w1 ⟨rfl,hb1⟩
   have hblk:=(hb1.block w.heap.size zC).trans (sP w (.cells #[.int .i64 op,.int .i64 rd,.int .i64 rs1,.int .i64 rs2,.int .i32 imm] 91))
   have hlt1:w.heap.size<w1.heap.size:=yB
   obtain⟨w2,hw2⟩:∃w2,w2=w1.alloc (.cells #[.int .i64 6,.int .u32 l,.int .u32 m,.int .u32 u] 123):=⟨_,rfl⟩
   have k0:w2.cell? ⟨w.heap.size,0,none⟩=some (.int .i64 op):=by rw[hw2];exact(sI w1 _ _ hlt1).trans (qM hblk rfl)
   have k1:w2.cell? ⟨w.heap.size,1,none⟩=some (.int .i64 rd):=by rw[hw2];exact(sI w1 _ _ hlt1).trans (qM hblk rfl)
   have k2:w2.cell? ⟨w.heap.size,2,none⟩=some (.int .i64 rs1):=by rw[hw2];exact(sI w1 _ _ hlt1).trans (qM hblk rfl)
   have k3:w2.cell? ⟨w.heap.size,3,none⟩=some (.int .i64 rs2):=by rw[hw2];exact(sI w1 _ _ hlt1).trans (qM hblk rfl)
   have k4:w2.cell? ⟨w.heap.size,4,none⟩=some (.int .i32 imm):=by rw[hw2];exact(sI w1 _ _ hlt1).trans (qM hblk rfl)
   have n0:w2.cell? ⟨w1.heap.size,0,none⟩=some (.int .i64 6):=zM
   exact cV
 · refine(HOF.out _).mono ?_
   rintro e w1 ⟨rfl,hb1⟩
   have hblk:=(hb1.block w.heap.size zC).trans (sP w (.cells #[.int .i64 op,.int .i64 rd,.int .i64 rs1,.int .i64 rs2,.int .i32 imm] 91))
   have hlt1:w.heap.size<w1.heap.size:=yB
   obtain⟨w2,hw2⟩:∃w2,w2=w1.alloc (.cells #[.int .i64 8,.int .u32 l,.int .u32 m,.int .u32 u] 123):=⟨_,rfl⟩
   have k0:w2.cell? ⟨w.heap.size,0,none⟩=some (.int .i64 op):=by rw[hw2];exact(sI w1 _ _ hlt1).trans (qM hblk rfl)
   have k1:w2.cell? ⟨w.heap.size,1,none⟩=some (.int .i64 rd):=by rw[hw2];exact(sI w1 _ _ hlt1).trans (qM hblk rfl)
   have k2:w2.cell? ⟨w.heap.size,2,none⟩=some (.int .i64 rs1):=by rw[hw2];exact(sI w1 _ _ hlt1).trans (qM hblk rfl)
   have k3:w2.cell? ⟨w.heap.size,3,none⟩=some (.int .i64 rs2):=by rw[hw2];exact(sI w1 _ _ hlt1).trans (qM hblk rfl)
   have k4:w2.cell? ⟨w.heap.size,4,none⟩=some (.int .i32 imm):=by rw[hw2];exact(sI w1 _ _ hlt1).trans (qM hblk rfl)
   have n0:w2.cell? ⟨w1.heap.size,0,none⟩=some (.int .i64 8):=zM
   exact cV
 · refine(HOF.out _).mono ?_
   rintro e w1 ⟨rfl,hb1⟩
   have hblk:=(hb1.block w.heap.size zC).trans (sP w (.cells #[.int .i64 op,.int .i64 rd,.int .i64 rs1,.int .i64 rs2,.int .i32 imm] 91))
   have hlt1:w.heap.size<w1.heap.size:=yB
   obtain⟨w2,hw2⟩:∃w2,w2=w1.alloc (.cells #[.int .i64 7,.int .u32 l,.int .u32 m,.int .u32 u] 123):=⟨_,rfl⟩
   have k0:w2.cell? ⟨w.heap.size,0,none⟩=some (.int .i64 op):=by rw[hw2];exact(sI w1 _ _ hlt1).trans (qM hblk rfl)
   have k1:w2.cell? ⟨w.heap.size,1,none⟩=some (.int .i64 rd):=by rw[hw2];exact(sI w1 _ _ hlt1).trans (qM hblk rfl)
   have k2:w2.cell? ⟨w.heap.size,2,none⟩=some (.int .i64 rs1):=by rw[hw2];exact(sI w1 _ _ hlt1).trans (qM hblk rfl)
   have k3:w2.cell? ⟨w.heap.size,3,none⟩=some (.int .i64 rs2):=by rw[hw2];exact(sI w1 _ _ hlt1).trans (qM hblk rfl)
   have k4:w2.cell? ⟨w.heap.size,4,none⟩=some (.int .i32 imm):=by rw[hw2];exact(sI w1 _ _ hlt1).trans (qM hblk rfl)
   have n0:w2.cell? ⟨w1.heap.size,0,none⟩=some (.int .i64 7):=zM
   have n1:w2.cell? ⟨w1.heap.size,1,none⟩=some (.int .u32 l):=zM
   have n2:w2.cell? ⟨w1.heap.size,2,none⟩=some (.int .u32 m):=zM
   have n3:w2.cell? ⟨w1.heap.size,3,none⟩=some (.int .u32 u):=zM
   have hb2:Below w.heap.size w w2:=zH
   have hlt2:w.heap.size<w2.heap.size:=yW
   have HB2:=lI hb2
   have HLT:=lI hlt2
   have HW2:=lI hw2
   clear hblk hb1 hlt1 hb2 hlt2 hw2 HOF
   go_upto_region 2 with(fail)
   rw[←HW2.out]
   go_wp2_with fail
   (refine wp_loop_rounds 4 ?_;repeat any_goals(rw[rounds_succ];go_wp2_with (go_at_call 57;first|((with_reducible refine(JS _ _ HN.out).mono ?_);rintro e w' ⟨rfl,nn,rfl⟩)|((with_reducible refine(JT _ _ HN.out).mono ?_);rintro e w' ⟨rfl,nn,rfl⟩)|((with_reducible refine(Ji _ _ HN.out).mono ?_);rintro e w' ⟨rfl,nn,rfl⟩)|((with_reducible refine(ut _ _ HN.out).mono ?_);rintro e w' ⟨rfl,nn,rfl⟩)|((with_reducible refine(uu _ _ HN.out).mono ?_);rintro e w' ⟨rfl,nn,rfl⟩)|((with_reducible refine(UY _ _ HN.out).mono ?_);rintro e w' ⟨rfl,nn,rfl⟩)|((with_reducible refine(Jh _ _ HN.out).mono ?_);rintro e w' ⟨rfl,nn,rfl⟩)|((with_reducible refine(ur _ _ HN.out).mono ?_);rintro e w' ⟨rfl,nn,rfl⟩)|((with_reducible refine(cut_1_4 _ _ HN.out).mono ?_);rintro e w' ⟨rfl,nn,rfl⟩)|((with_reducible refine(uq _ _ HN.out).mono ?_);rintro e w' ⟨rfl,nn,rfl⟩)|((with_reducible refine(UZ _ _ HN.out).mono ?_);rintro e w' ⟨rfl,nn,rfl⟩))))
   go_quiet (with_reducible refine Calls.quiet_of (UZ _ _ HN.out))
   go_wp2_with fail
   exact cT
abbrev encode_3:=JC.1
abbrev encode_4:=JC.2.1
abbrev encode_5:=JC.2.2.1
abbrev encode_6:=JC.2.2.2.1
abbrev encode_8:=JC.2.2.2.2.1
abbrev encode_7:=JC.2.2.2.2.2
theorem kind_bounds9(op:Int)(h:qy op=true):∃f l m u,qC op=⟨f,l,m,u⟩∧(f=0∨f=1∨f=2∨f=3∨f=4∨f=5∨f=6∨f=7∨f=8)∧(0≤l∧l<128)∧(0≤m∧m<8)∧(0≤u∧u<32+1)∧(f=7→u<32):=by
  have hb:∀k:Fin 60,qy (k.val:Int)=true→((qC (k.val:Int)).form=0∨(qC (k.val:Int)).form=1∨(qC (k.val:Int)).form=2∨(qC (k.val:Int)).form=3∨(qC (k.val:Int)).form=4∨(qC (k.val:Int)).form=5∨(qC (k.val:Int)).form=6∨(qC (k.val:Int)).form=7∨(qC (k.val:Int)).form=8)∧
      (0≤(qC (k.val:Int)).low∧(qC (k.val:Int)).low<128)∧(0≤(qC (k.val:Int)).mid∧(qC (k.val:Int)).mid<8)∧(0≤(qC (k.val:Int)).up∧(qC (k.val:Int)).up<32+1)∧((qC (k.val:Int)).form=7→(qC (k.val:Int)).up<32):=by decide+kernel
  have h1:1≤op∧op≤59:=by unfold qy at h;simpa using h
  obtain⟨k,rfl⟩:=sQ (by omega:0≤op)
  have:=hb ⟨k,om⟩ h
  exact⟨_,_,_,_,rfl,this⟩
theorem encode_any(i:InsD)(w:World)(wf:I32 i.imm):
    Calls Tryz.prog 60 #[.agg (qr i)] w fun e w'=>e=.returned (.tuple #[.int .u32 (if isS i=true then encW i else 0),.int .i64 (if isS i=true then 0 else 2)])∧Below w.heap.size w w':=by
  obtain⟨op,rd,rs1,rs2,imm⟩:=i
  have key:(dec (encW ⟨op,rd,rs1,rs2,imm⟩)=some ⟨op,rd,rs1,rs2,imm⟩)↔isS ⟨op,rd,rs1,rs2,imm⟩=true:=⟨fun h=>(dec_is _ _ h).1,fun h=>enc_dec _ h wf⟩
  by_cases h:1≤op∧op≤59∧0≤rd∧rd<32∧0≤rs1∧rs1<32∧0≤rs2∧rs2<32
  rotate_left
  · have hn:¬isS ⟨op,rd,rs1,rs2,imm⟩=true:=by
      intro hs
      have h2:=isS_known hs
      unfold qy regsOk at h2
      simp only[Bool.and_eq_true,decide_eq_true_eq]at h2
      omega
    rw[if_neg hn,if_neg hn]
    exact encode_no op rd rs1 rs2 imm w h
  obtain⟨g1,g2,g3,g4,g5,g6,g7,g8⟩:=h
  obtain⟨f,l,m,u,hk,hf,hl,hm,hu,hu7⟩:=kind_bounds9 op (by unfold qy;simp;omega)
  have hE:encW ⟨op,rd,rs1,rs2,imm⟩=encK ⟨f,l,m,u⟩ rd rs1 rs2 (imm%4294967296):=by unfold encW;rw[hk]
  simp only[←key]
  rw[hE]
  rcases hf with rfl|rfl|rfl|rfl|rfl|rfl|rfl|rfl|rfl
  · exact encode_0 op l m u rd rs1 rs2 imm _ w ⟨g1,g2⟩ ⟨g3,g4⟩ ⟨g5,g6⟩ ⟨g7,g8⟩ hl hm hu (lI hk) (lI rfl)
  · exact encode_1 op l m u rd rs1 rs2 imm _ w ⟨g1,g2⟩ ⟨g3,g4⟩ ⟨g5,g6⟩ ⟨g7,g8⟩ hl hm hu (lI hk) (lI rfl)
  · exact encode_2 op l m u rd rs1 rs2 imm _ w ⟨g1,g2⟩ ⟨g3,g4⟩ ⟨g5,g6⟩ ⟨g7,g8⟩ hl hm hu (lI hk) (lI rfl)
  · exact encode_3 op l m u rd rs1 rs2 imm _ w ⟨g1,g2⟩ ⟨g3,g4⟩ ⟨g5,g6⟩ ⟨g7,g8⟩ hl hm hu (lI hk) (lI rfl)
  · exact encode_4 op l m u rd rs1 rs2 imm _ w ⟨g1,g2⟩ ⟨g3,g4⟩ ⟨g5,g6⟩ ⟨g7,g8⟩ hl hm hu (lI hk) (lI rfl)
  · exact encode_5 op l m u rd rs1 rs2 imm _ w ⟨g1,g2⟩ ⟨g3,g4⟩ ⟨g5,g6⟩ ⟨g7,g8⟩ hl hm hu (lI hk) (lI rfl)
  · exact encode_6 op l m u rd rs1 rs2 imm _ w ⟨g1,g2⟩ ⟨g3,g4⟩ ⟨g5,g6⟩ ⟨g7,g8⟩ hl hm hu (lI hk) (lI rfl)
  · exact encode_7 op l m u rd rs1 rs2 imm _ w ⟨g1,g2⟩ ⟨g3,g4⟩ ⟨g5,g6⟩ ⟨g7,g8⟩ hl hm ⟨hu.1,hu7 rfl⟩ (lI hk) (lI rfl)
  · exact encode_8 op l m u rd rs1 rs2 imm _ w ⟨g1,g2⟩ ⟨g3,g4⟩ ⟨g5,g6⟩ ⟨g7,g8⟩ hl hm hu (lI hk) (lI rfl)
theorem gpparts_jal2 :(∀ (op rd rs1 rs2 imm : Int) (hcl : op = 3) (hop : 1 ≤ op ∧ op ≤ 59) (hr : (0 ≤ rd ∧ rd ≤ 31) ∧ (0 ≤ rs1 ∧ rs1 ≤ 31) ∧ 0 ≤ rs2 ∧ rs2 ≤ 31) (hi : -2147483648 ≤ imm ∧ imm ≤ 2147483647) (w : World) (HT : Hid (Lib.TabBelow Tryz.prog w.heap.size w "internal/strconv.uint64pow10" .u64 Lib.pow10Tab)), Calls Tryz.prog 95 #[.agg #[.int .i64 op, .int .i64 rd, .int .i64 rs1, .int .i64 rs2, .int .i32 imm]] w fun e w' => (∃ v, e = .returned v ∧ SRow w' v [regS rd, Lib.itoa imm]) ∧ Below w.heap.size w w') ∧ (∀ (op rd rs1 rs2 imm : Int) (hcl : 58 ≤ op) (hop : 1 ≤ op ∧ op ≤ 59) (hr : (0 ≤ rd ∧ rd ≤ 31) ∧ (0 ≤ rs1 ∧ rs1 ≤ 31) ∧ 0 ≤ rs2 ∧ rs2 ≤ 31) (hi : -2147483648 ≤ imm ∧ imm ≤ 2147483647) (w : World) (HT : Hid (Lib.TabBelow Tryz.prog w.heap.size w "internal/strconv.uint64pow10" .u64 Lib.pow10Tab)), Calls Tryz.prog 95 #[.agg #[.int .i64 op, .int .i64 rd, .int .i64 rs1, .int .i64 rs2, .int .i32 imm]] w fun e w' => (∃ v, e = .returned v ∧ SRow w' v []) ∧ Below w.heap.size w w') := by
 refine⟨fun op rd rs1 rs2 imm hcl hop hr hi w HT=> ?_,fun op rd rs1 rs2 imm hcl hop hr hi w HT=> ?_⟩
 all_goals
  obtain⟨w1,hw1⟩:∃w1,w1=w.alloc (.cells #[.int .i64 op,.int .i64 rd,.int .i64 rs1,.int .i64 rs2,.int .i32 imm] 91):=⟨_,rfl⟩
  have hb1:Below w.heap.size w w1:=zI
  have hs1:w.heap.size<w1.heap.size:=zO
  have hati:At w1 w.heap.size 0 [.int .i64 op,.int .i64 rd,.int .i64 rs1,.int .i64 rs2,.int .i32 imm]:=zG
  have c0:w1.cell? ⟨w.heap.size,0,none⟩=some (.int .i64 op):=zA
  have c1:w1.cell? ⟨w.heap.size,1,none⟩=some (.int .i64 rd):=zA
  have c2:w1.cell? ⟨w.heap.size,2,none⟩=some (.int .i64 rs1):=zA
  have c3:w1.cell? ⟨w.heap.size,3,none⟩=some (.int .i64 rs2):=zA
  have c4:w1.cell? ⟨w.heap.size,4,none⟩=some (.int .i32 imm):=zA
  have HIT:Hid (∀n:Int,(-2147483648≤n∧n≤2147483647)→∀W,Below w.heap.size w W→_):=lI (fun n hn W hW=>itoa_any n om W (HT.out W hW))
  have HR:=lI (fun n hn W=>reg_any n hn W)
  have HATN:=lI (fun W=>at_any ⟨op,rd,rs1,rs2,imm⟩ (Lib.itoa imm) (Nat.le_trans (jv imm om) zF) hr.2.1 W)
  have HAT0:=lI (fun W=>at_any ⟨op,rd,rs1,rs2,imm⟩ [] zF hr.2.1 W)
  simp only[qr]at HATN HAT0
  obtain⟨⟨r0,r1⟩,⟨r2,r3⟩,r4,r5⟩:=hr
  obtain⟨o0,o1⟩:=hop
  obtain⟨i0,i1⟩:=hi
  have HB1:=lI hb1
  have HW1:=lI hw1
  have HA1:=lI hati
  have hwi:IntKind.i64.wrap imm=imm:=zU
  have HCL:=lI hcl
  clear hw1 hati hb1 HT hcl
  go_enter Tryz.func95,Tryz.ntmps95
  go_upto_region 1 with(fail)
  rw[←HW1.out]
  go_wp2_with fail
 · (try rw[hwi])
   refine(HIT.out imm ⟨i0,i1⟩ w1 HB1.out).mono ?_
   rintro e w2 ⟨rfl,hb2⟩
   have d0:=(hb2.cell (p:=⟨w.heap.size,0,none⟩) hs1).trans c0
   have d1:=(hb2.cell (p:=⟨w.heap.size,1,none⟩) hs1).trans c1
   have d2:=(hb2.cell (p:=⟨w.heap.size,2,none⟩) hs1).trans c2
   have d3:=(hb2.cell (p:=⟨w.heap.size,3,none⟩) hs1).trans c3
   have d4:=(hb2.cell (p:=⟨w.heap.size,4,none⟩) hs1).trans c4
   have hlw:w.heap.size<w2.heap.size:=Nat.lt_of_lt_of_le hs1 hb2.size
   have HATI:=lI (HA1.out.of_lt hb2 hs1)
   have HWB:=lI (HB1.out.trans (hb2.mono HB1.out.size))
   obtain⟨bn,hbn⟩:∃b,b=bs (Lib.itoa imm):=⟨_,rfl⟩
   rw[←hbn]at HATN ⊢
   have HBN:=lI hbn
   clear c0 c1 c2 c3 c4 hb2 hs1 hbn
   have hcl:=HCL.out
   subst hcl
   go_wp2_with fail
   refine(HR.out rd om _).mono ?_
   rintro e w' ⟨rfl,rfl⟩
   go_wp2_with fail
   go_ret
   refine⟨⟨_,rfl, ?_⟩,HWB.out.alloc HWB.out.size _⟩
   rw[HBN.out]
   exact SRow.two w2 _ _ _
 · (try rw[hwi])
   refine(HIT.out imm ⟨i0,i1⟩ w1 HB1.out).mono ?_
   rintro e w2 ⟨rfl,hb2⟩
   have d0:=(hb2.cell (p:=⟨w.heap.size,0,none⟩) hs1).trans c0
   have d1:=(hb2.cell (p:=⟨w.heap.size,1,none⟩) hs1).trans c1
   have d2:=(hb2.cell (p:=⟨w.heap.size,2,none⟩) hs1).trans c2
   have d3:=(hb2.cell (p:=⟨w.heap.size,3,none⟩) hs1).trans c3
   have d4:=(hb2.cell (p:=⟨w.heap.size,4,none⟩) hs1).trans c4
   have hlw:w.heap.size<w2.heap.size:=Nat.lt_of_lt_of_le hs1 hb2.size
   have HATI:=lI (HA1.out.of_lt hb2 hs1)
   have HWB:=lI (HB1.out.trans (hb2.mono HB1.out.size))
   obtain⟨bn,hbn⟩:∃b,b=bs (Lib.itoa imm):=⟨_,rfl⟩
   rw[←hbn]at HATN ⊢
   have HBN:=lI hbn
   clear c0 c1 c2 c3 c4 hb2 hs1 hbn
   have g1:=HCL.out
   have q3:(op==3)=false:=sH.2 om
   have q4:(op==4)=false:=sH.2 om
   have q46:(op==46)=false:=sH.2 om
   have q57:(op==57)=false:=sH.2 om
   go_wp2_with fail
   go_ret
   exact⟨⟨_,rfl,.inl ⟨rfl,rfl⟩⟩,HWB.out⟩
abbrev parts_jal:=gpparts_jal2.1
abbrev parts_none:=gpparts_jal2.2
theorem parts_any (op rd rs1 rs2 imm : Int) (hop : 1 ≤ op ∧ op ≤ 59) (hr : (0 ≤ rd ∧ rd ≤ 31) ∧ (0 ≤ rs1 ∧ rs1 ≤ 31) ∧ 0 ≤ rs2 ∧ rs2 ≤ 31) (hi : -2147483648 ≤ imm ∧ imm ≤ 2147483647) (w : World) (HT : Hid (Lib.TabBelow Tryz.prog w.heap.size w "internal/strconv.uint64pow10" .u64 Lib.pow10Tab)) :
    Calls Tryz.prog 95 #[.agg #[.int .i64 op,.int .i64 rd,.int .i64 rs1,.int .i64 rs2,.int .i32 imm]] w fun e w'=>(∃v,e=.returned v∧SRow w' v (partsS ⟨op,rd,rs1,rs2,imm⟩))∧Below w.heap.size w w':=by
  unfold partsS
  simp only
  by_cases c1:op≤2
  · rw[if_pos c1];exact parts_u op rd rs1 rs2 imm c1 hop hr hi w HT
  rw[if_neg c1]
  by_cases c2:op=3
  · rw[if_pos c2];exact parts_jal op rd rs1 rs2 imm c2 hop hr hi w HT
  rw[if_neg c2]
  by_cases c3:op=4∨(19≤op∧op≤27)∨op=57
  · rw[if_pos c3];exact parts_i op rd rs1 rs2 imm c3 hop hr hi w HT
  rw[if_neg c3]
  by_cases c4:op≤10
  · rw[if_pos c4];exact parts_b op rd rs1 rs2 imm om hop hr hi w HT
  rw[if_neg c4]
  by_cases c5:op≤15
  · rw[if_pos c5];exact parts_l op rd rs1 rs2 imm om hop hr hi w HT
  rw[if_neg c5]
  by_cases c6:op≤18
  · rw[if_pos c6];exact parts_s op rd rs1 rs2 imm om hop hr hi w HT
  rw[if_neg c6]
  by_cases c7:op≤45
  · rw[if_pos c7];exact parts_r op rd rs1 rs2 imm om hop hr hi w HT
  rw[if_neg c7]
  by_cases c8:op=46
  · rw[if_pos c8];exact parts_lr op rd rs1 rs2 imm c8 hop hr hi w HT
  rw[if_neg c8]
  by_cases c9:op≤56
  · rw[if_pos c9];exact parts_a op rd rs1 rs2 imm om hop hr hi w HT
  rw[if_neg c9]
  exact parts_none op rd rs1 rs2 imm om hop hr hi w HT
theorem regS_len{n:Int}(h:0≤n∧n≤31):(regS n).length≤22:=by
  have:=jv n om
  unfold regS
  simp only[List.length_cons]
  omega
theorem atS_len{n:Int}{l:List UInt8}(h:0≤n∧n≤31)(hl:l.length≤21):(atS n l).length≤50:=by
  have:=regS_len h
  unfold atS
  simp only[sW,List.length_cons,List.length_nil]
  omega
theorem join_two(a b s:List UInt8):Lib.join [a,b] s=a++s++b:=by simp[Lib.join,List.intercalate]
theorem join_three(a b c s:List UInt8):Lib.join [a,b,c] s=a++s++b++s++c:=by simp[Lib.join,List.intercalate]
theorem parts_join_len{i:InsD}(hr:(0≤i.rd∧i.rd≤31)∧(0≤i.rs1∧i.rs1≤31)∧0≤i.rs2∧i.rs2≤31)(hi: -2147483648≤i.imm∧i.imm≤2147483647):(Lib.join (partsS i) [44]).length≤200∧(partsS i).length≤3:=by
  have h1:=regS_len hr.1
  have h2:=regS_len hr.2.1
  have h3:=regS_len hr.2.2
  have h4:=jv i.imm om
  have h5:=jv (i.imm / 4096) om
  have h6:=atS_len hr.2.1 h4
  have h7:=atS_len (l:=[]) hr.2.1 zC
  unfold partsS
  repeat' split
  all_goals
    refine⟨?_,by simp⟩
    first
      |(rw[join_two];simp only[sW,List.length_cons,List.length_nil];omega)
      |(rw[join_three];simp only[sW,List.length_cons,List.length_nil];omega)
      |(rw[Lib.join_nil];simp)
end Go.Proofs.YtlfnddmncbkjaabGreatDoor.W
