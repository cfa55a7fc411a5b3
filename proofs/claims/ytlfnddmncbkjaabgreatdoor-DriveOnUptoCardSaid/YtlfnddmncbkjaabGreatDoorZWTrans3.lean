import Derived.Test.YtlfnddmncbkjaabGreatDoorZGT
set_option linter.unusedVariables false
set_option linter.unusedSimpArgs false
set_option maxRecDepth 100000
set_option maxHeartbeats 4000000
namespace Go.Proofs.YtlfnddmncbkjaabGreatDoor.W
open Go.RowKit Fb
theorem ins_keeps{pw h:Nat}{w1 W:World}{cs:Array Value}{xs:List Value}(hlt:pw<h)(hb:w1.heap[h]? =some (.cells cs 91 (0,0)))(ha:At w1 h 0 xs)(hg:Grew pw 211 w1 W):At W h 0 xs:=
  hg.at ha (.inr ⟨hlt,fun cs' fr e=>by rw[hb]at e;injection e with e;injection e with _ e2;exact absurd e2 zF⟩)
theorem ins_any(pw:Nat)(l:List MicD)(i:InsD)(pc:Int)(w:World)(hk:MkW pw 211 w l)(hl:l.length≤900)(hi:isS i=true):
    Calls Tryz.prog 109 #[.pointer (some ⟨pw,0,none⟩),.agg (qr i),.int .u32 pc] w fun e w'=>e=.returned (.tuple #[])∧MkW pw 211 w' (l++insM i pc)∧Grew pw 211 w w':=by
  obtain⟨h1,-⟩:=uk hi
  clear hi
  obtain⟨op,rd,rs1,rs2,imm⟩:=i
  simp only[qr]
  dsimp only at h1
  obtain⟨w1,hw1⟩:∃w1,w1=w.alloc (.cells #[.int .i64 op,.int .i64 rd,.int .i64 rs1,.int .i64 rs2,.int .i32 imm] 91):=⟨_,rfl⟩
  have hb1:Below w.heap.size w w1:=zI
  have HAT:Hid (∀W,Grew pw 211 w1 W→At W w.heap.size 0 [.int .i64 op,.int .i64 rd,.int .i64 rs1,.int .i64 rs2,.int .i32 imm]):=lI (fun W hW=>ins_keeps hk.lt xJ zG hW)
  have HK:=lI (hk.below hb1)
  have HG:Hid (Grew pw 211 w1 w1):=lI (Grew.refl _ _ _)
  have HB:=lI (Grew.of_below (pw:=pw) (ty:=211) hb1)
  have HW1:=lI hw1
  have hc:(19≤op∧op≤27)∨op=1∨op=2∨op=3∨op=4∨(5≤op∧op≤10)∨(11≤op∧op≤15)∨(16≤op∧op≤18)∨(28≤op∧op≤45∧rd=0)∨(28≤op∧op≤45∧¬rd=0)∨(46≤op∧op≤56)∨op=57∨op=58∨op=59:=om
  clear h1
  unfold insM uv
  rcases hc with hop|rfl|rfl|rfl|rfl|hop|hop|hop|⟨ha,hb,rfl⟩|⟨ha,hb,hz⟩|hop|rfl|rfl|rfl
  all_goals
    repeat first|rw[if_pos (by(try dsimp only);omega)]|rw[if_neg (by(try dsimp only);omega)]
    try dsimp only
    obtain⟨ui,hui⟩:∃x,x=u32 imm:=⟨_,rfl⟩
    obtain⟨up,hup⟩:∃x,x=u32 (pc+ui):=⟨_,rfl⟩
    obtain⟨u4,hu4⟩:∃x,x=u32 (pc+4):=⟨_,rfl⟩
    have HUI:Hid (imm%4294967296=ui):=lI (by rw[hui];rfl)
    have HUP:Hid ((pc+ui)%4294967296=up):=lI (by rw[hup];rfl)
    have HU4:Hid ((pc+4)%4294967296=u4):=lI (by rw[hu4];rfl)
    try simp only[←hui,←hup,←hu4]
    clear hui hup hu4 hw1 hb1 hk
    have e0:=(HAT.out _ HG.out).get (j:=0) rfl
    have e4:=(HAT.out _ HG.out).get (j:=4) rfl
    simp only[Nat.add_zero,sM]at e0 e4
    try(have a:(op==1)=false:=by simp;omega)
    try(have d:decide (op=1)=false:=by simp;omega)
    try(have a:(op==2)=false:=by simp;omega)
    try(have d:decide (op=2)=false:=by simp;omega)
    try(have a:(op==3)=false:=by simp;omega)
    try(have d:decide (op=3)=false:=by simp;omega)
    try(have a:(op==4)=false:=by simp;omega)
    try(have d:decide (op=4)=false:=by simp;omega)
    try(have a:(op==58)=false:=by simp;omega)
    try(have d:decide (op=58)=false:=by simp;omega)
    try(have a:(op==59)=false:=by simp;omega)
    try(have d:decide (op=59)=false:=by simp;omega)
    try first|(have a:decide (op≤10)=true:=by simp;omega)|(have a:decide (op≤10)=false:=by simp;omega)
    try first|(have a:decide (op≤15)=true:=by simp;omega)|(have a:decide (op≤15)=false:=by simp;omega)
    try first|(have a:decide (op≤18)=true:=by simp;omega)|(have a:decide (op≤18)=false:=by simp;omega)
    try first|(have a:decide (op≤27)=true:=by simp;omega)|(have a:decide (op≤27)=false:=by simp;omega)
    try first|(have a:decide (op≤45)=true:=by simp;omega)|(have a:decide (op≤45)=false:=by simp;omega)
    try first|(have a:decide (op≤56)=true:=by simp;omega)|(have a:decide (op≤56)=false:=by simp;omega)
    try(have a:wrap64 (100+op)=100+op:=by unfold wrap64;omega)
    try(have a:wrap64 (200+op)=200+op:=by unfold wrap64;omega)
    try(have a:wrap64 (300+op)=300+op:=by unfold wrap64;omega)
    try(have a:wrap64 (400+op)=400+op:=by unfold wrap64;omega)
    try(have a:wrap64 (600+op)=600+op:=by unfold wrap64;omega)
    try(have z1:(rd==0)=false:=by simp;omega)
    try(have z2:decide (rd=0)=false:=by simp;omega)
    try(have z3:(rd !=0)=true:=by simp;omega)
    go_enter Tryz.func109,Tryz.ntmps109
    go_upto_region 1 with(fail)
    rw[←HW1.out]
    go_upto_region 2 with(fail)
    try rw[HUI.out]
    go_wp2_with fail
    refine(mput_any pw l 1 0 0 0 pc w1 HK.out om).mono ?_
    rintro e w2 ⟨rfl,hk2,hg2⟩
    have HK:=lI hk2
    have HG:=lI hg2
    clear hk2 hg2 e0 e4
    have e0:=(HAT.out _ HG.out).get (j:=0) rfl
    have e1:=(HAT.out _ HG.out).get (j:=1) rfl
    have e2:=(HAT.out _ HG.out).get (j:=2) rfl
    have e3:=(HAT.out _ HG.out).get (j:=3) rfl
    simp only[Nat.add_zero,sM]at e0 e1 e2 e3
  · have HOP:=lI (fun W=>operation_any op W om)
    have HNU:=lI (fun W (hW:MkW pw 211 W (l++[⟨1,0,0,0,pc⟩]))=>number_any pw (l++[⟨1,0,0,0,pc⟩]) (numOp op) op rd rs1 rs2 imm ui W hW zL (numOp_in op))
    go_upto_region 22 with(fail)
    have HBD:Hid (Below w2.heap.size w2 w2.drew):=lI (Below.drew br)
    have f0:=(HBD.out.cell (qD e0)).trans e0
    have f1:=(HBD.out.cell (qD e1)).trans e1
    have f2:=(HBD.out.cell (qD e2)).trans e2
    have f3:=(HBD.out.cell (qD e3)).trans e3
    have e4:=(HAT.out _ HG.out).get (j:=4) rfl
    simp only[Nat.add_zero,sM]at e4
    have f4:=(HBD.out.cell (qD e4)).trans e4
    obtain⟨w3,hw3⟩:∃w3,w3=w2.drew:=⟨_,rfl⟩
    have HK3:Hid (MkW pw 211 w3 (l++[⟨1,0,0,0,pc⟩])):=lI (by rw[hw3];exact HK.out.below HBD.out)
    have HG3:Hid (Grew pw 211 w1 w3):=lI (by rw[hw3];exact HG.out.trans (.of_below HBD.out))
    rw[←hw3]at f0 f1 f2 f3 f4
    have HW3:=lI hw3
    clear hw3 e0 e1 e2 e3 e4
    refine wp_region_still_tail 5 kr kr ?_
    simp only[List.take_succ_cons,List.take_zero,List.drop_succ_cons,List.drop_zero]
    change wpStill _ _ w2.drew (fun a'=>wpList _ _ _ _ a' w2.drew) _ _
    rw[←HW3.out]
    iterate 2 still_step
    still_call (HOP.out _)
    iterate 2 still_step
    refine wpStill_nil ?_
    go_wp2_with fail
    refine(HNU.out _ HK3.out).mono ?_
    rintro e w4 ⟨rfl,hk4,hg4⟩
    go_wp2_with fail
    go_end0
    exact⟨rfl,by simpa using hk4,HB.out.trans (HG3.out.trans hg4)⟩
  all_goals
    repeat
      go_wp2_with fail
      (try rw[HUI.out]);(try rw[HUP.out]);(try rw[HU4.out])
      refine(mput_any pw _ _ _ _ _ _ _ HK.out zL).mono ?_
      rintro e w2 ⟨rfl,hk2,hg2⟩
      have HK:=lI hk2
      have HG:=lI (HG.out.trans hg2)
      clear hk2 hg2 e0 e1 e2 e3
      have e0:=(HAT.out _ HG.out).get (j:=0) rfl
      have e1:=(HAT.out _ HG.out).get (j:=1) rfl
      have e2:=(HAT.out _ HG.out).get (j:=2) rfl
      have e3:=(HAT.out _ HG.out).get (j:=3) rfl
      simp only[Nat.add_zero,sM]at e0 e1 e2 e3
    go_wp2_with fail
    go_end0
    exact⟨rfl,by have:=HK.out;simpa using this,HB.out.trans HG.out⟩
end Go.Proofs.YtlfnddmncbkjaabGreatDoor.W
