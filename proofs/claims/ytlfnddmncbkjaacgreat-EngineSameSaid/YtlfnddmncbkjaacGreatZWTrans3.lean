import Derived.Test.YtlfnddmncbkjaacGreatZGI
set_option linter.unusedVariables false
set_option linter.unusedSimpArgs false
set_option maxRecDepth 100000
set_option maxHeartbeats 4000000
namespace Go.Proofs.YtlfnddmncbkjaacGreat.W
open Go.RowKit Fb
theorem Qo{pw h:Nat}{w1 W:World}{cs:Array Value}{xs:List Value}(hlt:pw<h)(hb:w1.heap[h]? =some (.cells cs 82 (0,0)))(ha:At w1 h 0 xs)(hg:Grew pw 144 w1 W):At W h 0 xs:=
  hg.at ha (.inr ⟨hlt,fun cs' fr e=>by rw[hb]at e;injection e with e;injection e with _ e2;exact absurd e2 zL⟩)
theorem ins_any_1(pw:Nat)(l:List MicD)(op rd rs1 rs2 imm pc:Int)(w:World)(hk:MkW pw 144 w l)(hl:l.length≤900)(hop:1≤op∧op≤1):
    Calls Tryz.prog 64 #[.pointer (some ⟨pw,0,none⟩),.agg #[.int .i64 op,.int .i64 rd,.int .i64 rs1,.int .i64 rs2,.int .i32 imm],.int .u32 pc] w fun e w'=>e=.returned (.tuple #[])∧MkW pw 144 w' (l++insM ⟨op,rd,rs1,rs2,imm⟩ pc)∧Grew pw 144 w w':=by
  have hb:insM ⟨op,rd,rs1,rs2,imm⟩ pc=⟨1,0,0,0,pc⟩::[⟨2,rd,0,0,u32 imm⟩]:=by
    unfold insM jZ
    rw[if_pos dm]
  rw[hb]
  clear hb
  obtain⟨w1,hw1⟩:∃w1,w1=w.alloc (.cells #[.int .i64 op,.int .i64 rd,.int .i64 rs1,.int .i64 rs2,.int .i32 imm] 82):=⟨_,rfl⟩
  have hb1:Below w.heap.size w w1:=zK
  have HAT:Hid (∀W,Grew pw 144 w1 W→At W w.heap.size 0 [.int .i64 op,.int .i64 rd,.int .i64 rs1,.int .i64 rs2,.int .i32 imm]):=lI (fun W hW=>Qo hk.lt zI zH hW)
  have HK:=lI (hk.below hb1)
  have HB:=lI (Grew.of_below (pw:=pw) (ty:=144) hb1)
  have HW1:=lI hw1
  have HU:Hid (u32 imm=imm%4294967296∧u32 (pc+u32 imm)=(pc+imm%4294967296)%4294967296∧u32 (pc+4)=(pc+4)%4294967296):=lI ⟨rfl,rfl,rfl⟩
  obtain⟨ui,hui⟩:∃x,x=u32 imm:=⟨_,rfl⟩
  obtain⟨up,hup⟩:∃x,x=u32 (pc+ui):=⟨_,rfl⟩
  obtain⟨u4,hu4⟩:∃x,x=u32 (pc+4):=⟨_,rfl⟩
  have HUI:Hid (imm%4294967296=ui):=lI xN
  have HUP:Hid ((pc+ui)%4294967296=up):=lI xM
  have HU4:Hid ((pc+4)%4294967296=u4):=lI xO
  rw[←hui,←hup,←hu4]at HU
  (try simp only[←hui,←hup,←hu4])
  clear hui hup hu4 hw1 hb1 hk HU
  have c0:=(HAT.out _ (Grew.refl _ _ _)).get (j:=0) rfl
  have c4:=(HAT.out _ (Grew.refl _ _ _)).get (j:=4) rfl
  simp only[sN,sM]at c0 c4
  obtain rfl:op=1:=om
  go_enter Tryz.func64,Tryz.ntmps64
  go_upto_region 1 with(fail)
  rw[←HW1.out]
  go_upto_region 2 with(fail)
  try rw[HUI.out]
  go_wp2_with fail
  refine(QB pw l 1 0 0 0 pc w1 HK.out om).mono ?_
  rintro e w2 ⟨rfl,hk2,hg2⟩
  have HK2:=lI hk2
  have HG2:=lI hg2
  clear hk2 hg2 c0 c4
  have e2_0:=(HAT.out _ HG2.out).get (j:=0) rfl
  have e2_1:=(HAT.out _ HG2.out).get (j:=1) rfl
  have e2_2:=(HAT.out _ HG2.out).get (j:=2) rfl
  have e2_3:=(HAT.out _ HG2.out).get (j:=3) rfl
  simp only[sN,sM]at e2_0 e2_1 e2_2 e2_3
  go_wp2_with fail
  (try rw[HUI.out]);(try rw[HUP.out]);(try rw[HU4.out])
  refine(QB pw _ _ _ _ _ _ w2 HK2.out zB).mono ?_
  rintro e w3 ⟨rfl,hk3,hg3⟩
  have HK3:=lI hk3
  have HG3:=lI (HG2.out.trans hg3)
  clear hk3 hg3 e2_0 e2_1 e2_2 e2_3
  have e3_0:=(HAT.out _ HG3.out).get (j:=0) rfl
  have e3_1:=(HAT.out _ HG3.out).get (j:=1) rfl
  have e3_2:=(HAT.out _ HG3.out).get (j:=2) rfl
  have e3_3:=(HAT.out _ HG3.out).get (j:=3) rfl
  simp only[sN,sM]at e3_0 e3_1 e3_2 e3_3
  go_wp2_with fail
  go_end0
  exact⟨rfl,by have:=HK3.out;simpa using this,HB.out.trans HG3.out⟩
theorem ins_any_2(pw:Nat)(l:List MicD)(op rd rs1 rs2 imm pc:Int)(w:World)(hk:MkW pw 144 w l)(hl:l.length≤900)(hop:2≤op∧op≤2):
    Calls Tryz.prog 64 #[.pointer (some ⟨pw,0,none⟩),.agg #[.int .i64 op,.int .i64 rd,.int .i64 rs1,.int .i64 rs2,.int .i32 imm],.int .u32 pc] w fun e w'=>e=.returned (.tuple #[])∧MkW pw 144 w' (l++insM ⟨op,rd,rs1,rs2,imm⟩ pc)∧Grew pw 144 w w':=by
  have hb:insM ⟨op,rd,rs1,rs2,imm⟩ pc=⟨1,0,0,0,pc⟩::[⟨2,rd,0,0,u32 (pc+u32 imm)⟩]:=by
    unfold insM jZ
    rw[if_neg dm]
    rw[if_pos dm]
  rw[hb]
  clear hb
  obtain⟨w1,hw1⟩:∃w1,w1=w.alloc (.cells #[.int .i64 op,.int .i64 rd,.int .i64 rs1,.int .i64 rs2,.int .i32 imm] 82):=⟨_,rfl⟩
  have hb1:Below w.heap.size w w1:=zK
  have HAT:Hid (∀W,Grew pw 144 w1 W→At W w.heap.size 0 [.int .i64 op,.int .i64 rd,.int .i64 rs1,.int .i64 rs2,.int .i32 imm]):=lI (fun W hW=>Qo hk.lt zI zH hW)
  have HK:=lI (hk.below hb1)
  have HB:=lI (Grew.of_below (pw:=pw) (ty:=144) hb1)
  have HW1:=lI hw1
  have HU:Hid (u32 imm=imm%4294967296∧u32 (pc+u32 imm)=(pc+imm%4294967296)%4294967296∧u32 (pc+4)=(pc+4)%4294967296):=lI ⟨rfl,rfl,rfl⟩
  obtain⟨ui,hui⟩:∃x,x=u32 imm:=⟨_,rfl⟩
  obtain⟨up,hup⟩:∃x,x=u32 (pc+ui):=⟨_,rfl⟩
  obtain⟨u4,hu4⟩:∃x,x=u32 (pc+4):=⟨_,rfl⟩
  have HUI:Hid (imm%4294967296=ui):=lI xN
  have HUP:Hid ((pc+ui)%4294967296=up):=lI xM
  have HU4:Hid ((pc+4)%4294967296=u4):=lI xO
  rw[←hui,←hup,←hu4]at HU
  (try simp only[←hui,←hup,←hu4])
  clear hui hup hu4 hw1 hb1 hk HU
  have c0:=(HAT.out _ (Grew.refl _ _ _)).get (j:=0) rfl
  have c4:=(HAT.out _ (Grew.refl _ _ _)).get (j:=4) rfl
  simp only[sN,sM]at c0 c4
  obtain rfl:op=2:=om
  go_enter Tryz.func64,Tryz.ntmps64
  go_upto_region 1 with(fail)
  rw[←HW1.out]
  go_upto_region 2 with(fail)
  try rw[HUI.out]
  go_wp2_with fail
  refine(QB pw l 1 0 0 0 pc w1 HK.out om).mono ?_
  rintro e w2 ⟨rfl,hk2,hg2⟩
  have HK2:=lI hk2
  have HG2:=lI hg2
  clear hk2 hg2 c0 c4
  have e2_0:=(HAT.out _ HG2.out).get (j:=0) rfl
  have e2_1:=(HAT.out _ HG2.out).get (j:=1) rfl
  have e2_2:=(HAT.out _ HG2.out).get (j:=2) rfl
  have e2_3:=(HAT.out _ HG2.out).get (j:=3) rfl
  simp only[sN,sM]at e2_0 e2_1 e2_2 e2_3
  go_wp2_with fail
  (try rw[HUI.out]);(try rw[HUP.out]);(try rw[HU4.out])
  refine(QB pw _ _ _ _ _ _ w2 HK2.out zB).mono ?_
  rintro e w3 ⟨rfl,hk3,hg3⟩
  have HK3:=lI hk3
  have HG3:=lI (HG2.out.trans hg3)
  clear hk3 hg3 e2_0 e2_1 e2_2 e2_3
  have e3_0:=(HAT.out _ HG3.out).get (j:=0) rfl
  have e3_1:=(HAT.out _ HG3.out).get (j:=1) rfl
  have e3_2:=(HAT.out _ HG3.out).get (j:=2) rfl
  have e3_3:=(HAT.out _ HG3.out).get (j:=3) rfl
  simp only[sN,sM]at e3_0 e3_1 e3_2 e3_3
  go_wp2_with fail
  go_end0
  exact⟨rfl,by have:=HK3.out;simpa using this,HB.out.trans HG3.out⟩
theorem ins_any_3(pw:Nat)(l:List MicD)(op rd rs1 rs2 imm pc:Int)(w:World)(hk:MkW pw 144 w l)(hl:l.length≤900)(hop:3≤op∧op≤3):
    Calls Tryz.prog 64 #[.pointer (some ⟨pw,0,none⟩),.agg #[.int .i64 op,.int .i64 rd,.int .i64 rs1,.int .i64 rs2,.int .i32 imm],.int .u32 pc] w fun e w'=>e=.returned (.tuple #[])∧MkW pw 144 w' (l++insM ⟨op,rd,rs1,rs2,imm⟩ pc)∧Grew pw 144 w w':=by
  have hb:insM ⟨op,rd,rs1,rs2,imm⟩ pc=⟨1,0,0,0,pc⟩::[⟨2,rd,0,0,u32 (pc+4)⟩,⟨3,0,0,0,u32 (pc+u32 imm)⟩]:=by
    unfold insM jZ
    rw[if_neg dm]
    rw[if_neg dm]
    rw[if_pos dm]
  rw[hb]
  clear hb
  obtain⟨w1,hw1⟩:∃w1,w1=w.alloc (.cells #[.int .i64 op,.int .i64 rd,.int .i64 rs1,.int .i64 rs2,.int .i32 imm] 82):=⟨_,rfl⟩
  have hb1:Below w.heap.size w w1:=zK
  have HAT:Hid (∀W,Grew pw 144 w1 W→At W w.heap.size 0 [.int .i64 op,.int .i64 rd,.int .i64 rs1,.int .i64 rs2,.int .i32 imm]):=lI (fun W hW=>Qo hk.lt zI zH hW)
  have HK:=lI (hk.below hb1)
  have HB:=lI (Grew.of_below (pw:=pw) (ty:=144) hb1)
  have HW1:=lI hw1
  have HU:Hid (u32 imm=imm%4294967296∧u32 (pc+u32 imm)=(pc+imm%4294967296)%4294967296∧u32 (pc+4)=(pc+4)%4294967296):=lI ⟨rfl,rfl,rfl⟩
  obtain⟨ui,hui⟩:∃x,x=u32 imm:=⟨_,rfl⟩
  obtain⟨up,hup⟩:∃x,x=u32 (pc+ui):=⟨_,rfl⟩
  obtain⟨u4,hu4⟩:∃x,x=u32 (pc+4):=⟨_,rfl⟩
  have HUI:Hid (imm%4294967296=ui):=lI xN
  have HUP:Hid ((pc+ui)%4294967296=up):=lI xM
  have HU4:Hid ((pc+4)%4294967296=u4):=lI xO
  rw[←hui,←hup,←hu4]at HU
  (try simp only[←hui,←hup,←hu4])
  clear hui hup hu4 hw1 hb1 hk HU
  have c0:=(HAT.out _ (Grew.refl _ _ _)).get (j:=0) rfl
  have c4:=(HAT.out _ (Grew.refl _ _ _)).get (j:=4) rfl
  simp only[sN,sM]at c0 c4
  obtain rfl:op=3:=om
  go_enter Tryz.func64,Tryz.ntmps64
  go_upto_region 1 with(fail)
  rw[←HW1.out]
  go_upto_region 2 with(fail)
  try rw[HUI.out]
  go_wp2_with fail
  refine(QB pw l 1 0 0 0 pc w1 HK.out om).mono ?_
  rintro e w2 ⟨rfl,hk2,hg2⟩
  have HK2:=lI hk2
  have HG2:=lI hg2
  clear hk2 hg2 c0 c4
  have e2_0:=(HAT.out _ HG2.out).get (j:=0) rfl
  have e2_1:=(HAT.out _ HG2.out).get (j:=1) rfl
  have e2_2:=(HAT.out _ HG2.out).get (j:=2) rfl
  have e2_3:=(HAT.out _ HG2.out).get (j:=3) rfl
  simp only[sN,sM]at e2_0 e2_1 e2_2 e2_3
  go_wp2_with fail
  (try rw[HUI.out]);(try rw[HUP.out]);(try rw[HU4.out])
  refine(QB pw _ _ _ _ _ _ w2 HK2.out zB).mono ?_
  rintro e w3 ⟨rfl,hk3,hg3⟩
  have HK3:=lI hk3
  have HG3:=lI (HG2.out.trans hg3)
  clear hk3 hg3 e2_0 e2_1 e2_2 e2_3
  have e3_0:=(HAT.out _ HG3.out).get (j:=0) rfl
  have e3_1:=(HAT.out _ HG3.out).get (j:=1) rfl
  have e3_2:=(HAT.out _ HG3.out).get (j:=2) rfl
  have e3_3:=(HAT.out _ HG3.out).get (j:=3) rfl
  simp only[sN,sM]at e3_0 e3_1 e3_2 e3_3
  go_wp2_with fail
  (try rw[HUI.out]);(try rw[HUP.out]);(try rw[HU4.out])
  refine(QB pw _ _ _ _ _ _ w3 HK3.out zB).mono ?_
  rintro e w4 ⟨rfl,hk4,hg4⟩
  have HK4:=lI hk4
  have HG4:=lI (HG3.out.trans hg4)
  clear hk4 hg4 e3_0 e3_1 e3_2 e3_3
  have e4_0:=(HAT.out _ HG4.out).get (j:=0) rfl
  have e4_1:=(HAT.out _ HG4.out).get (j:=1) rfl
  have e4_2:=(HAT.out _ HG4.out).get (j:=2) rfl
  have e4_3:=(HAT.out _ HG4.out).get (j:=3) rfl
  simp only[sN,sM]at e4_0 e4_1 e4_2 e4_3
  go_wp2_with fail
  go_end0
  exact⟨rfl,by have:=HK4.out;simpa using this,HB.out.trans HG4.out⟩
theorem ins_any_4(pw:Nat)(l:List MicD)(op rd rs1 rs2 imm pc:Int)(w:World)(hk:MkW pw 144 w l)(hl:l.length≤900)(hop:4≤op∧op≤4):
    Calls Tryz.prog 64 #[.pointer (some ⟨pw,0,none⟩),.agg #[.int .i64 op,.int .i64 rd,.int .i64 rs1,.int .i64 rs2,.int .i32 imm],.int .u32 pc] w fun e w'=>e=.returned (.tuple #[])∧MkW pw 144 w' (l++insM ⟨op,rd,rs1,rs2,imm⟩ pc)∧Grew pw 144 w w':=by
  have hb:insM ⟨op,rd,rs1,rs2,imm⟩ pc=⟨1,0,0,0,pc⟩::[⟨528,32,rs1,0,u32 imm⟩,⟨2,rd,0,0,u32 (pc+4)⟩,⟨4,0,32,0,0⟩]:=by
    unfold insM jZ
    rw[if_neg dm]
    rw[if_neg dm]
    rw[if_neg dm]
    rw[if_pos dm]
  rw[hb]
  clear hb
  obtain⟨w1,hw1⟩:∃w1,w1=w.alloc (.cells #[.int .i64 op,.int .i64 rd,.int .i64 rs1,.int .i64 rs2,.int .i32 imm] 82):=⟨_,rfl⟩
  have hb1:Below w.heap.size w w1:=zK
  have HAT:Hid (∀W,Grew pw 144 w1 W→At W w.heap.size 0 [.int .i64 op,.int .i64 rd,.int .i64 rs1,.int .i64 rs2,.int .i32 imm]):=lI (fun W hW=>Qo hk.lt zI zH hW)
  have HK:=lI (hk.below hb1)
  have HB:=lI (Grew.of_below (pw:=pw) (ty:=144) hb1)
  have HW1:=lI hw1
  have HU:Hid (u32 imm=imm%4294967296∧u32 (pc+u32 imm)=(pc+imm%4294967296)%4294967296∧u32 (pc+4)=(pc+4)%4294967296):=lI ⟨rfl,rfl,rfl⟩
  obtain⟨ui,hui⟩:∃x,x=u32 imm:=⟨_,rfl⟩
  obtain⟨up,hup⟩:∃x,x=u32 (pc+ui):=⟨_,rfl⟩
  obtain⟨u4,hu4⟩:∃x,x=u32 (pc+4):=⟨_,rfl⟩
  have HUI:Hid (imm%4294967296=ui):=lI xN
  have HUP:Hid ((pc+ui)%4294967296=up):=lI xM
  have HU4:Hid ((pc+4)%4294967296=u4):=lI xO
  rw[←hui,←hup,←hu4]at HU
  (try simp only[←hui,←hup,←hu4])
  clear hui hup hu4 hw1 hb1 hk HU
  have c0:=(HAT.out _ (Grew.refl _ _ _)).get (j:=0) rfl
  have c4:=(HAT.out _ (Grew.refl _ _ _)).get (j:=4) rfl
  simp only[sN,sM]at c0 c4
  obtain rfl:op=4:=om
  go_enter Tryz.func64,Tryz.ntmps64
  go_upto_region 1 with(fail)
  rw[←HW1.out]
  go_upto_region 2 with(fail)
  try rw[HUI.out]
  go_wp2_with fail
  refine(QB pw l 1 0 0 0 pc w1 HK.out om).mono ?_
  rintro e w2 ⟨rfl,hk2,hg2⟩
  have HK2:=lI hk2
  have HG2:=lI hg2
  clear hk2 hg2 c0 c4
  have e2_0:=(HAT.out _ HG2.out).get (j:=0) rfl
  have e2_1:=(HAT.out _ HG2.out).get (j:=1) rfl
  have e2_2:=(HAT.out _ HG2.out).get (j:=2) rfl
  have e2_3:=(HAT.out _ HG2.out).get (j:=3) rfl
  simp only[sN,sM]at e2_0 e2_1 e2_2 e2_3
  go_wp2_with fail
  (try rw[HUI.out]);(try rw[HUP.out]);(try rw[HU4.out])
  refine(QB pw _ _ _ _ _ _ w2 HK2.out zB).mono ?_
  rintro e w3 ⟨rfl,hk3,hg3⟩
  have HK3:=lI hk3
  have HG3:=lI (HG2.out.trans hg3)
  clear hk3 hg3 e2_0 e2_1 e2_2 e2_3
  have e3_0:=(HAT.out _ HG3.out).get (j:=0) rfl
  have e3_1:=(HAT.out _ HG3.out).get (j:=1) rfl
  have e3_2:=(HAT.out _ HG3.out).get (j:=2) rfl
  have e3_3:=(HAT.out _ HG3.out).get (j:=3) rfl
  simp only[sN,sM]at e3_0 e3_1 e3_2 e3_3
  go_wp2_with fail
  (try rw[HUI.out]);(try rw[HUP.out]);(try rw[HU4.out])
  refine(QB pw _ _ _ _ _ _ w3 HK3.out zB).mono ?_
  rintro e w4 ⟨rfl,hk4,hg4⟩
  have HK4:=lI hk4
  have HG4:=lI (HG3.out.trans hg4)
  clear hk4 hg4 e3_0 e3_1 e3_2 e3_3
  have e4_0:=(HAT.out _ HG4.out).get (j:=0) rfl
  have e4_1:=(HAT.out _ HG4.out).get (j:=1) rfl
  have e4_2:=(HAT.out _ HG4.out).get (j:=2) rfl
  have e4_3:=(HAT.out _ HG4.out).get (j:=3) rfl
  simp only[sN,sM]at e4_0 e4_1 e4_2 e4_3
  go_wp2_with fail
  (try rw[HUI.out]);(try rw[HUP.out]);(try rw[HU4.out])
  refine(QB pw _ _ _ _ _ _ w4 HK4.out zB).mono ?_
  rintro e w5 ⟨rfl,hk5,hg5⟩
  have HK5:=lI hk5
  have HG5:=lI (HG4.out.trans hg5)
  clear hk5 hg5 e4_0 e4_1 e4_2 e4_3
  have e5_0:=(HAT.out _ HG5.out).get (j:=0) rfl
  have e5_1:=(HAT.out _ HG5.out).get (j:=1) rfl
  have e5_2:=(HAT.out _ HG5.out).get (j:=2) rfl
  have e5_3:=(HAT.out _ HG5.out).get (j:=3) rfl
  simp only[sN,sM]at e5_0 e5_1 e5_2 e5_3
  go_wp2_with fail
  go_end0
  exact⟨rfl,by have:=HK5.out;simpa using this,HB.out.trans HG5.out⟩
theorem ins_any_5(pw:Nat)(l:List MicD)(op rd rs1 rs2 imm pc:Int)(w:World)(hk:MkW pw 144 w l)(hl:l.length≤900)(hop:5≤op∧op≤10):
    Calls Tryz.prog 64 #[.pointer (some ⟨pw,0,none⟩),.agg #[.int .i64 op,.int .i64 rd,.int .i64 rs1,.int .i64 rs2,.int .i32 imm],.int .u32 pc] w fun e w'=>e=.returned (.tuple #[])∧MkW pw 144 w' (l++insM ⟨op,rd,rs1,rs2,imm⟩ pc)∧Grew pw 144 w w':=by
  have hb:insM ⟨op,rd,rs1,rs2,imm⟩ pc=⟨1,0,0,0,pc⟩::[⟨100+op,0,rs1,rs2,u32 (pc+u32 imm)⟩]:=by
    unfold insM jZ
    rw[if_neg dm]
    rw[if_neg dm]
    rw[if_neg dm]
    rw[if_neg dm]
    rw[if_pos dm]
  rw[hb]
  clear hb
  obtain⟨w1,hw1⟩:∃w1,w1=w.alloc (.cells #[.int .i64 op,.int .i64 rd,.int .i64 rs1,.int .i64 rs2,.int .i32 imm] 82):=⟨_,rfl⟩
  have hb1:Below w.heap.size w w1:=zK
  have HAT:Hid (∀W,Grew pw 144 w1 W→At W w.heap.size 0 [.int .i64 op,.int .i64 rd,.int .i64 rs1,.int .i64 rs2,.int .i32 imm]):=lI (fun W hW=>Qo hk.lt zI zH hW)
  have HK:=lI (hk.below hb1)
  have HB:=lI (Grew.of_below (pw:=pw) (ty:=144) hb1)
  have HW1:=lI hw1
  have HU:Hid (u32 imm=imm%4294967296∧u32 (pc+u32 imm)=(pc+imm%4294967296)%4294967296∧u32 (pc+4)=(pc+4)%4294967296):=lI ⟨rfl,rfl,rfl⟩
  obtain⟨ui,hui⟩:∃x,x=u32 imm:=⟨_,rfl⟩
  obtain⟨up,hup⟩:∃x,x=u32 (pc+ui):=⟨_,rfl⟩
  obtain⟨u4,hu4⟩:∃x,x=u32 (pc+4):=⟨_,rfl⟩
  have HUI:Hid (imm%4294967296=ui):=lI xN
  have HUP:Hid ((pc+ui)%4294967296=up):=lI xM
  have HU4:Hid ((pc+4)%4294967296=u4):=lI xO
  rw[←hui,←hup,←hu4]at HU
  (try simp only[←hui,←hup,←hu4])
  clear hui hup hu4 hw1 hb1 hk HU
  have c0:=(HAT.out _ (Grew.refl _ _ _)).get (j:=0) rfl
  have c4:=(HAT.out _ (Grew.refl _ _ _)).get (j:=4) rfl
  simp only[sN,sM]at c0 c4
  have a0:(op==1)=false:=zB
  have d0:decide (op=1)=false:=zB
  have a1:(op==2)=false:=zB
  have d1:decide (op=2)=false:=zB
  have a2:(op==3)=false:=zB
  have d2:decide (op=3)=false:=zB
  have a3:(op==4)=false:=zB
  have d3:decide (op=4)=false:=zB
  have a4:decide (op≤10)=true:=zB
  have aw:wrap64 (100+op)=100+op:=yH
  go_enter Tryz.func64,Tryz.ntmps64
  go_upto_region 1 with(fail)
  rw[←HW1.out]
  go_upto_region 2 with(fail)
  try rw[HUI.out]
  go_wp2_with fail
  refine(QB pw l 1 0 0 0 pc w1 HK.out om).mono ?_
  rintro e w2 ⟨rfl,hk2,hg2⟩
  have HK2:=lI hk2
  have HG2:=lI hg2
  clear hk2 hg2 c0 c4
  have e2_0:=(HAT.out _ HG2.out).get (j:=0) rfl
  have e2_1:=(HAT.out _ HG2.out).get (j:=1) rfl
  have e2_2:=(HAT.out _ HG2.out).get (j:=2) rfl
  have e2_3:=(HAT.out _ HG2.out).get (j:=3) rfl
  simp only[sN,sM]at e2_0 e2_1 e2_2 e2_3
  go_wp2_with fail
  (try rw[HUI.out]);(try rw[HUP.out]);(try rw[HU4.out])
  refine(QB pw _ _ _ _ _ _ w2 HK2.out zB).mono ?_
  rintro e w3 ⟨rfl,hk3,hg3⟩
  have HK3:=lI hk3
  have HG3:=lI (HG2.out.trans hg3)
  clear hk3 hg3 e2_0 e2_1 e2_2 e2_3
  have e3_0:=(HAT.out _ HG3.out).get (j:=0) rfl
  have e3_1:=(HAT.out _ HG3.out).get (j:=1) rfl
  have e3_2:=(HAT.out _ HG3.out).get (j:=2) rfl
  have e3_3:=(HAT.out _ HG3.out).get (j:=3) rfl
  simp only[sN,sM]at e3_0 e3_1 e3_2 e3_3
  go_wp2_with fail
  go_end0
  exact⟨rfl,by have:=HK3.out;simpa using this,HB.out.trans HG3.out⟩
theorem ins_any_11(pw:Nat)(l:List MicD)(op rd rs1 rs2 imm pc:Int)(w:World)(hk:MkW pw 144 w l)(hl:l.length≤900)(hop:11≤op∧op≤15):
    Calls Tryz.prog 64 #[.pointer (some ⟨pw,0,none⟩),.agg #[.int .i64 op,.int .i64 rd,.int .i64 rs1,.int .i64 rs2,.int .i32 imm],.int .u32 pc] w fun e w'=>e=.returned (.tuple #[])∧MkW pw 144 w' (l++insM ⟨op,rd,rs1,rs2,imm⟩ pc)∧Grew pw 144 w w':=by
  have hb:insM ⟨op,rd,rs1,rs2,imm⟩ pc=⟨1,0,0,0,pc⟩::[⟨200+op,rd,rs1,0,u32 imm⟩]:=by
    unfold insM jZ
    rw[if_neg dm]
    rw[if_neg dm]
    rw[if_neg dm]
    rw[if_neg dm]
    rw[if_neg dm]
    rw[if_pos dm]
  rw[hb]
  clear hb
  obtain⟨w1,hw1⟩:∃w1,w1=w.alloc (.cells #[.int .i64 op,.int .i64 rd,.int .i64 rs1,.int .i64 rs2,.int .i32 imm] 82):=⟨_,rfl⟩
  have hb1:Below w.heap.size w w1:=zK
  have HAT:Hid (∀W,Grew pw 144 w1 W→At W w.heap.size 0 [.int .i64 op,.int .i64 rd,.int .i64 rs1,.int .i64 rs2,.int .i32 imm]):=lI (fun W hW=>Qo hk.lt zI zH hW)
  have HK:=lI (hk.below hb1)
  have HB:=lI (Grew.of_below (pw:=pw) (ty:=144) hb1)
  have HW1:=lI hw1
  have HU:Hid (u32 imm=imm%4294967296∧u32 (pc+u32 imm)=(pc+imm%4294967296)%4294967296∧u32 (pc+4)=(pc+4)%4294967296):=lI ⟨rfl,rfl,rfl⟩
  obtain⟨ui,hui⟩:∃x,x=u32 imm:=⟨_,rfl⟩
  obtain⟨up,hup⟩:∃x,x=u32 (pc+ui):=⟨_,rfl⟩
  obtain⟨u4,hu4⟩:∃x,x=u32 (pc+4):=⟨_,rfl⟩
  have HUI:Hid (imm%4294967296=ui):=lI xN
  have HUP:Hid ((pc+ui)%4294967296=up):=lI xM
  have HU4:Hid ((pc+4)%4294967296=u4):=lI xO
  rw[←hui,←hup,←hu4]at HU
  (try simp only[←hui,←hup,←hu4])
  clear hui hup hu4 hw1 hb1 hk HU
  have c0:=(HAT.out _ (Grew.refl _ _ _)).get (j:=0) rfl
  have c4:=(HAT.out _ (Grew.refl _ _ _)).get (j:=4) rfl
  simp only[sN,sM]at c0 c4
  have a0:(op==1)=false:=zB
  have d0:decide (op=1)=false:=zB
  have a1:(op==2)=false:=zB
  have d1:decide (op=2)=false:=zB
  have a2:(op==3)=false:=zB
  have d2:decide (op=3)=false:=zB
  have a3:(op==4)=false:=zB
  have d3:decide (op=4)=false:=zB
  have a4:decide (op≤10)=false:=zB
  have a5:decide (op≤15)=true:=zB
  have aw:wrap64 (200+op)=200+op:=yH
  go_enter Tryz.func64,Tryz.ntmps64
  go_upto_region 1 with(fail)
  rw[←HW1.out]
  go_upto_region 2 with(fail)
  try rw[HUI.out]
  go_wp2_with fail
  refine(QB pw l 1 0 0 0 pc w1 HK.out om).mono ?_
  rintro e w2 ⟨rfl,hk2,hg2⟩
  have HK2:=lI hk2
  have HG2:=lI hg2
  clear hk2 hg2 c0 c4
  have e2_0:=(HAT.out _ HG2.out).get (j:=0) rfl
  have e2_1:=(HAT.out _ HG2.out).get (j:=1) rfl
  have e2_2:=(HAT.out _ HG2.out).get (j:=2) rfl
  have e2_3:=(HAT.out _ HG2.out).get (j:=3) rfl
  simp only[sN,sM]at e2_0 e2_1 e2_2 e2_3
  go_wp2_with fail
  (try rw[HUI.out]);(try rw[HUP.out]);(try rw[HU4.out])
  refine(QB pw _ _ _ _ _ _ w2 HK2.out zB).mono ?_
  rintro e w3 ⟨rfl,hk3,hg3⟩
  have HK3:=lI hk3
  have HG3:=lI (HG2.out.trans hg3)
  clear hk3 hg3 e2_0 e2_1 e2_2 e2_3
  have e3_0:=(HAT.out _ HG3.out).get (j:=0) rfl
  have e3_1:=(HAT.out _ HG3.out).get (j:=1) rfl
  have e3_2:=(HAT.out _ HG3.out).get (j:=2) rfl
  have e3_3:=(HAT.out _ HG3.out).get (j:=3) rfl
  simp only[sN,sM]at e3_0 e3_1 e3_2 e3_3
  go_wp2_with fail
  go_end0
  exact⟨rfl,by have:=HK3.out;simpa using this,HB.out.trans HG3.out⟩
theorem ins_any_16(pw:Nat)(l:List MicD)(op rd rs1 rs2 imm pc:Int)(w:World)(hk:MkW pw 144 w l)(hl:l.length≤900)(hop:16≤op∧op≤18):
    Calls Tryz.prog 64 #[.pointer (some ⟨pw,0,none⟩),.agg #[.int .i64 op,.int .i64 rd,.int .i64 rs1,.int .i64 rs2,.int .i32 imm],.int .u32 pc] w fun e w'=>e=.returned (.tuple #[])∧MkW pw 144 w' (l++insM ⟨op,rd,rs1,rs2,imm⟩ pc)∧Grew pw 144 w w':=by
  have hb:insM ⟨op,rd,rs1,rs2,imm⟩ pc=⟨1,0,0,0,pc⟩::[⟨300+op,0,rs1,rs2,u32 imm⟩]:=by
    unfold insM jZ
    rw[if_neg dm]
    rw[if_neg dm]
    rw[if_neg dm]
    rw[if_neg dm]
    rw[if_neg dm]
    rw[if_neg dm]
    rw[if_pos dm]
  rw[hb]
  clear hb
  obtain⟨w1,hw1⟩:∃w1,w1=w.alloc (.cells #[.int .i64 op,.int .i64 rd,.int .i64 rs1,.int .i64 rs2,.int .i32 imm] 82):=⟨_,rfl⟩
  have hb1:Below w.heap.size w w1:=zK
  have HAT:Hid (∀W,Grew pw 144 w1 W→At W w.heap.size 0 [.int .i64 op,.int .i64 rd,.int .i64 rs1,.int .i64 rs2,.int .i32 imm]):=lI (fun W hW=>Qo hk.lt zI zH hW)
  have HK:=lI (hk.below hb1)
  have HB:=lI (Grew.of_below (pw:=pw) (ty:=144) hb1)
  have HW1:=lI hw1
  have HU:Hid (u32 imm=imm%4294967296∧u32 (pc+u32 imm)=(pc+imm%4294967296)%4294967296∧u32 (pc+4)=(pc+4)%4294967296):=lI ⟨rfl,rfl,rfl⟩
  obtain⟨ui,hui⟩:∃x,x=u32 imm:=⟨_,rfl⟩
  obtain⟨up,hup⟩:∃x,x=u32 (pc+ui):=⟨_,rfl⟩
  obtain⟨u4,hu4⟩:∃x,x=u32 (pc+4):=⟨_,rfl⟩
  have HUI:Hid (imm%4294967296=ui):=lI xN
  have HUP:Hid ((pc+ui)%4294967296=up):=lI xM
  have HU4:Hid ((pc+4)%4294967296=u4):=lI xO
  rw[←hui,←hup,←hu4]at HU
  (try simp only[←hui,←hup,←hu4])
  clear hui hup hu4 hw1 hb1 hk HU
  have c0:=(HAT.out _ (Grew.refl _ _ _)).get (j:=0) rfl
  have c4:=(HAT.out _ (Grew.refl _ _ _)).get (j:=4) rfl
  simp only[sN,sM]at c0 c4
  have a0:(op==1)=false:=zB
  have d0:decide (op=1)=false:=zB
  have a1:(op==2)=false:=zB
  have d1:decide (op=2)=false:=zB
  have a2:(op==3)=false:=zB
  have d2:decide (op=3)=false:=zB
  have a3:(op==4)=false:=zB
  have d3:decide (op=4)=false:=zB
  have a4:decide (op≤10)=false:=zB
  have a5:decide (op≤15)=false:=zB
  have a6:decide (op≤18)=true:=zB
  have aw:wrap64 (300+op)=300+op:=yH
  go_enter Tryz.func64,Tryz.ntmps64
  go_upto_region 1 with(fail)
  rw[←HW1.out]
  go_upto_region 2 with(fail)
  try rw[HUI.out]
  go_wp2_with fail
  refine(QB pw l 1 0 0 0 pc w1 HK.out om).mono ?_
  rintro e w2 ⟨rfl,hk2,hg2⟩
  have HK2:=lI hk2
  have HG2:=lI hg2
  clear hk2 hg2 c0 c4
  have e2_0:=(HAT.out _ HG2.out).get (j:=0) rfl
  have e2_1:=(HAT.out _ HG2.out).get (j:=1) rfl
  have e2_2:=(HAT.out _ HG2.out).get (j:=2) rfl
  have e2_3:=(HAT.out _ HG2.out).get (j:=3) rfl
  simp only[sN,sM]at e2_0 e2_1 e2_2 e2_3
  go_wp2_with fail
  (try rw[HUI.out]);(try rw[HUP.out]);(try rw[HU4.out])
  refine(QB pw _ _ _ _ _ _ w2 HK2.out zB).mono ?_
  rintro e w3 ⟨rfl,hk3,hg3⟩
  have HK3:=lI hk3
  have HG3:=lI (HG2.out.trans hg3)
  clear hk3 hg3 e2_0 e2_1 e2_2 e2_3
  have e3_0:=(HAT.out _ HG3.out).get (j:=0) rfl
  have e3_1:=(HAT.out _ HG3.out).get (j:=1) rfl
  have e3_2:=(HAT.out _ HG3.out).get (j:=2) rfl
  have e3_3:=(HAT.out _ HG3.out).get (j:=3) rfl
  simp only[sN,sM]at e3_0 e3_1 e3_2 e3_3
  go_wp2_with fail
  go_end0
  exact⟨rfl,by have:=HK3.out;simpa using this,HB.out.trans HG3.out⟩
theorem ins_any_19(pw:Nat)(l:List MicD)(op rd rs1 rs2 imm pc:Int)(w:World)(hk:MkW pw 144 w l)(hl:l.length≤900)(hop:19≤op∧op≤27):
    Calls Tryz.prog 64 #[.pointer (some ⟨pw,0,none⟩),.agg #[.int .i64 op,.int .i64 rd,.int .i64 rs1,.int .i64 rs2,.int .i32 imm],.int .u32 pc] w fun e w'=>e=.returned (.tuple #[])∧MkW pw 144 w' (l++insM ⟨op,rd,rs1,rs2,imm⟩ pc)∧Grew pw 144 w w':=by
  have hb:insM ⟨op,rd,rs1,rs2,imm⟩ pc=⟨1,0,0,0,pc⟩::numM (numOp op) rd rs1 (u32 imm):=by
    unfold insM jZ
    rw[if_neg dm]
    rw[if_neg dm]
    rw[if_neg dm]
    rw[if_neg dm]
    rw[if_neg dm]
    rw[if_neg dm]
    rw[if_neg dm]
    rw[if_pos dm]
  rw[hb]
  clear hb
  obtain⟨w1,hw1⟩:∃w1,w1=w.alloc (.cells #[.int .i64 op,.int .i64 rd,.int .i64 rs1,.int .i64 rs2,.int .i32 imm] 82):=⟨_,rfl⟩
  have hb1:Below w.heap.size w w1:=zK
  have HAT:Hid (∀W,Grew pw 144 w1 W→At W w.heap.size 0 [.int .i64 op,.int .i64 rd,.int .i64 rs1,.int .i64 rs2,.int .i32 imm]):=lI (fun W hW=>Qo hk.lt zI zH hW)
  have HK:=lI (hk.below hb1)
  have HB:=lI (Grew.of_below (pw:=pw) (ty:=144) hb1)
  have HW1:=lI hw1
  have HU:Hid (u32 imm=imm%4294967296∧u32 (pc+u32 imm)=(pc+imm%4294967296)%4294967296∧u32 (pc+4)=(pc+4)%4294967296):=lI ⟨rfl,rfl,rfl⟩
  obtain⟨ui,hui⟩:∃x,x=u32 imm:=⟨_,rfl⟩
  obtain⟨up,hup⟩:∃x,x=u32 (pc+ui):=⟨_,rfl⟩
  obtain⟨u4,hu4⟩:∃x,x=u32 (pc+4):=⟨_,rfl⟩
  have HUI:Hid (imm%4294967296=ui):=lI xN
  have HUP:Hid ((pc+ui)%4294967296=up):=lI xM
  have HU4:Hid ((pc+4)%4294967296=u4):=lI xO
  rw[←hui,←hup,←hu4]at HU
  (try simp only[←hui,←hup,←hu4])
  clear hui hup hu4 hw1 hb1 hk HU
  have c0:=(HAT.out _ (Grew.refl _ _ _)).get (j:=0) rfl
  have c4:=(HAT.out _ (Grew.refl _ _ _)).get (j:=4) rfl
  simp only[sN,sM]at c0 c4
  have a0:(op==1)=false:=zB
  have d0:decide (op=1)=false:=zB
  have a1:(op==2)=false:=zB
  have d1:decide (op=2)=false:=zB
  have a2:(op==3)=false:=zB
  have d2:decide (op=3)=false:=zB
  have a3:(op==4)=false:=zB
  have d3:decide (op=4)=false:=zB
  have a4:decide (op≤10)=false:=zB
  have a5:decide (op≤15)=false:=zB
  have a6:decide (op≤18)=false:=zB
  have a7:decide (op≤27)=true:=zB
  go_enter Tryz.func64,Tryz.ntmps64
  go_upto_region 1 with(fail)
  rw[←HW1.out]
  go_upto_region 2 with(fail)
  try rw[HUI.out]
  go_wp2_with fail
  refine(QB pw l 1 0 0 0 pc w1 HK.out om).mono ?_
  rintro e w2 ⟨rfl,hk2,hg2⟩
  have HK2:=lI hk2
  have HG2:=lI hg2
  clear hk2 hg2 c0 c4
  have e2_0:=(HAT.out _ HG2.out).get (j:=0) rfl
  have e2_1:=(HAT.out _ HG2.out).get (j:=1) rfl
  have e2_2:=(HAT.out _ HG2.out).get (j:=2) rfl
  have e2_3:=(HAT.out _ HG2.out).get (j:=3) rfl
  simp only[sN,sM]at e2_0 e2_1 e2_2 e2_3
  have HOP:=lI (fun W=>operation_any op W om)
  have HNU:=lI (fun W (hW:MkW pw 144 W (l++[⟨1,0,0,0,pc⟩]))=>number_any pw (l++[⟨1,0,0,0,pc⟩]) (numOp op) op rd rs1 rs2 imm ui W hW zB (numOp_in op))
  go_upto_region 22 with(fail)
  have HBD:Hid (Below w2.heap.size w2 w2.drew):=lI (Below.drew br)
  have f0:=(HBD.out.cell (qH e2_0)).trans e2_0
  have f1:=(HBD.out.cell (qH e2_1)).trans e2_1
  have f2:=(HBD.out.cell (qH e2_2)).trans e2_2
  have f3:=(HBD.out.cell (qH e2_3)).trans e2_3
  have e2_4:=(HAT.out _ HG2.out).get (j:=4) rfl
  simp only[sN,sM]at e2_4
  have f4:=(HBD.out.cell (qH e2_4)).trans e2_4
  obtain⟨w3,hw3⟩:∃w3,w3=w2.drew:=⟨_,rfl⟩
  have HK3:Hid (MkW pw 144 w3 (l++[⟨1,0,0,0,pc⟩])):=lI (by rw[hw3];exact HK2.out.below HBD.out)
  have HG3:Hid (Grew pw 144 w1 w3):=lI (by rw[hw3];exact HG2.out.trans (.of_below HBD.out))
  rw[←hw3]at f0 f1 f2 f3 f4
  have HW3:=lI hw3
  clear hw3 e2_0 e2_1 e2_2 e2_3 e2_4
  refine wp_region_still_tail 5 kr kr ?_
  simp only[List.take_succ_cons,List.take_zero,List.drop_succ_cons,List.drop_zero]
  change wpStill _ _ w2.drew (fun a'=>wpList _ _ _ _ a' w2.drew) _ _
  rw[←HW3.out]
  iterate 2 still_step
  still_call (HOP.out _)
  iterate 2 still_step
  refine wpStill_nil ?_
  go_wp2_with fail
  refine(HNU.out _ HK3.out).mono ?_
  rintro e w4 ⟨rfl,hk4,hg4⟩
  go_wp2_with fail
  go_end0
  exact⟨rfl,by simpa using hk4,HB.out.trans (HG3.out.trans hg4)⟩
theorem ins_any_28z(pw:Nat)(l:List MicD)(op rd rs1 rs2 imm pc:Int)(w:World)(hk:MkW pw 144 w l)(hl:l.length≤900)(hop:28≤op∧op≤45)(hz:rd=0):
    Calls Tryz.prog 64 #[.pointer (some ⟨pw,0,none⟩),.agg #[.int .i64 op,.int .i64 rd,.int .i64 rs1,.int .i64 rs2,.int .i32 imm],.int .u32 pc] w fun e w'=>e=.returned (.tuple #[])∧MkW pw 144 w' (l++insM ⟨op,rd,rs1,rs2,imm⟩ pc)∧Grew pw 144 w w':=by
  have hb:insM ⟨op,rd,rs1,rs2,imm⟩ pc=⟨1,0,0,0,pc⟩::[]:=by
    unfold insM jZ
    rw[if_neg dm]
    rw[if_neg dm]
    rw[if_neg dm]
    rw[if_neg dm]
    rw[if_neg dm]
    rw[if_neg dm]
    rw[if_neg dm]
    rw[if_neg dm]
    rw[if_pos dm]
    rw[if_pos hz]
  rw[hb]
  clear hb
  obtain⟨w1,hw1⟩:∃w1,w1=w.alloc (.cells #[.int .i64 op,.int .i64 rd,.int .i64 rs1,.int .i64 rs2,.int .i32 imm] 82):=⟨_,rfl⟩
  have hb1:Below w.heap.size w w1:=zK
  have HAT:Hid (∀W,Grew pw 144 w1 W→At W w.heap.size 0 [.int .i64 op,.int .i64 rd,.int .i64 rs1,.int .i64 rs2,.int .i32 imm]):=lI (fun W hW=>Qo hk.lt zI zH hW)
  have HK:=lI (hk.below hb1)
  have HB:=lI (Grew.of_below (pw:=pw) (ty:=144) hb1)
  have HW1:=lI hw1
  have HU:Hid (u32 imm=imm%4294967296∧u32 (pc+u32 imm)=(pc+imm%4294967296)%4294967296∧u32 (pc+4)=(pc+4)%4294967296):=lI ⟨rfl,rfl,rfl⟩
  obtain⟨ui,hui⟩:∃x,x=u32 imm:=⟨_,rfl⟩
  obtain⟨up,hup⟩:∃x,x=u32 (pc+ui):=⟨_,rfl⟩
  obtain⟨u4,hu4⟩:∃x,x=u32 (pc+4):=⟨_,rfl⟩
  have HUI:Hid (imm%4294967296=ui):=lI xN
  have HUP:Hid ((pc+ui)%4294967296=up):=lI xM
  have HU4:Hid ((pc+4)%4294967296=u4):=lI xO
  rw[←hui,←hup,←hu4]at HU
  (try simp only[←hui,←hup,←hu4])
  clear hui hup hu4 hw1 hb1 hk HU
  have c0:=(HAT.out _ (Grew.refl _ _ _)).get (j:=0) rfl
  have c4:=(HAT.out _ (Grew.refl _ _ _)).get (j:=4) rfl
  simp only[sN,sM]at c0 c4
  have a0:(op==1)=false:=zB
  have d0:decide (op=1)=false:=zB
  have a1:(op==2)=false:=zB
  have d1:decide (op=2)=false:=zB
  have a2:(op==3)=false:=zB
  have d2:decide (op=3)=false:=zB
  have a3:(op==4)=false:=zB
  have d3:decide (op=4)=false:=zB
  have a4:decide (op≤10)=false:=zB
  have a5:decide (op≤15)=false:=zB
  have a6:decide (op≤18)=false:=zB
  have a7:decide (op≤27)=false:=zB
  have a8:decide (op≤45)=true:=zB
  have aw:wrap64 (400+op)=400+op:=yH
  subst hz
  go_enter Tryz.func64,Tryz.ntmps64
  go_upto_region 1 with(fail)
  rw[←HW1.out]
  go_upto_region 2 with(fail)
  try rw[HUI.out]
  go_wp2_with fail
  refine(QB pw l 1 0 0 0 pc w1 HK.out om).mono ?_
  rintro e w2 ⟨rfl,hk2,hg2⟩
  have HK2:=lI hk2
  have HG2:=lI hg2
  clear hk2 hg2 c0 c4
  have e2_0:=(HAT.out _ HG2.out).get (j:=0) rfl
  have e2_1:=(HAT.out _ HG2.out).get (j:=1) rfl
  have e2_2:=(HAT.out _ HG2.out).get (j:=2) rfl
  have e2_3:=(HAT.out _ HG2.out).get (j:=3) rfl
  simp only[sN,sM]at e2_0 e2_1 e2_2 e2_3
  go_wp2_with fail
  go_end0
  exact⟨rfl,HK2.out,HB.out.trans HG2.out⟩
theorem ins_any_28(pw:Nat)(l:List MicD)(op rd rs1 rs2 imm pc:Int)(w:World)(hk:MkW pw 144 w l)(hl:l.length≤900)(hop:28≤op∧op≤45)(hz:¬rd=0):
    Calls Tryz.prog 64 #[.pointer (some ⟨pw,0,none⟩),.agg #[.int .i64 op,.int .i64 rd,.int .i64 rs1,.int .i64 rs2,.int .i32 imm],.int .u32 pc] w fun e w'=>e=.returned (.tuple #[])∧MkW pw 144 w' (l++insM ⟨op,rd,rs1,rs2,imm⟩ pc)∧Grew pw 144 w w':=by
  have hb:insM ⟨op,rd,rs1,rs2,imm⟩ pc=⟨1,0,0,0,pc⟩::[⟨400+op,rd,rs1,rs2,0⟩]:=by
    unfold insM jZ
    rw[if_neg dm]
    rw[if_neg dm]
    rw[if_neg dm]
    rw[if_neg dm]
    rw[if_neg dm]
    rw[if_neg dm]
    rw[if_neg dm]
    rw[if_neg dm]
    rw[if_pos dm]
    rw[if_neg hz]
  rw[hb]
  clear hb
  obtain⟨w1,hw1⟩:∃w1,w1=w.alloc (.cells #[.int .i64 op,.int .i64 rd,.int .i64 rs1,.int .i64 rs2,.int .i32 imm] 82):=⟨_,rfl⟩
  have hb1:Below w.heap.size w w1:=zK
  have HAT:Hid (∀W,Grew pw 144 w1 W→At W w.heap.size 0 [.int .i64 op,.int .i64 rd,.int .i64 rs1,.int .i64 rs2,.int .i32 imm]):=lI (fun W hW=>Qo hk.lt zI zH hW)
  have HK:=lI (hk.below hb1)
  have HB:=lI (Grew.of_below (pw:=pw) (ty:=144) hb1)
  have HW1:=lI hw1
  have HU:Hid (u32 imm=imm%4294967296∧u32 (pc+u32 imm)=(pc+imm%4294967296)%4294967296∧u32 (pc+4)=(pc+4)%4294967296):=lI ⟨rfl,rfl,rfl⟩
  obtain⟨ui,hui⟩:∃x,x=u32 imm:=⟨_,rfl⟩
  obtain⟨up,hup⟩:∃x,x=u32 (pc+ui):=⟨_,rfl⟩
  obtain⟨u4,hu4⟩:∃x,x=u32 (pc+4):=⟨_,rfl⟩
  have HUI:Hid (imm%4294967296=ui):=lI xN
  have HUP:Hid ((pc+ui)%4294967296=up):=lI xM
  have HU4:Hid ((pc+4)%4294967296=u4):=lI xO
  rw[←hui,←hup,←hu4]at HU
  (try simp only[←hui,←hup,←hu4])
  clear hui hup hu4 hw1 hb1 hk HU
  have c0:=(HAT.out _ (Grew.refl _ _ _)).get (j:=0) rfl
  have c4:=(HAT.out _ (Grew.refl _ _ _)).get (j:=4) rfl
  simp only[sN,sM]at c0 c4
  have a0:(op==1)=false:=zB
  have d0:decide (op=1)=false:=zB
  have a1:(op==2)=false:=zB
  have d1:decide (op=2)=false:=zB
  have a2:(op==3)=false:=zB
  have d2:decide (op=3)=false:=zB
  have a3:(op==4)=false:=zB
  have d3:decide (op=4)=false:=zB
  have a4:decide (op≤10)=false:=zB
  have a5:decide (op≤15)=false:=zB
  have a6:decide (op≤18)=false:=zB
  have a7:decide (op≤27)=false:=zB
  have a8:decide (op≤45)=true:=zB
  have aw:wrap64 (400+op)=400+op:=yH
  have z1:(rd==0)=false:=zB
  have z2:decide (rd=0)=false:=zB
  have z3:(rd !=0)=true:=zB
  go_enter Tryz.func64,Tryz.ntmps64
  go_upto_region 1 with(fail)
  rw[←HW1.out]
  go_upto_region 2 with(fail)
  try rw[HUI.out]
  go_wp2_with fail
  refine(QB pw l 1 0 0 0 pc w1 HK.out om).mono ?_
  rintro e w2 ⟨rfl,hk2,hg2⟩
  have HK2:=lI hk2
  have HG2:=lI hg2
  clear hk2 hg2 c0 c4
  have e2_0:=(HAT.out _ HG2.out).get (j:=0) rfl
  have e2_1:=(HAT.out _ HG2.out).get (j:=1) rfl
  have e2_2:=(HAT.out _ HG2.out).get (j:=2) rfl
  have e2_3:=(HAT.out _ HG2.out).get (j:=3) rfl
  simp only[sN,sM]at e2_0 e2_1 e2_2 e2_3
  go_wp2_with fail
  (try rw[HUI.out]);(try rw[HUP.out]);(try rw[HU4.out])
  refine(QB pw _ _ _ _ _ _ w2 HK2.out zB).mono ?_
  rintro e w3 ⟨rfl,hk3,hg3⟩
  have HK3:=lI hk3
  have HG3:=lI (HG2.out.trans hg3)
  clear hk3 hg3 e2_0 e2_1 e2_2 e2_3
  have e3_0:=(HAT.out _ HG3.out).get (j:=0) rfl
  have e3_1:=(HAT.out _ HG3.out).get (j:=1) rfl
  have e3_2:=(HAT.out _ HG3.out).get (j:=2) rfl
  have e3_3:=(HAT.out _ HG3.out).get (j:=3) rfl
  simp only[sN,sM]at e3_0 e3_1 e3_2 e3_3
  go_wp2_with fail
  go_end0
  exact⟨rfl,by have:=HK3.out;simpa using this,HB.out.trans HG3.out⟩
theorem ins_any_46(pw:Nat)(l:List MicD)(op rd rs1 rs2 imm pc:Int)(w:World)(hk:MkW pw 144 w l)(hl:l.length≤900)(hop:46≤op∧op≤56):
    Calls Tryz.prog 64 #[.pointer (some ⟨pw,0,none⟩),.agg #[.int .i64 op,.int .i64 rd,.int .i64 rs1,.int .i64 rs2,.int .i32 imm],.int .u32 pc] w fun e w'=>e=.returned (.tuple #[])∧MkW pw 144 w' (l++insM ⟨op,rd,rs1,rs2,imm⟩ pc)∧Grew pw 144 w w':=by
  have hb:insM ⟨op,rd,rs1,rs2,imm⟩ pc=⟨1,0,0,0,pc⟩::[⟨600+op,rd,rs1,rs2,0⟩]:=by
    unfold insM jZ
    rw[if_neg dm]
    rw[if_neg dm]
    rw[if_neg dm]
    rw[if_neg dm]
    rw[if_neg dm]
    rw[if_neg dm]
    rw[if_neg dm]
    rw[if_neg dm]
    rw[if_neg dm]
    rw[if_pos dm]
  rw[hb]
  clear hb
  obtain⟨w1,hw1⟩:∃w1,w1=w.alloc (.cells #[.int .i64 op,.int .i64 rd,.int .i64 rs1,.int .i64 rs2,.int .i32 imm] 82):=⟨_,rfl⟩
  have hb1:Below w.heap.size w w1:=zK
  have HAT:Hid (∀W,Grew pw 144 w1 W→At W w.heap.size 0 [.int .i64 op,.int .i64 rd,.int .i64 rs1,.int .i64 rs2,.int .i32 imm]):=lI (fun W hW=>Qo hk.lt zI zH hW)
  have HK:=lI (hk.below hb1)
  have HB:=lI (Grew.of_below (pw:=pw) (ty:=144) hb1)
  have HW1:=lI hw1
  have HU:Hid (u32 imm=imm%4294967296∧u32 (pc+u32 imm)=(pc+imm%4294967296)%4294967296∧u32 (pc+4)=(pc+4)%4294967296):=lI ⟨rfl,rfl,rfl⟩
  obtain⟨ui,hui⟩:∃x,x=u32 imm:=⟨_,rfl⟩
  obtain⟨up,hup⟩:∃x,x=u32 (pc+ui):=⟨_,rfl⟩
  obtain⟨u4,hu4⟩:∃x,x=u32 (pc+4):=⟨_,rfl⟩
  have HUI:Hid (imm%4294967296=ui):=lI xN
  have HUP:Hid ((pc+ui)%4294967296=up):=lI xM
  have HU4:Hid ((pc+4)%4294967296=u4):=lI xO
  rw[←hui,←hup,←hu4]at HU
  (try simp only[←hui,←hup,←hu4])
  clear hui hup hu4 hw1 hb1 hk HU
  have c0:=(HAT.out _ (Grew.refl _ _ _)).get (j:=0) rfl
  have c4:=(HAT.out _ (Grew.refl _ _ _)).get (j:=4) rfl
  simp only[sN,sM]at c0 c4
  have a0:(op==1)=false:=zB
  have d0:decide (op=1)=false:=zB
  have a1:(op==2)=false:=zB
  have d1:decide (op=2)=false:=zB
  have a2:(op==3)=false:=zB
  have d2:decide (op=3)=false:=zB
  have a3:(op==4)=false:=zB
  have d3:decide (op=4)=false:=zB
  have a4:decide (op≤10)=false:=zB
  have a5:decide (op≤15)=false:=zB
  have a6:decide (op≤18)=false:=zB
  have a7:decide (op≤27)=false:=zB
  have a8:decide (op≤45)=false:=zB
  have a9:decide (op≤56)=true:=zB
  have aw:wrap64 (600+op)=600+op:=yH
  go_enter Tryz.func64,Tryz.ntmps64
  go_upto_region 1 with(fail)
  rw[←HW1.out]
  go_upto_region 2 with(fail)
  try rw[HUI.out]
  go_wp2_with fail
  refine(QB pw l 1 0 0 0 pc w1 HK.out om).mono ?_
  rintro e w2 ⟨rfl,hk2,hg2⟩
  have HK2:=lI hk2
  have HG2:=lI hg2
  clear hk2 hg2 c0 c4
  have e2_0:=(HAT.out _ HG2.out).get (j:=0) rfl
  have e2_1:=(HAT.out _ HG2.out).get (j:=1) rfl
  have e2_2:=(HAT.out _ HG2.out).get (j:=2) rfl
  have e2_3:=(HAT.out _ HG2.out).get (j:=3) rfl
  simp only[sN,sM]at e2_0 e2_1 e2_2 e2_3
  go_wp2_with fail
  (try rw[HUI.out]);(try rw[HUP.out]);(try rw[HU4.out])
  refine(QB pw _ _ _ _ _ _ w2 HK2.out zB).mono ?_
  rintro e w3 ⟨rfl,hk3,hg3⟩
  have HK3:=lI hk3
  have HG3:=lI (HG2.out.trans hg3)
  clear hk3 hg3 e2_0 e2_1 e2_2 e2_3
  have e3_0:=(HAT.out _ HG3.out).get (j:=0) rfl
  have e3_1:=(HAT.out _ HG3.out).get (j:=1) rfl
  have e3_2:=(HAT.out _ HG3.out).get (j:=2) rfl
  have e3_3:=(HAT.out _ HG3.out).get (j:=3) rfl
  simp only[sN,sM]at e3_0 e3_1 e3_2 e3_3
  go_wp2_with fail
  go_end0
  exact⟨rfl,by have:=HK3.out;simpa using this,HB.out.trans HG3.out⟩
theorem ins_any_57(pw:Nat)(l:List MicD)(op rd rs1 rs2 imm pc:Int)(w:World)(hk:MkW pw 144 w l)(hl:l.length≤900)(hop:57≤op∧op≤57):
    Calls Tryz.prog 64 #[.pointer (some ⟨pw,0,none⟩),.agg #[.int .i64 op,.int .i64 rd,.int .i64 rs1,.int .i64 rs2,.int .i32 imm],.int .u32 pc] w fun e w'=>e=.returned (.tuple #[])∧MkW pw 144 w' (l++insM ⟨op,rd,rs1,rs2,imm⟩ pc)∧Grew pw 144 w w':=by
  have hb:insM ⟨op,rd,rs1,rs2,imm⟩ pc=⟨1,0,0,0,pc⟩::[]:=by
    unfold insM jZ
    rw[if_neg dm]
    rw[if_neg dm]
    rw[if_neg dm]
    rw[if_neg dm]
    rw[if_neg dm]
    rw[if_neg dm]
    rw[if_neg dm]
    rw[if_neg dm]
    rw[if_neg dm]
    rw[if_neg dm]
    rw[if_neg dm]
    rw[if_neg dm]
  rw[hb]
  clear hb
  obtain⟨w1,hw1⟩:∃w1,w1=w.alloc (.cells #[.int .i64 op,.int .i64 rd,.int .i64 rs1,.int .i64 rs2,.int .i32 imm] 82):=⟨_,rfl⟩
  have hb1:Below w.heap.size w w1:=zK
  have HAT:Hid (∀W,Grew pw 144 w1 W→At W w.heap.size 0 [.int .i64 op,.int .i64 rd,.int .i64 rs1,.int .i64 rs2,.int .i32 imm]):=lI (fun W hW=>Qo hk.lt zI zH hW)
  have HK:=lI (hk.below hb1)
  have HB:=lI (Grew.of_below (pw:=pw) (ty:=144) hb1)
  have HW1:=lI hw1
  have HU:Hid (u32 imm=imm%4294967296∧u32 (pc+u32 imm)=(pc+imm%4294967296)%4294967296∧u32 (pc+4)=(pc+4)%4294967296):=lI ⟨rfl,rfl,rfl⟩
  obtain⟨ui,hui⟩:∃x,x=u32 imm:=⟨_,rfl⟩
  obtain⟨up,hup⟩:∃x,x=u32 (pc+ui):=⟨_,rfl⟩
  obtain⟨u4,hu4⟩:∃x,x=u32 (pc+4):=⟨_,rfl⟩
  have HUI:Hid (imm%4294967296=ui):=lI xN
  have HUP:Hid ((pc+ui)%4294967296=up):=lI xM
  have HU4:Hid ((pc+4)%4294967296=u4):=lI xO
  rw[←hui,←hup,←hu4]at HU
  (try simp only[←hui,←hup,←hu4])
  clear hui hup hu4 hw1 hb1 hk HU
  have c0:=(HAT.out _ (Grew.refl _ _ _)).get (j:=0) rfl
  have c4:=(HAT.out _ (Grew.refl _ _ _)).get (j:=4) rfl
  simp only[sN,sM]at c0 c4
  obtain rfl:op=57:=om
  go_enter Tryz.func64,Tryz.ntmps64
  go_upto_region 1 with(fail)
  rw[←HW1.out]
  go_upto_region 2 with(fail)
  try rw[HUI.out]
  go_wp2_with fail
  refine(QB pw l 1 0 0 0 pc w1 HK.out om).mono ?_
  rintro e w2 ⟨rfl,hk2,hg2⟩
  have HK2:=lI hk2
  have HG2:=lI hg2
  clear hk2 hg2 c0 c4
  have e2_0:=(HAT.out _ HG2.out).get (j:=0) rfl
  have e2_1:=(HAT.out _ HG2.out).get (j:=1) rfl
  have e2_2:=(HAT.out _ HG2.out).get (j:=2) rfl
  have e2_3:=(HAT.out _ HG2.out).get (j:=3) rfl
  simp only[sN,sM]at e2_0 e2_1 e2_2 e2_3
  go_wp2_with fail
  go_end0
  exact⟨rfl,HK2.out,HB.out.trans HG2.out⟩
theorem ins_any_58(pw:Nat)(l:List MicD)(op rd rs1 rs2 imm pc:Int)(w:World)(hk:MkW pw 144 w l)(hl:l.length≤900)(hop:58≤op∧op≤58):
    Calls Tryz.prog 64 #[.pointer (some ⟨pw,0,none⟩),.agg #[.int .i64 op,.int .i64 rd,.int .i64 rs1,.int .i64 rs2,.int .i32 imm],.int .u32 pc] w fun e w'=>e=.returned (.tuple #[])∧MkW pw 144 w' (l++insM ⟨op,rd,rs1,rs2,imm⟩ pc)∧Grew pw 144 w w':=by
  have hb:insM ⟨op,rd,rs1,rs2,imm⟩ pc=⟨1,0,0,0,pc⟩::[⟨5,0,0,0,0⟩]:=by
    unfold insM jZ
    rw[if_neg dm]
    rw[if_neg dm]
    rw[if_neg dm]
    rw[if_neg dm]
    rw[if_neg dm]
    rw[if_neg dm]
    rw[if_neg dm]
    rw[if_neg dm]
    rw[if_neg dm]
    rw[if_neg dm]
    rw[if_pos dm]
  rw[hb]
  clear hb
  obtain⟨w1,hw1⟩:∃w1,w1=w.alloc (.cells #[.int .i64 op,.int .i64 rd,.int .i64 rs1,.int .i64 rs2,.int .i32 imm] 82):=⟨_,rfl⟩
  have hb1:Below w.heap.size w w1:=zK
  have HAT:Hid (∀W,Grew pw 144 w1 W→At W w.heap.size 0 [.int .i64 op,.int .i64 rd,.int .i64 rs1,.int .i64 rs2,.int .i32 imm]):=lI (fun W hW=>Qo hk.lt zI zH hW)
  have HK:=lI (hk.below hb1)
  have HB:=lI (Grew.of_below (pw:=pw) (ty:=144) hb1)
  have HW1:=lI hw1
  have HU:Hid (u32 imm=imm%4294967296∧u32 (pc+u32 imm)=(pc+imm%4294967296)%4294967296∧u32 (pc+4)=(pc+4)%4294967296):=lI ⟨rfl,rfl,rfl⟩
  obtain⟨ui,hui⟩:∃x,x=u32 imm:=⟨_,rfl⟩
  obtain⟨up,hup⟩:∃x,x=u32 (pc+ui):=⟨_,rfl⟩
  obtain⟨u4,hu4⟩:∃x,x=u32 (pc+4):=⟨_,rfl⟩
  have HUI:Hid (imm%4294967296=ui):=lI xN
  have HUP:Hid ((pc+ui)%4294967296=up):=lI xM
  have HU4:Hid ((pc+4)%4294967296=u4):=lI xO
  rw[←hui,←hup,←hu4]at HU
  (try simp only[←hui,←hup,←hu4])
  clear hui hup hu4 hw1 hb1 hk HU
  have c0:=(HAT.out _ (Grew.refl _ _ _)).get (j:=0) rfl
  have c4:=(HAT.out _ (Grew.refl _ _ _)).get (j:=4) rfl
  simp only[sN,sM]at c0 c4
  obtain rfl:op=58:=om
  go_enter Tryz.func64,Tryz.ntmps64
  go_upto_region 1 with(fail)
  rw[←HW1.out]
  go_upto_region 2 with(fail)
  try rw[HUI.out]
  go_wp2_with fail
  refine(QB pw l 1 0 0 0 pc w1 HK.out om).mono ?_
  rintro e w2 ⟨rfl,hk2,hg2⟩
  have HK2:=lI hk2
  have HG2:=lI hg2
  clear hk2 hg2 c0 c4
  have e2_0:=(HAT.out _ HG2.out).get (j:=0) rfl
  have e2_1:=(HAT.out _ HG2.out).get (j:=1) rfl
  have e2_2:=(HAT.out _ HG2.out).get (j:=2) rfl
  have e2_3:=(HAT.out _ HG2.out).get (j:=3) rfl
  simp only[sN,sM]at e2_0 e2_1 e2_2 e2_3
  go_wp2_with fail
  (try rw[HUI.out]);(try rw[HUP.out]);(try rw[HU4.out])
  refine(QB pw _ _ _ _ _ _ w2 HK2.out zB).mono ?_
  rintro e w3 ⟨rfl,hk3,hg3⟩
  have HK3:=lI hk3
  have HG3:=lI (HG2.out.trans hg3)
  clear hk3 hg3 e2_0 e2_1 e2_2 e2_3
  have e3_0:=(HAT.out _ HG3.out).get (j:=0) rfl
  have e3_1:=(HAT.out _ HG3.out).get (j:=1) rfl
  have e3_2:=(HAT.out _ HG3.out).get (j:=2) rfl
  have e3_3:=(HAT.out _ HG3.out).get (j:=3) rfl
  simp only[sN,sM]at e3_0 e3_1 e3_2 e3_3
  go_wp2_with fail
  go_end0
  exact⟨rfl,by have:=HK3.out;simpa using this,HB.out.trans HG3.out⟩
theorem ins_any_59(pw:Nat)(l:List MicD)(op rd rs1 rs2 imm pc:Int)(w:World)(hk:MkW pw 144 w l)(hl:l.length≤900)(hop:59≤op∧op≤59):
    Calls Tryz.prog 64 #[.pointer (some ⟨pw,0,none⟩),.agg #[.int .i64 op,.int .i64 rd,.int .i64 rs1,.int .i64 rs2,.int .i32 imm],.int .u32 pc] w fun e w'=>e=.returned (.tuple #[])∧MkW pw 144 w' (l++insM ⟨op,rd,rs1,rs2,imm⟩ pc)∧Grew pw 144 w w':=by
  have hb:insM ⟨op,rd,rs1,rs2,imm⟩ pc=⟨1,0,0,0,pc⟩::[⟨6,0,0,0,0⟩]:=by
    unfold insM jZ
    rw[if_neg dm]
    rw[if_neg dm]
    rw[if_neg dm]
    rw[if_neg dm]
    rw[if_neg dm]
    rw[if_neg dm]
    rw[if_neg dm]
    rw[if_neg dm]
    rw[if_neg dm]
    rw[if_neg dm]
    rw[if_neg dm]
    rw[if_pos dm]
  rw[hb]
  clear hb
  obtain⟨w1,hw1⟩:∃w1,w1=w.alloc (.cells #[.int .i64 op,.int .i64 rd,.int .i64 rs1,.int .i64 rs2,.int .i32 imm] 82):=⟨_,rfl⟩
  have hb1:Below w.heap.size w w1:=zK
  have HAT:Hid (∀W,Grew pw 144 w1 W→At W w.heap.size 0 [.int .i64 op,.int .i64 rd,.int .i64 rs1,.int .i64 rs2,.int .i32 imm]):=lI (fun W hW=>Qo hk.lt zI zH hW)
  have HK:=lI (hk.below hb1)
  have HB:=lI (Grew.of_below (pw:=pw) (ty:=144) hb1)
  have HW1:=lI hw1
  have HU:Hid (u32 imm=imm%4294967296∧u32 (pc+u32 imm)=(pc+imm%4294967296)%4294967296∧u32 (pc+4)=(pc+4)%4294967296):=lI ⟨rfl,rfl,rfl⟩
  obtain⟨ui,hui⟩:∃x,x=u32 imm:=⟨_,rfl⟩
  obtain⟨up,hup⟩:∃x,x=u32 (pc+ui):=⟨_,rfl⟩
  obtain⟨u4,hu4⟩:∃x,x=u32 (pc+4):=⟨_,rfl⟩
  have HUI:Hid (imm%4294967296=ui):=lI xN
  have HUP:Hid ((pc+ui)%4294967296=up):=lI xM
  have HU4:Hid ((pc+4)%4294967296=u4):=lI xO
  rw[←hui,←hup,←hu4]at HU
  (try simp only[←hui,←hup,←hu4])
  clear hui hup hu4 hw1 hb1 hk HU
  have c0:=(HAT.out _ (Grew.refl _ _ _)).get (j:=0) rfl
  have c4:=(HAT.out _ (Grew.refl _ _ _)).get (j:=4) rfl
  simp only[sN,sM]at c0 c4
  obtain rfl:op=59:=om
  go_enter Tryz.func64,Tryz.ntmps64
  go_upto_region 1 with(fail)
  rw[←HW1.out]
  go_upto_region 2 with(fail)
  try rw[HUI.out]
  go_wp2_with fail
  refine(QB pw l 1 0 0 0 pc w1 HK.out om).mono ?_
  rintro e w2 ⟨rfl,hk2,hg2⟩
  have HK2:=lI hk2
  have HG2:=lI hg2
  clear hk2 hg2 c0 c4
  have e2_0:=(HAT.out _ HG2.out).get (j:=0) rfl
  have e2_1:=(HAT.out _ HG2.out).get (j:=1) rfl
  have e2_2:=(HAT.out _ HG2.out).get (j:=2) rfl
  have e2_3:=(HAT.out _ HG2.out).get (j:=3) rfl
  simp only[sN,sM]at e2_0 e2_1 e2_2 e2_3
  go_wp2_with fail
  (try rw[HUI.out]);(try rw[HUP.out]);(try rw[HU4.out])
  refine(QB pw _ _ _ _ _ _ w2 HK2.out zB).mono ?_
  rintro e w3 ⟨rfl,hk3,hg3⟩
  have HK3:=lI hk3
  have HG3:=lI (HG2.out.trans hg3)
  clear hk3 hg3 e2_0 e2_1 e2_2 e2_3
  have e3_0:=(HAT.out _ HG3.out).get (j:=0) rfl
  have e3_1:=(HAT.out _ HG3.out).get (j:=1) rfl
  have e3_2:=(HAT.out _ HG3.out).get (j:=2) rfl
  have e3_3:=(HAT.out _ HG3.out).get (j:=3) rfl
  simp only[sN,sM]at e3_0 e3_1 e3_2 e3_3
  go_wp2_with fail
  go_end0
  exact⟨rfl,by have:=HK3.out;simpa using this,HB.out.trans HG3.out⟩
theorem ins_any(pw:Nat)(l:List MicD)(i:InsD)(pc:Int)(w:World)(hk:MkW pw 144 w l)(hl:l.length≤900)(hi:isS i=true):
    Calls Tryz.prog 64 #[.pointer (some ⟨pw,0,none⟩),.agg (ql i),.int .u32 pc] w fun e w'=>e=.returned (.tuple #[])∧MkW pw 144 w' (l++insM i pc)∧Grew pw 144 w w':=by
  obtain⟨h1,-⟩:=isS_regs hi
  clear hi
  obtain⟨op,rd,rs1,rs2,imm⟩:=i
  simp only[ql]
  dsimp only at h1
  by_cases c1:1≤op∧op≤1
  · exact ins_any_1 pw l op rd rs1 rs2 imm pc w hk hl c1
  by_cases c2:2≤op∧op≤2
  · exact ins_any_2 pw l op rd rs1 rs2 imm pc w hk hl c2
  by_cases c3:3≤op∧op≤3
  · exact ins_any_3 pw l op rd rs1 rs2 imm pc w hk hl c3
  by_cases c4:4≤op∧op≤4
  · exact ins_any_4 pw l op rd rs1 rs2 imm pc w hk hl c4
  by_cases c5:5≤op∧op≤10
  · exact ins_any_5 pw l op rd rs1 rs2 imm pc w hk hl c5
  by_cases c11:11≤op∧op≤15
  · exact ins_any_11 pw l op rd rs1 rs2 imm pc w hk hl c11
  by_cases c16:16≤op∧op≤18
  · exact ins_any_16 pw l op rd rs1 rs2 imm pc w hk hl c16
  by_cases c19:19≤op∧op≤27
  · exact ins_any_19 pw l op rd rs1 rs2 imm pc w hk hl c19
  by_cases c28z:28≤op∧op≤45
  · by_cases hz:rd=0
    · exact ins_any_28z pw l op rd rs1 rs2 imm pc w hk hl c28z hz
    · exact ins_any_28 pw l op rd rs1 rs2 imm pc w hk hl c28z hz
  by_cases c46:46≤op∧op≤56
  · exact ins_any_46 pw l op rd rs1 rs2 imm pc w hk hl c46
  by_cases c57:57≤op∧op≤57
  · exact ins_any_57 pw l op rd rs1 rs2 imm pc w hk hl c57
  by_cases c58:58≤op∧op≤58
  · exact ins_any_58 pw l op rd rs1 rs2 imm pc w hk hl c58
  by_cases c59:59≤op∧op≤59
  · exact ins_any_59 pw l op rd rs1 rs2 imm pc w hk hl c59
  omega
end Go.Proofs.YtlfnddmncbkjaacGreat.W
