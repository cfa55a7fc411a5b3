import Derived.Test.YtlfnddmncbkjaabGreatDoorZGA
set_option linter.unusedVariables false
set_option linter.unusedSimpArgs false
set_option maxRecDepth 100000
set_option maxHeartbeats 4000000
namespace Go.Proofs.YtlfnddmncbkjaabGreatDoor.Fb
open Go.RowKit
def SRow(w:World)(v:Value)(xs:List (List UInt8)):Prop:=(xs=[]∧v=.slice none 0 0)∨∃b,v=.slice (some ⟨b,0,none⟩) xs.length xs.length∧b<w.heap.size∧∀(j:Nat) x,xs[j]? =some x→w.cell? ⟨b,j,none⟩=some (.string (bs x))
theorem SRow.two(w:World)(t:TypeId)(a b:List UInt8):SRow (w.alloc (.cells #[.string (bs a),.string (bs b)] t)) (.slice (some ⟨w.heap.size,0,none⟩) 2 2) [a,b]:=
  .inr ⟨_,rfl,by simp,fun j x h=>by
    rw[World.cell?_alloc_at _ _ _ _ rfl]
    match j,h with
    |0,h=>cases h;rfl
    |1,h=>cases h;rfl
    |j+2,h=>simp at h⟩
theorem SRow.three(w:World)(t:TypeId)(a b c:List UInt8):SRow (w.alloc (.cells #[.string (bs a),.string (bs b),.string (bs c)] t)) (.slice (some ⟨w.heap.size,0,none⟩) 3 3) [a,b,c]:=
  .inr ⟨_,rfl,by simp,fun j x h=>by
    rw[World.cell?_alloc_at _ _ _ _ rfl]
    match j,h with
    |0,h=>cases h;rfl
    |1,h=>cases h;rfl
    |2,h=>cases h;rfl
    |j+3,h=>simp at h⟩
end Go.Proofs.YtlfnddmncbkjaabGreatDoor.Fb
namespace Go.Proofs.YtlfnddmncbkjaabGreatDoor.W
open Go.RowKit Fb
theorem itoa_any (n : Int) (hn : -9223372036854775808 ≤ n ∧ n ≤ 9223372036854775807) (w : World) (h : Lib.TabIs Tryz.prog w "internal/strconv.uint64pow10" .u64 Lib.pow10Tab) :
    Calls Tryz.prog 19 #[.int .i64 n] w fun e w'=>e=.returned (.string (bs (Lib.itoa n)))∧Below w.heap.size w w':=
  (Tryz.strconv_Itoa n hn.1 hn.2 w h).mono fun e w' ⟨h1,k,os,h2⟩=>⟨h1,by rw[h2];exact Lib.below_grow _ _ (sN _) k os⟩
theorem cK{p:Prop}(h:p:=by
 go_wp2_with fail
 refine qZ (fun W=>Below w2.heap.size w2 W) 7 kr kr (Below.drew br) ?_
 simp only[List.take_succ_cons,List.take_zero]
 quiet_step ((intro _;rfl))
 refine qa rfl 3 _ rfl ⟨w.heap.size,1,none⟩ rfl (.int .i64 rd) (fun W hW=>by have hc:=(hW.cell (p:=⟨w.heap.size,1,none⟩) hlw).trans d1;go_simp) ?_
 quiet_step ((intro hC;exact(HR.out rd om _).mono (fun e w'' ⟨he,hw⟩=>⟨he,hw ▸ hC⟩)))
 quiet_step ((intro _;rfl))
 refine qa rfl 3 _ rfl ⟨w.heap.size,2,none⟩ rfl (.int .i64 rs1) (fun W hW=>by have hc:=(hW.cell (p:=⟨w.heap.size,2,none⟩) hlw).trans d2;go_simp) ?_
 quiet_step ((intro hC;exact(HR.out rs1 om _).mono (fun e w'' ⟨he,hw⟩=>⟨he,hw ▸ hC⟩)))
 quiet_step ((intro _;rfl))
 refine wpQuiet_nil ?_
 intro w9 hb9
 simp only[List.drop_succ_cons,List.drop_zero]
 go_wp2_with fail
 go_ret
 refine⟨⟨_,rfl, ?_⟩,(HWB.out.trans (hb9.mono HWB.out.size)).alloc (Nat.le_trans HWB.out.size hb9.size) _⟩
 rw[HBN.out]
 exact SRow.three w9 _ _ _ _):p:=h
theorem cL{p:Prop}(h:p:=by
 refine wpQuiet_nil ?_
 intro w9 hb9
 simp only[List.drop_succ_cons,List.drop_zero]
 go_wp2_with fail
 go_ret
 refine⟨⟨_,rfl, ?_⟩,(HWB.out.trans (hb9.mono HWB.out.size)).alloc (Nat.le_trans HWB.out.size hb9.size) _⟩
 exact SRow.two w9 _ _ _):p:=h
theorem cM{p:Prop}(h:p:=by
 refine jr rfl 91 _ rfl w.heap.size 0 rfl #[.int .i64 op,.int .i64 rd,.int .i64 rs1,.int .i64 rs2,.int .i32 imm] _ (fun W hW=>HATI.out.of_lt hW hlw) Tryz.underlying91 rfl kr ?_
 quiet_step ((intro _;rfl))
 quiet_step ((intro hC;exact(HATN.out _).mono (fun e w'' ⟨he,hb⟩=>⟨he,hC.trans (hb.mono hC.size)⟩)))
 exact cL):p:=h
theorem cN{p:Prop}(h:p:=by
 refine wpQuiet_nil ?_
 intro w9 hb9
 simp only[List.drop_succ_cons,List.drop_zero]
 go_wp2_with fail
 go_ret
 refine⟨⟨_,rfl, ?_⟩,(HWB.out.trans (hb9.mono HWB.out.size)).alloc (Nat.le_trans HWB.out.size hb9.size) _⟩
 exact SRow.three w9 _ _ _ _):p:=h
theorem ji :(∀ (op rd rs1 rs2 imm : Int) (hcl : op ≤ 2) (hop : 1 ≤ op ∧ op ≤ 59) (hr : (0 ≤ rd ∧ rd ≤ 31) ∧ (0 ≤ rs1 ∧ rs1 ≤ 31) ∧ 0 ≤ rs2 ∧ rs2 ≤ 31) (hi : -2147483648 ≤ imm ∧ imm ≤ 2147483647) (w : World) (HT : Hid (Lib.TabBelow Tryz.prog w.heap.size w "internal/strconv.uint64pow10" .u64 Lib.pow10Tab)), Calls Tryz.prog 95 #[.agg #[.int .i64 op, .int .i64 rd, .int .i64 rs1, .int .i64 rs2, .int .i32 imm]] w fun e w' => (∃ v, e = .returned v ∧ SRow w' v [regS rd, Lib.itoa (imm / 4096)]) ∧ Below w.heap.size w w') ∧ (∀ (op rd rs1 rs2 imm : Int) (hcl : op = 4 ∨ (19 ≤ op ∧ op ≤ 27) ∨ op = 57) (hop : 1 ≤ op ∧ op ≤ 59) (hr : (0 ≤ rd ∧ rd ≤ 31) ∧ (0 ≤ rs1 ∧ rs1 ≤ 31) ∧ 0 ≤ rs2 ∧ rs2 ≤ 31) (hi : -2147483648 ≤ imm ∧ imm ≤ 2147483647) (w : World) (HT : Hid (Lib.TabBelow Tryz.prog w.heap.size w "internal/strconv.uint64pow10" .u64 Lib.pow10Tab)), Calls Tryz.prog 95 #[.agg #[.int .i64 op, .int .i64 rd, .int .i64 rs1, .int .i64 rs2, .int .i32 imm]] w fun e w' => (∃ v, e = .returned v ∧ SRow w' v [regS rd, regS rs1, Lib.itoa imm]) ∧ Below w.heap.size w w') ∧ (∀ (op rd rs1 rs2 imm : Int) (hcl : 5 ≤ op ∧ op ≤ 10) (hop : 1 ≤ op ∧ op ≤ 59) (hr : (0 ≤ rd ∧ rd ≤ 31) ∧ (0 ≤ rs1 ∧ rs1 ≤ 31) ∧ 0 ≤ rs2 ∧ rs2 ≤ 31) (hi : -2147483648 ≤ imm ∧ imm ≤ 2147483647) (w : World) (HT : Hid (Lib.TabBelow Tryz.prog w.heap.size w "internal/strconv.uint64pow10" .u64 Lib.pow10Tab)), Calls Tryz.prog 95 #[.agg #[.int .i64 op, .int .i64 rd, .int .i64 rs1, .int .i64 rs2, .int .i32 imm]] w fun e w' => (∃ v, e = .returned v ∧ SRow w' v [regS rs1, regS rs2, Lib.itoa imm]) ∧ Below w.heap.size w w') ∧ (∀ (op rd rs1 rs2 imm : Int) (hcl : 11 ≤ op ∧ op ≤ 15) (hop : 1 ≤ op ∧ op ≤ 59) (hr : (0 ≤ rd ∧ rd ≤ 31) ∧ (0 ≤ rs1 ∧ rs1 ≤ 31) ∧ 0 ≤ rs2 ∧ rs2 ≤ 31) (hi : -2147483648 ≤ imm ∧ imm ≤ 2147483647) (w : World) (HT : Hid (Lib.TabBelow Tryz.prog w.heap.size w "internal/strconv.uint64pow10" .u64 Lib.pow10Tab)), Calls Tryz.prog 95 #[.agg #[.int .i64 op, .int .i64 rd, .int .i64 rs1, .int .i64 rs2, .int .i32 imm]] w fun e w' => (∃ v, e = .returned v ∧ SRow w' v [regS rd, atS rs1 (Lib.itoa imm)]) ∧ Below w.heap.size w w') ∧ (∀ (op rd rs1 rs2 imm : Int) (hcl : 16 ≤ op ∧ op ≤ 18) (hop : 1 ≤ op ∧ op ≤ 59) (hr : (0 ≤ rd ∧ rd ≤ 31) ∧ (0 ≤ rs1 ∧ rs1 ≤ 31) ∧ 0 ≤ rs2 ∧ rs2 ≤ 31) (hi : -2147483648 ≤ imm ∧ imm ≤ 2147483647) (w : World) (HT : Hid (Lib.TabBelow Tryz.prog w.heap.size w "internal/strconv.uint64pow10" .u64 Lib.pow10Tab)), Calls Tryz.prog 95 #[.agg #[.int .i64 op, .int .i64 rd, .int .i64 rs1, .int .i64 rs2, .int .i32 imm]] w fun e w' => (∃ v, e = .returned v ∧ SRow w' v [regS rs2, atS rs1 (Lib.itoa imm)]) ∧ Below w.heap.size w w') ∧ (∀ (op rd rs1 rs2 imm : Int) (hcl : 28 ≤ op ∧ op ≤ 45) (hop : 1 ≤ op ∧ op ≤ 59) (hr : (0 ≤ rd ∧ rd ≤ 31) ∧ (0 ≤ rs1 ∧ rs1 ≤ 31) ∧ 0 ≤ rs2 ∧ rs2 ≤ 31) (hi : -2147483648 ≤ imm ∧ imm ≤ 2147483647) (w : World) (HT : Hid (Lib.TabBelow Tryz.prog w.heap.size w "internal/strconv.uint64pow10" .u64 Lib.pow10Tab)), Calls Tryz.prog 95 #[.agg #[.int .i64 op, .int .i64 rd, .int .i64 rs1, .int .i64 rs2, .int .i32 imm]] w fun e w' => (∃ v, e = .returned v ∧ SRow w' v [regS rd, regS rs1, regS rs2]) ∧ Below w.heap.size w w') ∧ (∀ (op rd rs1 rs2 imm : Int) (hcl : op = 46) (hop : 1 ≤ op ∧ op ≤ 59) (hr : (0 ≤ rd ∧ rd ≤ 31) ∧ (0 ≤ rs1 ∧ rs1 ≤ 31) ∧ 0 ≤ rs2 ∧ rs2 ≤ 31) (hi : -2147483648 ≤ imm ∧ imm ≤ 2147483647) (w : World) (HT : Hid (Lib.TabBelow Tryz.prog w.heap.size w "internal/strconv.uint64pow10" .u64 Lib.pow10Tab)), Calls Tryz.prog 95 #[.agg #[.int .i64 op, .int .i64 rd, .int .i64 rs1, .int .i64 rs2, .int .i32 imm]] w fun e w' => (∃ v, e = .returned v ∧ SRow w' v [regS rd, atS rs1 []]) ∧ Below w.heap.size w w') ∧ (∀ (op rd rs1 rs2 imm : Int) (hcl : 47 ≤ op ∧ op ≤ 56) (hop : 1 ≤ op ∧ op ≤ 59) (hr : (0 ≤ rd ∧ rd ≤ 31) ∧ (0 ≤ rs1 ∧ rs1 ≤ 31) ∧ 0 ≤ rs2 ∧ rs2 ≤ 31) (hi : -2147483648 ≤ imm ∧ imm ≤ 2147483647) (w : World) (HT : Hid (Lib.TabBelow Tryz.prog w.heap.size w "internal/strconv.uint64pow10" .u64 Lib.pow10Tab)), Calls Tryz.prog 95 #[.agg #[.int .i64 op, .int .i64 rd, .int .i64 rs1, .int .i64 rs2, .int .i32 imm]] w fun e w' => (∃ v, e = .returned v ∧ SRow w' v [regS rd, regS rs2, atS rs1 []]) ∧ Below w.heap.size w w') := by
 refine⟨fun op rd rs1 rs2 imm hcl hop hr hi w HT=> ?_,fun op rd rs1 rs2 imm hcl hop hr hi w HT=> ?_,fun op rd rs1 rs2 imm hcl hop hr hi w HT=> ?_,fun op rd rs1 rs2 imm hcl hop hr hi w HT=> ?_,fun op rd rs1 rs2 imm hcl hop hr hi w HT=> ?_,fun op rd rs1 rs2 imm hcl hop hr hi w HT=> ?_,fun op rd rs1 rs2 imm hcl hop hr hi w HT=> ?_,fun op rd rs1 rs2 imm hcl hop hr hi w HT=> ?_⟩
 all_goals
  obtain⟨w1,hw1⟩:∃w1,w1=w.alloc (.cells #[.int .i64 op,.int .i64 rd,.int .i64 rs1,.int .i64 rs2,.int .i32 imm] 91):=⟨_,rfl⟩
  have hb1:Below w.heap.size w w1:=zI
  have hs1:w.heap.size<w1.heap.size:=zO
  have hati:At w1 w.heap.size 0 [.int .i64 op,.int .i64 rd,.int .i64 rs1,.int .i64 rs2,.int .i32 imm]:=zG
  have c0:w1.cell? ⟨w.heap.size,0,none⟩=some (.int .i64 op):=zA
  have c1:w1.cell? ⟨w.heap.size,1,none⟩=some (.int .i64 rd):=zA
  have c2:w1.cell? ⟨w.heap.size,2,none⟩=some (.int .i64 rs1):=zA
  have c3:w1.cell? ⟨w.heap.size,3,none⟩=some (.int .i64 rs2):=zA
  have c4:w1.cell? ⟨w.heap.size,4,none⟩=some (.int .i32 imm):=zA
  have HIT:Hid (∀n:Int,(-2147483648≤n∧n≤2147483647)→∀W,Below w.heap.size w W→_):=lI (fun n hn W hW=>itoa_any n om W (HT.out W hW))
  have HR:=lI (fun n hn W=>reg_any n hn W)
  have HATN:=lI (fun W=>at_any ⟨op,rd,rs1,rs2,imm⟩ (Lib.itoa imm) (Nat.le_trans (jv imm om) zF) hr.2.1 W)
  have HAT0:=lI (fun W=>at_any ⟨op,rd,rs1,rs2,imm⟩ [] zF hr.2.1 W)
  simp only[qr]at HATN HAT0
  obtain⟨⟨r0,r1⟩,⟨r2,r3⟩,r4,r5⟩:=hr
  obtain⟨o0,o1⟩:=hop
  obtain⟨i0,i1⟩:=hi
  have HB1:=lI hb1
  have HW1:=lI hw1
  have HA1:=lI hati
  have hwi:IntKind.i64.wrap imm=imm:=zU
 · have HCL:=lI hcl
   clear hw1 hati hb1 HT hcl
   go_enter Tryz.func95,Tryz.ntmps95
   go_upto_region 1 with(fail)
   rw[←HW1.out]
   go_wp2_with fail
   (try rw[hwi])
   refine(HIT.out imm ⟨i0,i1⟩ w1 HB1.out).mono ?_
   rintro e w2 ⟨rfl,hb2⟩
   have d0:=(hb2.cell (p:=⟨w.heap.size,0,none⟩) hs1).trans c0
   have d1:=(hb2.cell (p:=⟨w.heap.size,1,none⟩) hs1).trans c1
   have d2:=(hb2.cell (p:=⟨w.heap.size,2,none⟩) hs1).trans c2
   have d3:=(hb2.cell (p:=⟨w.heap.size,3,none⟩) hs1).trans c3
   have d4:=(hb2.cell (p:=⟨w.heap.size,4,none⟩) hs1).trans c4
   have hlw:w.heap.size<w2.heap.size:=Nat.lt_of_lt_of_le hs1 hb2.size
   have HATI:=lI (HA1.out.of_lt hb2 hs1)
   have HWB:=lI (HB1.out.trans (hb2.mono HB1.out.size))
   obtain⟨bn,hbn⟩:∃b,b=bs (Lib.itoa imm):=⟨_,rfl⟩
   rw[←hbn]at HATN ⊢
   have HBN:=lI hbn
   clear c0 c1 c2 c3 c4 hb2 hs1 hbn
   have g1:=HCL.out
   have q3:(op==3)=false:=sH.2 om
   have q4:(op==4)=false:=sH.2 om
   have q46:(op==46)=false:=sH.2 om
   have q57:(op==57)=false:=sH.2 om
   go_wp2_with fail
   refine qZ (fun W=>Below w2.heap.size w2 W) 8 kr kr (Below.drew br) ?_
   simp only[List.take_succ_cons,List.take_zero]
   quiet_step ((intro _;rfl))
   refine qa rfl 3 _ rfl ⟨w.heap.size,1,none⟩ rfl (.int .i64 rd) (fun W hW=>by have hc:=(hW.cell (p:=⟨w.heap.size,1,none⟩) hlw).trans d1;go_simp) ?_
   quiet_step ((intro hC;exact(HR.out rd om _).mono (fun e w'' ⟨he,hw⟩=>⟨he,hw ▸ hC⟩)))
   quiet_step ((intro _;rfl))
   refine qa rfl 21 _ rfl ⟨w.heap.size,4,none⟩ rfl (.int .i32 imm) (fun W hW=>by have hc:=(hW.cell (p:=⟨w.heap.size,4,none⟩) hlw).trans d4;go_simp) ?_
   refine Jv rfl (.int .i32 (imm / 4096)) (fun W hW=>by unfold Oper.quietAt;go_simp) ?_
   refine Jv rfl (.int .i64 (imm / 4096)) (fun W hW=>by unfold Oper.quietAt;go_simp;simp (disch:=omega) only[IntWalk.i64_in]) ?_
   quiet_step ((intro hC;exact(HIT.out (imm / 4096) om _ (HWB.out.trans (hC.mono HWB.out.size))).mono (fun e w'' ⟨he,hb⟩=>⟨he,hC.trans (hb.mono hC.size)⟩)))
   exact cL
 · have HCL:=lI hcl
   clear hw1 hati hb1 HT hcl
   go_enter Tryz.func95,Tryz.ntmps95
   go_upto_region 1 with(fail)
   rw[←HW1.out]
   go_wp2_with fail
   (try rw[hwi])
   refine(HIT.out imm ⟨i0,i1⟩ w1 HB1.out).mono ?_
   rintro e w2 ⟨rfl,hb2⟩
   have d0:=(hb2.cell (p:=⟨w.heap.size,0,none⟩) hs1).trans c0
   have d1:=(hb2.cell (p:=⟨w.heap.size,1,none⟩) hs1).trans c1
   have d2:=(hb2.cell (p:=⟨w.heap.size,2,none⟩) hs1).trans c2
   have d3:=(hb2.cell (p:=⟨w.heap.size,3,none⟩) hs1).trans c3
   have d4:=(hb2.cell (p:=⟨w.heap.size,4,none⟩) hs1).trans c4
   have hlw:w.heap.size<w2.heap.size:=Nat.lt_of_lt_of_le hs1 hb2.size
   have HATI:=lI (HA1.out.of_lt hb2 hs1)
   have HWB:=lI (HB1.out.trans (hb2.mono HB1.out.size))
   obtain⟨bn,hbn⟩:∃b,b=bs (Lib.itoa imm):=⟨_,rfl⟩
   rw[←hbn]at HATN ⊢
   have HBN:=lI hbn
   clear c0 c1 c2 c3 c4 hb2 hs1 hbn
   rcases HCL.out with rfl|⟨g1,g2⟩|rfl
   · skip
     exact cK
   · skip
     have q3:(op==3)=false:=sH.2 om
     have q4:(op==4)=false:=sH.2 om
     have q46:(op==46)=false:=sH.2 om
     have q57:(op==57)=false:=sH.2 om
     exact cK
   · skip
     exact cK
 · have HCL:=lI hcl
   clear hw1 hati hb1 HT hcl
   go_enter Tryz.func95,Tryz.ntmps95
   go_upto_region 1 with(fail)
   rw[←HW1.out]
   go_wp2_with fail
   (try rw[hwi])
   refine(HIT.out imm ⟨i0,i1⟩ w1 HB1.out).mono ?_
   rintro e w2 ⟨rfl,hb2⟩
   have d0:=(hb2.cell (p:=⟨w.heap.size,0,none⟩) hs1).trans c0
   have d1:=(hb2.cell (p:=⟨w.heap.size,1,none⟩) hs1).trans c1
   have d2:=(hb2.cell (p:=⟨w.heap.size,2,none⟩) hs1).trans c2
   have d3:=(hb2.cell (p:=⟨w.heap.size,3,none⟩) hs1).trans c3
   have d4:=(hb2.cell (p:=⟨w.heap.size,4,none⟩) hs1).trans c4
   have hlw:w.heap.size<w2.heap.size:=Nat.lt_of_lt_of_le hs1 hb2.size
   have HATI:=lI (HA1.out.of_lt hb2 hs1)
   have HWB:=lI (HB1.out.trans (hb2.mono HB1.out.size))
   obtain⟨bn,hbn⟩:∃b,b=bs (Lib.itoa imm):=⟨_,rfl⟩
   rw[←hbn]at HATN ⊢
   have HBN:=lI hbn
   clear c0 c1 c2 c3 c4 hb2 hs1 hbn
   obtain⟨g1,g2⟩:=HCL.out
   have q3:(op==3)=false:=sH.2 om
   have q4:(op==4)=false:=sH.2 om
   have q46:(op==46)=false:=sH.2 om
   have q57:(op==57)=false:=sH.2 om
   go_wp2_with fail
   refine qZ (fun W=>Below w2.heap.size w2 W) 7 kr kr (Below.drew br) ?_
   simp only[List.take_succ_cons,List.take_zero]
   quiet_step ((intro _;rfl))
   refine qa rfl 3 _ rfl ⟨w.heap.size,2,none⟩ rfl (.int .i64 rs1) (fun W hW=>by have hc:=(hW.cell (p:=⟨w.heap.size,2,none⟩) hlw).trans d2;go_simp) ?_
   quiet_step ((intro hC;exact(HR.out rs1 om _).mono (fun e w'' ⟨he,hw⟩=>⟨he,hw ▸ hC⟩)))
   quiet_step ((intro _;rfl))
   refine qa rfl 3 _ rfl ⟨w.heap.size,3,none⟩ rfl (.int .i64 rs2) (fun W hW=>by have hc:=(hW.cell (p:=⟨w.heap.size,3,none⟩) hlw).trans d3;go_simp) ?_
   quiet_step ((intro hC;exact(HR.out rs2 om _).mono (fun e w'' ⟨he,hw⟩=>⟨he,hw ▸ hC⟩)))
   quiet_step ((intro _;rfl))
   refine wpQuiet_nil ?_
   intro w9 hb9
   simp only[List.drop_succ_cons,List.drop_zero]
   go_wp2_with fail
   go_ret
   refine⟨⟨_,rfl, ?_⟩,(HWB.out.trans (hb9.mono HWB.out.size)).alloc (Nat.le_trans HWB.out.size hb9.size) _⟩
   rw[HBN.out]
   exact SRow.three w9 _ _ _ _
 · have HCL:=lI hcl
   clear hw1 hati hb1 HT hcl
   go_enter Tryz.func95,Tryz.ntmps95
   go_upto_region 1 with(fail)
   rw[←HW1.out]
   go_wp2_with fail
   (try rw[hwi])
   refine(HIT.out imm ⟨i0,i1⟩ w1 HB1.out).mono ?_
   rintro e w2 ⟨rfl,hb2⟩
   have d0:=(hb2.cell (p:=⟨w.heap.size,0,none⟩) hs1).trans c0
   have d1:=(hb2.cell (p:=⟨w.heap.size,1,none⟩) hs1).trans c1
   have d2:=(hb2.cell (p:=⟨w.heap.size,2,none⟩) hs1).trans c2
   have d3:=(hb2.cell (p:=⟨w.heap.size,3,none⟩) hs1).trans c3
   have d4:=(hb2.cell (p:=⟨w.heap.size,4,none⟩) hs1).trans c4
   have hlw:w.heap.size<w2.heap.size:=Nat.lt_of_lt_of_le hs1 hb2.size
   have HATI:=lI (HA1.out.of_lt hb2 hs1)
   have HWB:=lI (HB1.out.trans (hb2.mono HB1.out.size))
   obtain⟨bn,hbn⟩:∃b,b=bs (Lib.itoa imm):=⟨_,rfl⟩
   rw[←hbn]at HATN ⊢
   have HBN:=lI hbn
   clear c0 c1 c2 c3 c4 hb2 hs1 hbn
   obtain⟨g1,g2⟩:=HCL.out
   have q3:(op==3)=false:=sH.2 om
   have q4:(op==4)=false:=sH.2 om
   have q46:(op==46)=false:=sH.2 om
   have q57:(op==57)=false:=sH.2 om
   go_wp2_with fail
   refine qZ (fun W=>Below w2.heap.size w2 W) 6 kr kr (Below.drew br) ?_
   simp only[List.take_succ_cons,List.take_zero]
   quiet_step ((intro _;rfl))
   refine qa rfl 3 _ rfl ⟨w.heap.size,1,none⟩ rfl (.int .i64 rd) (fun W hW=>by have hc:=(hW.cell (p:=⟨w.heap.size,1,none⟩) hlw).trans d1;go_simp) ?_
   quiet_step ((intro hC;exact(HR.out rd om _).mono (fun e w'' ⟨he,hw⟩=>⟨he,hw ▸ hC⟩)))
   exact cM
 · have HCL:=lI hcl
   clear hw1 hati hb1 HT hcl
   go_enter Tryz.func95,Tryz.ntmps95
   go_upto_region 1 with(fail)
   rw[←HW1.out]
   go_wp2_with fail
   (try rw[hwi])
   refine(HIT.out imm ⟨i0,i1⟩ w1 HB1.out).mono ?_
   rintro e w2 ⟨rfl,hb2⟩
   have d0:=(hb2.cell (p:=⟨w.heap.size,0,none⟩) hs1).trans c0
   have d1:=(hb2.cell (p:=⟨w.heap.size,1,none⟩) hs1).trans c1
   have d2:=(hb2.cell (p:=⟨w.heap.size,2,none⟩) hs1).trans c2
   have d3:=(hb2.cell (p:=⟨w.heap.size,3,none⟩) hs1).trans c3
   have d4:=(hb2.cell (p:=⟨w.heap.size,4,none⟩) hs1).trans c4
   have hlw:w.heap.size<w2.heap.size:=Nat.lt_of_lt_of_le hs1 hb2.size
   have HATI:=lI (HA1.out.of_lt hb2 hs1)
   have HWB:=lI (HB1.out.trans (hb2.mono HB1.out.size))
   obtain⟨bn,hbn⟩:∃b,b=bs (Lib.itoa imm):=⟨_,rfl⟩
   rw[←hbn]at HATN ⊢
   have HBN:=lI hbn
   clear c0 c1 c2 c3 c4 hb2 hs1 hbn
   obtain⟨g1,g2⟩:=HCL.out
   have q3:(op==3)=false:=sH.2 om
   have q4:(op==4)=false:=sH.2 om
   have q46:(op==46)=false:=sH.2 om
   have q57:(op==57)=false:=sH.2 om
   go_wp2_with fail
   refine qZ (fun W=>Below w2.heap.size w2 W) 6 kr kr (Below.drew br) ?_
   simp only[List.take_succ_cons,List.take_zero]
   quiet_step ((intro _;rfl))
   refine qa rfl 3 _ rfl ⟨w.heap.size,3,none⟩ rfl (.int .i64 rs2) (fun W hW=>by have hc:=(hW.cell (p:=⟨w.heap.size,3,none⟩) hlw).trans d3;go_simp) ?_
   quiet_step ((intro hC;exact(HR.out rs2 om _).mono (fun e w'' ⟨he,hw⟩=>⟨he,hw ▸ hC⟩)))
   exact cM
 · have HCL:=lI hcl
   clear hw1 hati hb1 HT hcl
   go_enter Tryz.func95,Tryz.ntmps95
   go_upto_region 1 with(fail)
   rw[←HW1.out]
   go_wp2_with fail
   (try rw[hwi])
   refine(HIT.out imm ⟨i0,i1⟩ w1 HB1.out).mono ?_
   rintro e w2 ⟨rfl,hb2⟩
   have d0:=(hb2.cell (p:=⟨w.heap.size,0,none⟩) hs1).trans c0
   have d1:=(hb2.cell (p:=⟨w.heap.size,1,none⟩) hs1).trans c1
   have d2:=(hb2.cell (p:=⟨w.heap.size,2,none⟩) hs1).trans c2
   have d3:=(hb2.cell (p:=⟨w.heap.size,3,none⟩) hs1).trans c3
   have d4:=(hb2.cell (p:=⟨w.heap.size,4,none⟩) hs1).trans c4
   have hlw:w.heap.size<w2.heap.size:=Nat.lt_of_lt_of_le hs1 hb2.size
   have HATI:=lI (HA1.out.of_lt hb2 hs1)
   have HWB:=lI (HB1.out.trans (hb2.mono HB1.out.size))
   obtain⟨bn,hbn⟩:∃b,b=bs (Lib.itoa imm):=⟨_,rfl⟩
   rw[←hbn]at HATN ⊢
   have HBN:=lI hbn
   clear c0 c1 c2 c3 c4 hb2 hs1 hbn
   obtain⟨g1,g2⟩:=HCL.out
   have q3:(op==3)=false:=sH.2 om
   have q4:(op==4)=false:=sH.2 om
   have q46:(op==46)=false:=sH.2 om
   have q57:(op==57)=false:=sH.2 om
   go_wp2_with fail
   refine qZ (fun W=>Below w2.heap.size w2 W) 9 kr kr (Below.drew br) ?_
   simp only[List.take_succ_cons,List.take_zero]
   quiet_step ((intro _;rfl))
   refine qa rfl 3 _ rfl ⟨w.heap.size,1,none⟩ rfl (.int .i64 rd) (fun W hW=>by have hc:=(hW.cell (p:=⟨w.heap.size,1,none⟩) hlw).trans d1;go_simp) ?_
   quiet_step ((intro hC;exact(HR.out rd om _).mono (fun e w'' ⟨he,hw⟩=>⟨he,hw ▸ hC⟩)))
   quiet_step ((intro _;rfl))
   refine qa rfl 3 _ rfl ⟨w.heap.size,2,none⟩ rfl (.int .i64 rs1) (fun W hW=>by have hc:=(hW.cell (p:=⟨w.heap.size,2,none⟩) hlw).trans d2;go_simp) ?_
   quiet_step ((intro hC;exact(HR.out rs1 om _).mono (fun e w'' ⟨he,hw⟩=>⟨he,hw ▸ hC⟩)))
   quiet_step ((intro _;rfl))
   refine qa rfl 3 _ rfl ⟨w.heap.size,3,none⟩ rfl (.int .i64 rs2) (fun W hW=>by have hc:=(hW.cell (p:=⟨w.heap.size,3,none⟩) hlw).trans d3;go_simp) ?_
   quiet_step ((intro hC;exact(HR.out rs2 om _).mono (fun e w'' ⟨he,hw⟩=>⟨he,hw ▸ hC⟩)))
   exact cN
 · have HCL:=lI hcl
   clear hw1 hati hb1 HT hcl
   go_enter Tryz.func95,Tryz.ntmps95
   go_upto_region 1 with(fail)
   rw[←HW1.out]
   go_wp2_with fail
   (try rw[hwi])
   refine(HIT.out imm ⟨i0,i1⟩ w1 HB1.out).mono ?_
   rintro e w2 ⟨rfl,hb2⟩
   have d0:=(hb2.cell (p:=⟨w.heap.size,0,none⟩) hs1).trans c0
   have d1:=(hb2.cell (p:=⟨w.heap.size,1,none⟩) hs1).trans c1
   have d2:=(hb2.cell (p:=⟨w.heap.size,2,none⟩) hs1).trans c2
   have d3:=(hb2.cell (p:=⟨w.heap.size,3,none⟩) hs1).trans c3
   have d4:=(hb2.cell (p:=⟨w.heap.size,4,none⟩) hs1).trans c4
   have hlw:w.heap.size<w2.heap.size:=Nat.lt_of_lt_of_le hs1 hb2.size
   have HATI:=lI (HA1.out.of_lt hb2 hs1)
   have HWB:=lI (HB1.out.trans (hb2.mono HB1.out.size))
   obtain⟨bn,hbn⟩:∃b,b=bs (Lib.itoa imm):=⟨_,rfl⟩
   rw[←hbn]at HATN ⊢
   have HBN:=lI hbn
   clear c0 c1 c2 c3 c4 hb2 hs1 hbn
   have hcl:=HCL.out
   subst hcl
   go_wp2_with fail
   refine qZ (fun W=>Below w2.heap.size w2 W) 5 kr kr (Below.drew br) ?_
   simp only[List.take_succ_cons,List.take_zero]
   quiet_step ((intro _;rfl))
   refine qa rfl 3 _ rfl ⟨w.heap.size,1,none⟩ rfl (.int .i64 rd) (fun W hW=>by have hc:=(hW.cell (p:=⟨w.heap.size,1,none⟩) hlw).trans d1;go_simp) ?_
   quiet_step ((intro hC;exact(HR.out rd om _).mono (fun e w'' ⟨he,hw⟩=>⟨he,hw ▸ hC⟩)))
   refine jr rfl 91 _ rfl w.heap.size 0 rfl #[.int .i64 46,.int .i64 rd,.int .i64 rs1,.int .i64 rs2,.int .i32 imm] _ (fun W hW=>HATI.out.of_lt hW hlw) Tryz.underlying91 rfl kr ?_
   quiet_step ((intro hC;exact(HAT0.out _).mono (fun e w'' ⟨he,hb⟩=>⟨he,hC.trans (hb.mono hC.size)⟩)))
   exact cL
 · have HCL:=lI hcl
   clear hw1 hati hb1 HT hcl
   go_enter Tryz.func95,Tryz.ntmps95
   go_upto_region 1 with(fail)
   rw[←HW1.out]
   go_wp2_with fail
   (try rw[hwi])
   refine(HIT.out imm ⟨i0,i1⟩ w1 HB1.out).mono ?_
   rintro e w2 ⟨rfl,hb2⟩
   have d0:=(hb2.cell (p:=⟨w.heap.size,0,none⟩) hs1).trans c0
   have d1:=(hb2.cell (p:=⟨w.heap.size,1,none⟩) hs1).trans c1
   have d2:=(hb2.cell (p:=⟨w.heap.size,2,none⟩) hs1).trans c2
   have d3:=(hb2.cell (p:=⟨w.heap.size,3,none⟩) hs1).trans c3
   have d4:=(hb2.cell (p:=⟨w.heap.size,4,none⟩) hs1).trans c4
   have hlw:w.heap.size<w2.heap.size:=Nat.lt_of_lt_of_le hs1 hb2.size
   have HATI:=lI (HA1.out.of_lt hb2 hs1)
   have HWB:=lI (HB1.out.trans (hb2.mono HB1.out.size))
   obtain⟨bn,hbn⟩:∃b,b=bs (Lib.itoa imm):=⟨_,rfl⟩
   rw[←hbn]at HATN ⊢
   have HBN:=lI hbn
   clear c0 c1 c2 c3 c4 hb2 hs1 hbn
   obtain⟨g1,g2⟩:=HCL.out
   have q3:(op==3)=false:=sH.2 om
   have q4:(op==4)=false:=sH.2 om
   have q46:(op==46)=false:=sH.2 om
   have q57:(op==57)=false:=sH.2 om
   go_wp2_with fail
   refine qZ (fun W=>Below w2.heap.size w2 W) 8 kr kr (Below.drew br) ?_
   simp only[List.take_succ_cons,List.take_zero]
   quiet_step ((intro _;rfl))
   refine qa rfl 3 _ rfl ⟨w.heap.size,1,none⟩ rfl (.int .i64 rd) (fun W hW=>by have hc:=(hW.cell (p:=⟨w.heap.size,1,none⟩) hlw).trans d1;go_simp) ?_
   quiet_step ((intro hC;exact(HR.out rd om _).mono (fun e w'' ⟨he,hw⟩=>⟨he,hw ▸ hC⟩)))
   quiet_step ((intro _;rfl))
   refine qa rfl 3 _ rfl ⟨w.heap.size,3,none⟩ rfl (.int .i64 rs2) (fun W hW=>by have hc:=(hW.cell (p:=⟨w.heap.size,3,none⟩) hlw).trans d3;go_simp) ?_
   quiet_step ((intro hC;exact(HR.out rs2 om _).mono (fun e w'' ⟨he,hw⟩=>⟨he,hw ▸ hC⟩)))
   refine jr rfl 91 _ rfl w.heap.size 0 rfl #[.int .i64 op,.int .i64 rd,.int .i64 rs1,.int .i64 rs2,.int .i32 imm] _ (fun W hW=>HATI.out.of_lt hW hlw) Tryz.underlying91 rfl kr ?_
   quiet_step ((intro hC;exact(HAT0.out _).mono (fun e w'' ⟨he,hb⟩=>⟨he,hC.trans (hb.mono hC.size)⟩)))
   exact cN
abbrev parts_u:=ji.1
abbrev parts_i:=ji.2.1
abbrev parts_b:=ji.2.2.1
abbrev parts_l:=ji.2.2.2.1
abbrev parts_s:=ji.2.2.2.2.1
abbrev parts_r:=ji.2.2.2.2.2.1
abbrev parts_lr:=ji.2.2.2.2.2.2.1
abbrev parts_a:=ji.2.2.2.2.2.2.2
end Go.Proofs.YtlfnddmncbkjaabGreatDoor.W
