import Derived.Test.YtlfnddmncbkjaabGreatDoorZWAsm4
import Derived.Test.YtlfnddmncbkjaabGreatDoorZGE
import Derived.Lib.SplitLaws
import Derived.Lib.IndexBytes
set_option linter.unusedVariables false
set_option linter.unusedSimpArgs false
set_option maxRecDepth 100000
set_option maxHeartbeats 4000000
namespace Go.Proofs.YtlfnddmncbkjaabGreatDoor.W
open Go.RowKit Fb
theorem gpparts_jal1 :(∀ (op rd rs1 rs2 imm : Int) (hcl : op = 3) (hop : 1 ≤ op ∧ op ≤ 59) (hr : (0 ≤ rd ∧ rd ≤ 31) ∧ (0 ≤ rs1 ∧ rs1 ≤ 31) ∧ 0 ≤ rs2 ∧ rs2 ≤ 31) (hi : -2147483648 ≤ imm ∧ imm ≤ 2147483647) (w : World) (HT : Hid (Lib.TabBelow Tryz.prog w.heap.size w "internal/strconv.uint64pow10" .u64 Lib.pow10Tab)), Calls Tryz.prog 95 #[.agg #[.int .i64 op, .int .i64 rd, .int .i64 rs1, .int .i64 rs2, .int .i32 imm]] w fun e w' => (∃ v, e = .returned v ∧ SRow w' v [regS rd, Lib.itoa imm]) ∧ Below w.heap.size w w') ∧ (∀ (op rd rs1 rs2 imm : Int) (hcl : 58 ≤ op) (hop : 1 ≤ op ∧ op ≤ 59) (hr : (0 ≤ rd ∧ rd ≤ 31) ∧ (0 ≤ rs1 ∧ rs1 ≤ 31) ∧ 0 ≤ rs2 ∧ rs2 ≤ 31) (hi : -2147483648 ≤ imm ∧ imm ≤ 2147483647) (w : World) (HT : Hid (Lib.TabBelow Tryz.prog w.heap.size w "internal/strconv.uint64pow10" .u64 Lib.pow10Tab)), Calls Tryz.prog 95 #[.agg #[.int .i64 op, .int .i64 rd, .int .i64 rs1, .int .i64 rs2, .int .i32 imm]] w fun e w' => (∃ v, e = .returned v ∧ SRow w' v []) ∧ Below w.heap.size w w') := by
 refine⟨fun op rd rs1 rs2 imm hcl hop hr hi w HT=> ?_,fun op rd rs1 rs2 imm hcl hop hr hi w HT=> ?_⟩
 all_goals
  obtain⟨w1,hw1⟩:∃w1,w1=w.alloc (.cells #[.int .i64 op,.int .i64 rd,.int .i64 rs1,.int .i64 rs2,.int .i32 imm] 91):=⟨_,rfl⟩
  have hb1:Below w.heap.size w w1:=zG
  have hs1:w.heap.size<w1.heap.size:=zP
  have hati:At w1 w.heap.size 0 [.int .i64 op,.int .i64 rd,.int .i64 rs1,.int .i64 rs2,.int .i32 imm]:=zI
  have c0:w1.cell? ⟨w.heap.size,0,none⟩=some (.int .i64 op):=zA
  have c1:w1.cell? ⟨w.heap.size,1,none⟩=some (.int .i64 rd):=zA
  have c2:w1.cell? ⟨w.heap.size,2,none⟩=some (.int .i64 rs1):=zA
  have c3:w1.cell? ⟨w.heap.size,3,none⟩=some (.int .i64 rs2):=zA
  have c4:w1.cell? ⟨w.heap.size,4,none⟩=some (.int .i32 imm):=zA
  have HIT:Hid (∀n:Int,(-2147483648≤n∧n≤2147483647)→∀W,Below w.heap.size w W→_):=lI (fun n hn W hW=>itoa_any n om W (HT.out W hW))
  have HR:=lI (fun n hn W=>reg_any n hn W)
  have HATN:=lI (fun W=>at_any ⟨op,rd,rs1,rs2,imm⟩ (Lib.itoa imm) (Nat.le_trans (jx imm om) zF) hr.2.1 W)
  have HAT0:=lI (fun W=>at_any ⟨op,rd,rs1,rs2,imm⟩ [] zF hr.2.1 W)
  simp only[qx]at HATN HAT0
  obtain⟨⟨r0,r1⟩,⟨r2,r3⟩,r4,r5⟩:=hr
  obtain⟨o0,o1⟩:=hop
  obtain⟨i0,i1⟩:=hi
  have HB1:=lI hb1
  have HW1:=lI hw1
  have HA1:=lI hati
  have hwi:IntKind.i64.wrap imm=imm:=zZ
  have HCL:=lI hcl
  clear hw1 hati hb1 HT hcl
  go_enter Tryz.func95,Tryz.ntmps95
  go_upto_region 1 with(fail)
  rw[←HW1.out]
  go_wp2_with fail
 · (try rw[hwi])
   refine(HIT.out imm ⟨i0,i1⟩ w1 HB1.out).mono ?_
   rintro e w2 ⟨rfl,hb2⟩
   have d0:=(hb2.cell (p:=⟨w.heap.size,0,none⟩) hs1).trans c0
   have d1:=(hb2.cell (p:=⟨w.heap.size,1,none⟩) hs1).trans c1
   have d2:=(hb2.cell (p:=⟨w.heap.size,2,none⟩) hs1).trans c2
   have d3:=(hb2.cell (p:=⟨w.heap.size,3,none⟩) hs1).trans c3
   have d4:=(hb2.cell (p:=⟨w.heap.size,4,none⟩) hs1).trans c4
   have hlw:w.heap.size<w2.heap.size:=Nat.lt_of_lt_of_le hs1 hb2.size
   have HATI:=lI (HA1.out.of_lt hb2 hs1)
   have HWB:=lI (HB1.out.trans (hb2.mono HB1.out.size))
   obtain⟨bn,hbn⟩:∃b,b=bs (Lib.itoa imm):=⟨_,rfl⟩
   rw[←hbn]at HATN ⊢
   have HBN:=lI hbn
   clear c0 c1 c2 c3 c4 hb2 hs1 hbn
   have hcl:=HCL.out
   subst hcl
   go_wp2_with fail
   refine(HR.out rd om _).mono ?_
   rintro e w' ⟨rfl,rfl⟩
   go_wp2_with fail
   go_ret
   refine⟨⟨_,rfl, ?_⟩,HWB.out.alloc HWB.out.size _⟩
   rw[HBN.out]
   exact SRow.two w2 _ _ _
 · (try rw[hwi])
   refine(HIT.out imm ⟨i0,i1⟩ w1 HB1.out).mono ?_
   rintro e w2 ⟨rfl,hb2⟩
   have d0:=(hb2.cell (p:=⟨w.heap.size,0,none⟩) hs1).trans c0
   have d1:=(hb2.cell (p:=⟨w.heap.size,1,none⟩) hs1).trans c1
   have d2:=(hb2.cell (p:=⟨w.heap.size,2,none⟩) hs1).trans c2
   have d3:=(hb2.cell (p:=⟨w.heap.size,3,none⟩) hs1).trans c3
   have d4:=(hb2.cell (p:=⟨w.heap.size,4,none⟩) hs1).trans c4
   have hlw:w.heap.size<w2.heap.size:=Nat.lt_of_lt_of_le hs1 hb2.size
   have HATI:=lI (HA1.out.of_lt hb2 hs1)
   have HWB:=lI (HB1.out.trans (hb2.mono HB1.out.size))
   obtain⟨bn,hbn⟩:∃b,b=bs (Lib.itoa imm):=⟨_,rfl⟩
   rw[←hbn]at HATN ⊢
   have HBN:=lI hbn
   clear c0 c1 c2 c3 c4 hb2 hs1 hbn
   have g1:=HCL.out
   have q3:(op==3)=false:=sH.2 om
   have q4:(op==4)=false:=sH.2 om
   have q46:(op==46)=false:=sH.2 om
   have q57:(op==57)=false:=sH.2 om
   go_wp2_with fail
   go_ret
   exact⟨⟨_,rfl,.inl ⟨rfl,rfl⟩⟩,HWB.out⟩
abbrev parts_jal:=gpparts_jal1.1
abbrev parts_none:=gpparts_jal1.2
theorem parts_any (op rd rs1 rs2 imm : Int) (hop : 1 ≤ op ∧ op ≤ 59) (hr : (0 ≤ rd ∧ rd ≤ 31) ∧ (0 ≤ rs1 ∧ rs1 ≤ 31) ∧ 0 ≤ rs2 ∧ rs2 ≤ 31) (hi : -2147483648 ≤ imm ∧ imm ≤ 2147483647) (w : World) (HT : Hid (Lib.TabBelow Tryz.prog w.heap.size w "internal/strconv.uint64pow10" .u64 Lib.pow10Tab)) :
    Calls Tryz.prog 95 #[.agg #[.int .i64 op,.int .i64 rd,.int .i64 rs1,.int .i64 rs2,.int .i32 imm]] w fun e w'=>(∃v,e=.returned v∧SRow w' v (partsS ⟨op,rd,rs1,rs2,imm⟩))∧Below w.heap.size w w':=by
  unfold partsS
  simp only
  by_cases c1:op≤2
  · rw[if_pos c1];exact parts_u op rd rs1 rs2 imm c1 hop hr hi w HT
  rw[if_neg c1]
  by_cases c2:op=3
  · rw[if_pos c2];exact parts_jal op rd rs1 rs2 imm c2 hop hr hi w HT
  rw[if_neg c2]
  by_cases c3:op=4∨(19≤op∧op≤27)∨op=57
  · rw[if_pos c3];exact parts_i op rd rs1 rs2 imm c3 hop hr hi w HT
  rw[if_neg c3]
  by_cases c4:op≤10
  · rw[if_pos c4];exact parts_b op rd rs1 rs2 imm om hop hr hi w HT
  rw[if_neg c4]
  by_cases c5:op≤15
  · rw[if_pos c5];exact parts_l op rd rs1 rs2 imm om hop hr hi w HT
  rw[if_neg c5]
  by_cases c6:op≤18
  · rw[if_pos c6];exact parts_s op rd rs1 rs2 imm om hop hr hi w HT
  rw[if_neg c6]
  by_cases c7:op≤45
  · rw[if_pos c7];exact parts_r op rd rs1 rs2 imm om hop hr hi w HT
  rw[if_neg c7]
  by_cases c8:op=46
  · rw[if_pos c8];exact parts_lr op rd rs1 rs2 imm c8 hop hr hi w HT
  rw[if_neg c8]
  by_cases c9:op≤56
  · rw[if_pos c9];exact parts_a op rd rs1 rs2 imm om hop hr hi w HT
  rw[if_neg c9]
  exact parts_none op rd rs1 rs2 imm om hop hr hi w HT
theorem regS_len{n:Int}(h:0≤n∧n≤31):(regS n).length≤22:=by
  have:=jx n om
  unfold regS
  simp only[List.length_cons]
  omega
theorem atS_len{n:Int}{l:List UInt8}(h:0≤n∧n≤31)(hl:l.length≤21):(atS n l).length≤50:=by
  have:=regS_len h
  unfold atS
  simp only[sW,List.length_cons,List.length_nil]
  omega
theorem join_two(a b s:List UInt8):Lib.join [a,b] s=a++s++b:=by simp[Lib.join,List.intercalate]
theorem join_three(a b c s:List UInt8):Lib.join [a,b,c] s=a++s++b++s++c:=by simp[Lib.join,List.intercalate]
theorem parts_join_len{i:InsD}(hr:(0≤i.rd∧i.rd≤31)∧(0≤i.rs1∧i.rs1≤31)∧0≤i.rs2∧i.rs2≤31)(hi: -2147483648≤i.imm∧i.imm≤2147483647):(Lib.join (partsS i) [44]).length≤200∧(partsS i).length≤3:=by
  have h1:=regS_len hr.1
  have h2:=regS_len hr.2.1
  have h3:=regS_len hr.2.2
  have h4:=jx i.imm om
  have h5:=jx (i.imm / 4096) om
  have h6:=atS_len hr.2.1 h4
  have h7:=atS_len (l:=[]) hr.2.1 zC
  unfold partsS
  repeat' split
  all_goals
    refine⟨?_,by simp⟩
    first
      |(rw[join_two];simp only[sW,List.length_cons,List.length_nil];omega)
      |(rw[join_three];simp only[sW,List.length_cons,List.length_nil];omega)
      |(rw[Lib.join_nil];simp)
theorem Jl{w w1:World}{B:Nat}{n:String}{k:IntKind}{zs:List Int}(h:Lib.TabBelow Tryz.prog B w n k zs)(hb:Below B w w1)(hB:B≤w1.heap.size):Lib.TabBelow Tryz.prog w1.heap.size w1 n k zs:=
  fun w' hw=>h w' (hb.trans (hw.mono hB))
theorem join_any(w:World)(v:Value)(xs:List (List UInt8))(h:SRow w v xs)(hne:xs≠[])(hn:xs.length≤3)(hl:(Lib.join xs [44]).length≤200):
    Calls Tryz.prog 97 #[v,.string ⟨#[44]⟩] w fun e w'=>e=.returned (.string (bs (Lib.join xs [44])))∧Below w.heap.size w w':=by
  rcases h with⟨h,-⟩|⟨b,rfl,hb,hc⟩
  · exact absurd h hne
  have e1:(xs.map bs).map (fun x:ByteArray=>x.data.toList)=xs:=by
    rw[List.map_map]
    have:((fun x:ByteArray=>x.data.toList) ∘ bs)=id:=by funext x;simp[bs]
    rw[this,List.map_id]
  have:=Tryz.strings_Join b 0 xs.length (xs.map bs) ⟨#[44]⟩ w (fun j x hx=>by
    rw[List.getElem?_map]at hx
    cases hj:xs[j]? with
    |none=>rw[hj]at hx;cases hx
    | some y =>
      rw[hj]at hx
      cases hx
      rw[sM]
      exact hc j y hj) hb xA (by rw[sX];exact sN _) (by rw[e1];exact Nat.le_trans hl zF)
  rw[e1,sX]at this
  exact this
theorem _root_.Go.Proofs.YtlfnddmncbkjaabGreatDoor.Fb.SRow.below{w w':World}{v:Value}{xs:List (List UInt8)}(h:SRow w v xs)(hb:Below w.heap.size w w'):SRow w' v xs:=by
  rcases h with h|⟨b,h1,h2,h3⟩
  · exact .inl h
  · exact .inr ⟨b,h1,Nat.lt_of_lt_of_le h2 hb.size,fun j x hx=>(hb.cell (p:=⟨b,j,none⟩) h2).trans (h3 j x hx)⟩
theorem text_any(op rd rs1 rs2 imm:Int)(hop:1≤op∧op≤59)(hr:(0≤rd∧rd≤31)∧(0≤rs1∧rs1≤31)∧0≤rs2∧rs2≤31)(hi: -2147483648≤imm∧imm≤2147483647)(ha:46≤op∧op≤56→0≤imm∧imm≤3)(w:World)
    (HT : Hid (Lib.TabBelow Tryz.prog w.heap.size w "internal/strconv.uint64pow10" .u64 Lib.pow10Tab)) (HS : Hid (Lib.TabBelow Tryz.prog w.heap.size w "strings.asciiSpace" .u8 Lib.asciiSpaceTab)) :
    Calls Tryz.prog 61 #[.agg #[.int .i64 op,.int .i64 rd,.int .i64 rs1,.int .i64 rs2,.int .i32 imm]] w fun e w'=>e=.returned (.string (bs (textS ⟨op,rd,rs1,rs2,imm⟩)))∧Below w.heap.size w w':=by
  obtain⟨w1,hw1⟩:∃w1,w1=w.alloc (.cells #[.int .i64 op,.int .i64 rd,.int .i64 rs1,.int .i64 rs2,.int .i32 imm] 91):=⟨_,rfl⟩
  have hb1:Below w.heap.size w w1:=zG
  have hs1:w.heap.size<w1.heap.size:=zP
  have c0:(w1).cell? ⟨w.heap.size,0,none⟩=some (.int .i64 op):=zA
  have c1:(w1).cell? ⟨w.heap.size,1,none⟩=some (.int .i64 rd):=zA
  have c2:(w1).cell? ⟨w.heap.size,2,none⟩=some (.int .i64 rs1):=zA
  have c3:(w1).cell? ⟨w.heap.size,3,none⟩=some (.int .i64 rs2):=zA
  have c4:(w1).cell? ⟨w.heap.size,4,none⟩=some (.int .i32 imm):=zA
  have HP:=lI (parts_any op rd rs1 rs2 imm hop hr hi w1 (lI (Jl HT.out hb1 (Nat.le_of_lt hs1))))
  have HN:=lI (fun W (hW:Below w.heap.size w W) (hB:w.heap.size≤W.heap.size)=>name_any op rd rs1 rs2 imm hop ha W (lI (Jl HS.out hW hB)))
  have HJL:=lI (parts_join_len (i:=⟨op,rd,rs1,rs2,imm⟩) hr hi)
  have hnl:=nameS_len op imm
  obtain⟨xs,hxs⟩:∃x,x=partsS ⟨op,rd,rs1,rs2,imm⟩:=⟨_,rfl⟩
  obtain⟨nb,hnb⟩:∃x,x=bs (nameS op imm):=⟨_,rfl⟩
  obtain⟨tb,htb⟩:∃x,x=bs (textS ⟨op,rd,rs1,rs2,imm⟩):=⟨_,rfl⟩
  have HX:Hid (tb=if xs=[]then nb else nb++⟨#[32]⟩++bs (Lib.join xs [44])):=lI (by
    rw[htb,hxs,hnb]
    unfold textS
    split
    · rfl
    · rw[show(⟨#[32]⟩:ByteArray)=bs [32]from rfl,jm,jm,List.append_assoc];rfl)
  have hnz:nb.size≤15:=by rw[hnb,QW];exact hnl
  rw[←hxs]at HP HJL
  rw[←hnb]at HN
  rw[←htb]
  have HB1:=lI hb1
  have HW1:=lI hw1
  clear hw1 hb1 hnb htb hxs hnl hop hr hi ha HT HS
  go_enter Tryz.func61,Tryz.ntmps61
  go_upto_region 1 with(fail)
  rw[←HW1.out]
  go_wp2_with fail
  refine HP.out.mono ?_
  rintro e w2 ⟨⟨v,rfl,hv⟩,hb2⟩
  have hs2:=hb2.size
  have d0:(w2).cell? ⟨w.heap.size,0,none⟩=some (.int .i64 op):=(hb2.cell (p:=⟨w.heap.size,0,none⟩) (hs1)).trans c0
  have d1:(w2).cell? ⟨w.heap.size,1,none⟩=some (.int .i64 rd):=(hb2.cell (p:=⟨w.heap.size,1,none⟩) (hs1)).trans c1
  have d2:(w2).cell? ⟨w.heap.size,2,none⟩=some (.int .i64 rs1):=(hb2.cell (p:=⟨w.heap.size,2,none⟩) (hs1)).trans c2
  have d3:(w2).cell? ⟨w.heap.size,3,none⟩=some (.int .i64 rs2):=(hb2.cell (p:=⟨w.heap.size,3,none⟩) (hs1)).trans c3
  have d4:(w2).cell? ⟨w.heap.size,4,none⟩=some (.int .i32 imm):=(hb2.cell (p:=⟨w.heap.size,4,none⟩) (hs1)).trans c4
  have hb02:=HB1.out.trans (hb2.mono HB1.out.size)
  have HN2:=lI (HN.out w2 hb02 hb02.size)
  have HB2:=lI hb02
  have HV:=lI hv
  clear c0 c1 c2 c3 c4 hb2 hb02 hv
  have hve:∃a c,v=.slice a xs.length c:=by
    rcases HV.out with⟨h1,h2⟩|⟨b,h,-,-⟩
    · exact⟨none,0,by rw[h1,h2];rfl⟩
    · exact⟨_,_,h⟩
  obtain⟨a,c,rfl⟩:=hve
  by_cases hx:xs=[]
  · subst hx
    have HX2:Hid (tb=nb):=lI (by rw[HX.out,if_pos rfl])
    clear HX HV HJL
    go_wp2_with fail
    refine HN2.out.mono ?_
    rintro e w3 ⟨rfl,hb3⟩
    go_wp2_with fail
    go_ret
    exact⟨by rw[HX2.out];rfl,HB2.out.trans (hb3.mono HB2.out.size)⟩
  · have HX2:Hid (tb=nb++⟨#[32]⟩++bs (Lib.join xs [44])):=lI (by rw[HX.out,if_neg hx])
    obtain⟨hj1,hj2⟩:=HJL.out
    obtain⟨jb,hjb⟩:∃x,x=bs (Lib.join xs [44]):=⟨_,rfl⟩
    have HJ:=lI (fun W (hW:Below w2.heap.size w2 W)=>join_any W (.slice a xs.length c) xs (HV.out.below hW) hx hj2 hj1)
    have hjz:jb.size≤200:=by rw[hjb,QW];exact hj1
    rw[←hjb]at HJ HX2
    obtain⟨n,hn⟩:∃n,n=xs.length:=⟨_,rfl⟩
    have hn0:(n:Int)≠0:=by
      have:0<xs.length:=List.length_pos_iff.2 hx
      omega
    have hnb:((n:Int)==0)=false:=sH.2 hn0
    rw[←hn]at HJ ⊢
    have hz1:nb.size+(⟨#[32]⟩:ByteArray).size≤100:=by show _+1≤100;omega
    have hz2:(nb++(⟨#[32]⟩:ByteArray)).size+jb.size≤300:=by rw[ByteArray.size_append];show _+1+_≤300;omega
    clear HX HV HJL hx hjb hj1 hj2 hn hjz hnz
    go_wp2_with fail
    refine HN2.out.mono ?_
    rintro e w3 ⟨rfl,hb3⟩
    have HB3:=lI hb3
    clear hb3
    go_wp2_with fail
    refine(HJ.out w3 HB3.out).mono ?_
    rintro e w4 ⟨rfl,hb4⟩
    go_wp2_with fail
    go_ret
    exact⟨by rw[HX2.out];rfl,HB2.out.trans ((HB3.out.trans (hb4.mono HB3.out.size)).mono HB2.out.size)⟩
theorem isS_atom{i:InsD}(h:isS i=true):46≤i.op∧i.op≤56→0≤i.imm∧i.imm≤3:=by
  intro ⟨h1,h2⟩
  unfold isS at h
  rw[Bool.and_eq_true]at h
  have h3:=h.2
  rw[if_neg om,if_neg om,if_neg om,if_neg om,if_neg om,if_neg om,if_neg om,if_pos ⟨h1,h2⟩]at h3
  have:=of_decide_eq_true h3
  omega
theorem print_any(i:InsD)(wf:I32 i.imm)(w:World)
    (HT : Hid (Lib.TabBelow Tryz.prog w.heap.size w "internal/strconv.uint64pow10" .u64 Lib.pow10Tab)) (HS : Hid (Lib.TabBelow Tryz.prog w.heap.size w "strings.asciiSpace" .u8 Lib.asciiSpaceTab)) :
    Calls Tryz.prog 35 #[.agg (qx i)] w fun e w'=>e=.returned (.tuple #[.string (if isS i=true then bs (textS i)else⟨#[]⟩),.int .i64 (if isS i=true then 0 else 2)])∧Below w.heap.size w w':=by
  have HE:=lI (fun W=>encode_any i W wf)
  have HR:=lI (fun h:isS i=true=>(⟨uk h,isS_atom h⟩:_∧_))
  obtain⟨op,rd,rs1,rs2,imm⟩:=i
  obtain⟨w1,hw1⟩:∃w1,w1=w.alloc (.cells #[.int .i64 op,.int .i64 rd,.int .i64 rs1,.int .i64 rs2,.int .i32 imm] 91):=⟨_,rfl⟩
  have hb1:Below w.heap.size w w1:=zG
  have hs1:w.heap.size<w1.heap.size:=zP
  have c0:(w1).cell? ⟨w.heap.size,0,none⟩=some (.int .i64 op):=zA
  have c1:(w1).cell? ⟨w.heap.size,1,none⟩=some (.int .i64 rd):=zA
  have c2:(w1).cell? ⟨w.heap.size,2,none⟩=some (.int .i64 rs1):=zA
  have c3:(w1).cell? ⟨w.heap.size,3,none⟩=some (.int .i64 rs2):=zA
  have c4:(w1).cell? ⟨w.heap.size,4,none⟩=some (.int .i32 imm):=zA
  have HX:Hid (isS ⟨op,rd,rs1,rs2,imm⟩=true→∀W,Below w.heap.size w W→_):=lI (fun h W hW=>text_any op rd rs1 rs2 imm (HR.out h).1.1 ⟨(HR.out h).1.2.1,(HR.out h).1.2.2.1,(HR.out h).1.2.2.2⟩ wf (HR.out h).2 W (lI (Jl HT.out hW hW.size)) (lI (Jl HS.out hW hW.size)))
  have HB1:=lI hb1
  have HW1:=lI hw1
  simp only[qx]at HE ⊢
  obtain⟨tb,htb⟩:∃x,x=bs (textS ⟨op,rd,rs1,rs2,imm⟩):=⟨_,rfl⟩
  rw[←htb]at HX ⊢
  generalize encW ⟨op,rd,rs1,rs2,imm⟩=cw at *
  generalize isS ⟨op,rd,rs1,rs2,imm⟩=b at *
  clear hw1 hb1 HT HS HR wf htb
  cases b with
  | false =>
    rw[if_neg zF,if_neg zF]at HE ⊢
    clear HX
    go_enter Tryz.func35,Tryz.ntmps35
    go_upto_region 1 with(fail)
    rw[←HW1.out]
    go_wp2_with fail
    refine(HE.out _).mono ?_
    rintro e w2 ⟨rfl,hb2⟩
    have HB2:=lI hb2
    clear hb2
    go_wp2_with fail
    go_ret2
    exact⟨rfl,HB1.out.trans (HB2.out.mono HB1.out.size)⟩
  | true =>
    rw[if_pos rfl,if_pos rfl]at HE ⊢
    have HX2:=lI (HX.out rfl)
    clear HX
    go_enter Tryz.func35,Tryz.ntmps35
    go_upto_region 1 with(fail)
    rw[←HW1.out]
    go_wp2_with fail
    refine(HE.out _).mono ?_
    rintro e w2 ⟨rfl,hb2⟩
    have d0:(w2).cell? ⟨w.heap.size,0,none⟩=some (.int .i64 op):=(hb2.cell (p:=⟨w.heap.size,0,none⟩) (hs1)).trans c0
    have d1:(w2).cell? ⟨w.heap.size,1,none⟩=some (.int .i64 rd):=(hb2.cell (p:=⟨w.heap.size,1,none⟩) (hs1)).trans c1
    have d2:(w2).cell? ⟨w.heap.size,2,none⟩=some (.int .i64 rs1):=(hb2.cell (p:=⟨w.heap.size,2,none⟩) (hs1)).trans c2
    have d3:(w2).cell? ⟨w.heap.size,3,none⟩=some (.int .i64 rs2):=(hb2.cell (p:=⟨w.heap.size,3,none⟩) (hs1)).trans c3
    have d4:(w2).cell? ⟨w.heap.size,4,none⟩=some (.int .i32 imm):=(hb2.cell (p:=⟨w.heap.size,4,none⟩) (hs1)).trans c4
    have HB2:=lI (HB1.out.trans (hb2.mono HB1.out.size))
    have HX3:=lI (HX2.out w2 HB2.out)
    clear c0 c1 c2 c3 c4 hb2 HX2
    go_wp2_with fail
    refine HX3.out.mono ?_
    rintro e w3 ⟨rfl,hb3⟩
    go_wp2_with fail
    go_ret2
    exact⟨rfl,HB2.out.trans (hb3.mono HB2.out.size)⟩
open Go.RowKit Fb Go.Sort Go.Lib
theorem format_any (u : Nat) (hu64 : u < 18446744073709551616) (w : World) (HT : Hid (Lib.TabBelow Tryz.prog w.heap.size w "internal/strconv.uint64pow10" .u64 Lib.pow10Tab)) :
    Calls Tryz.prog 45 #[.int .u64 u,.int .i64 10] w fun e w'=>e=.returned (.string (bs (Lib.decDigits u)))∧Below w.heap.size w w':=by
  by_cases hs:u<100
  · have hC:=lI (fun W=>Tryz.internal_strconv_small u hs W)
    have hlt:(u:Int)<100:=om
    go_enter Tryz.func45,Tryz.ntmps45
    go_wp2_with fail
    refine(hC.out _).mono ?_
    rintro e w2 ⟨rfl,rfl⟩
    go_wp2_with fail
    go_ret
    exact⟨rfl,Below.refl _ _⟩
  · have hu1:1≤u:=om
    have hnlt:¬(u:Int)<100:=om
    have hnd20:Lib.nDigits u≤20:=by have:=Lib.numDigits_eq u hu1 hu64;split at this<;>omega
    have hal:Tryz.prog.arrayLen 151=24:=by simp[Program.arrayLen,Tryz.underlying151]
    have hsl:∀W,(Instr.sliceAt 151 (.pointer (some ⟨w.heap.size,0,none⟩)) none (some (.int .i64 (Lib.nDigits u:Int))) none).run Tryz.prog W=.ok (.slice (some ⟨w.heap.size,0,none⟩) (Lib.nDigits u) 24) W:=fun W=>by
      rw[run_sliceAt_array_h W 151 ⟨w.heap.size,0,none⟩ (by simp[Program.arrayLen,Program.elem,Tryz.underlying151]) .i64 (Lib.nDigits u:Int) om (by rw[hal];omega)]
      go_simp
    have hH0:=Lib.holds_zero0 w 151 (Lib.nDigits u) om
    have hfmt:=Tryz.internal_strconv_formatBase10 w.heap.size 0 24 u (Array.replicate (Lib.nDigits u) 0) (w.alloc (.cells Lib.zeros24 151)) hH0 (by rw[Array.size_replicate];exact Lib.lt_pow_nDigits u) hu64 (by rw[Array.size_replicate];omega)
    rw[Array.size_replicate]at hfmt
    have HH0:=lI hH0
    have HF:=lI hfmt
    have HND:=lI (fun W (hW:Below w.heap.size w W)=>Tryz.internal_strconv_numDigits u hu1 hu64 W (HT.out W hW))
    clear hH0 hal hfmt
    go_enter Tryz.func45,Tryz.ntmps45
    go_wp2_with fail
    refine(HND.out _ (Below.alloc br (sN _) _)).mono ?_
    rintro e w2 ⟨rfl,rfl⟩
    go_wp2_with fail
    refine HF.out.mono ?_
    rintro e w2 ⟨rfl,k,v',dk,rfl,hF⟩
    have hcv:(convert 27 9 (.slice (some ⟨w.heap.size,0,none⟩) (Lib.nDigits u) 24)).run Tryz.prog ((putRow (fun(b:UInt8)=>Value.int .u8 (b.toNat:Int)) (w.alloc (.cells Lib.zeros24 151)) w.heap.size 0 dk).drewN k)=.ok (.string (bs (Lib.decDigits u))) ((putRow (fun(b:UInt8)=>Value.int .u8 (b.toNat:Int)) (w.alloc (.cells Lib.zeros24 151)) w.heap.size 0 dk).drewN k):=by
      have h:=run_convert_bytes_back (P:=Tryz.prog) ((putRow (fun(b:UInt8)=>Value.int .u8 (b.toNat:Int)) (w.alloc (.cells Lib.zeros24 151)) w.heap.size 0 dk).drewN k) 27 9 5 ⟨w.heap.size,0,none⟩ 24 (Lib.decDigits u) Tryz.underlying27 Tryz.underlying5 Tryz.underlying9 (fun j hj=>by
        rw[Lib.row_is_numeral hF j hj,Lib.add_plain,World.cell?_drewN]
        exact cell?_putRow (fun(b:UInt8)=>Value.int .u8 (b.toNat:Int)) _ w.heap.size 0 _ dk HH0.out (by rw[hF.size,Array.size_replicate]) j (by rw[hF.size];rw[Lib.decDigits_length]at hj;exact hj))
      rw[Lib.decDigits_length]at h
      exact h
    go_wp2_with fail
    go_ret
    obtain⟨os,eo⟩:=Lib.fin_at w (.cells Lib.zeros24 151) dk k 0
    refine⟨rfl, ?_⟩
    have hbl:Below w.heap.size w ((putRow (fun(b:UInt8)=>Value.int .u8 (b.toNat:Int)) (w.alloc (.cells Lib.zeros24 151)) w.heap.size 0 dk).drewN k):=by
      rw[eo]
      exact Lib.below_grow _ _ (sN _) k os
    exact hbl
theorem formatU_any (u : Nat) (hu64 : u < 18446744073709551616) (w : World) (HT : Hid (Lib.TabBelow Tryz.prog w.heap.size w "internal/strconv.uint64pow10" .u64 Lib.pow10Tab)) :
    Calls Tryz.prog 25 #[.int .u64 u,.int .i64 10] w fun e w'=>e=.returned (.string (bs (Lib.decDigits u)))∧Below w.heap.size w w':=by
  have HC:=lI (format_any u hu64 w HT)
  clear HT
  go_enter Tryz.func25,Tryz.ntmps25
  go_wp2_with fail
  refine HC.out.mono ?_
  rintro e w2 ⟨rfl,hb⟩
  have HB:=lI hb
  clear hb
  go_wp2_with fail
  go_ret
  exact⟨rfl,HB.out⟩
theorem say_take(wd:List UInt8)(l:List Int){j:Nat}(hj:j<l.length):sayS wd (l.take (j+1))=sayS wd (l.take j)++32::Lib.decDigits (l.getD j 0).toNat:=by
  unfold sayS
  rw[List.take_add_one,sU hj,List.foldl_append,List.getD_eq_getElem?_getD,sU hj]
  rfl
theorem uB:∀(l:List Int) (wd:List UInt8),(∀n∈l,0≤n∧n≤9223372036854775807)→(sayS wd l).length≤wd.length+22*l.length
  |[],wd,_=>by simp[sayS]
  | n :: l, wd, h => by
    have h1:=uB l (wd++32::Lib.decDigits n.toNat) (fun m hm=>h m (List.mem_cons_of_mem _ hm))
    have h2:=JK n.toNat (by have:=h n (List.mem_cons_self ..);omega)
    have e:sayS wd (n::l)=sayS (wd++32::Lib.decDigits n.toNat) l:=rfl
    rw[e]
    simp at h1 ⊢
    omega
theorem cW{p:Prop}(h:p:=by
 go_wp2_with fail
 go_loopg [0,9] l.length (fun gf s0 s9 wx=>∃j:Nat,s0=.string (bs (sayS wd (l.take j)))∧s9=.int .i64 j∧Hid (gf+j=l.length∧Below w.heap.size w wx))
 case atStart=>exact⟨0,rfl,rfl,lI ⟨rfl,Below.refl _ _⟩⟩
 case round=>
   obtain⟨j,rfl,rfl,K⟩:=hrel
   by_cases hj:j<l.length
   · have hne:l≠[]:=fun e=>Nat.not_lt_zero j (by rw[e]at hj;exact hj)
     obtain⟨b,off,rfl,hbw,qR⟩:=HO.out hne
     have c:=(K.out.2.cell (p:=⟨b,off+j,none⟩) hbw).trans (qR j hj)
     have hrn:=HR.out (l.getD j 0) (by rw[List.getD_eq_getElem?_getD,sU hj];exact sR hj)
     have HS:=lI (say_take wd l hj)
     have HSL:=lI (uB (l.take j) wd (fun n hn=>by have:=HR.out n (List.mem_of_mem_take hn);omega))
     generalize l.getD j 0=x at *
     obtain⟨u,rfl⟩:∃u:Nat,x=u:=⟨x.toNat,om⟩
     have hu9:u≤9223372036854775807:=om
     have hcv:IntKind.u64.wrap (u:Int)=(u:Int):=wG
     have hl1:=HL.out
     have hds:=JK u hu9
     have hsl:=HSL.out
     rw[List.length_take]at hsl
     have hS:=HS.out
     rw[sV]at hS
     have HS2:=lI (show bs (sayS wd (l.take (j+1)))=bs (sayS wd (l.take j))++((⟨#[32]⟩:ByteArray)++bs (Lib.decDigits u)) by
       rw[hS,show(⟨#[32]⟩:ByteArray)=bs [32]from rfl,jm,jm]
       rfl)
     have hz1:(⟨#[32]⟩:ByteArray).size+(bs (Lib.decDigits u)).size≤100:=by rw[QW];show 1+_≤100;omega
     have hz2:(bs (sayS wd (l.take j))).size+((⟨#[32]⟩:ByteArray)++bs (Lib.decDigits u)).size≤24000000000:=by
       rw[ByteArray.size_append,QW,QW]
       show _+(1+_)≤_
       omega
     have hi0:(0:Int)≤(j:Int):=om
     have hi1:(j:Int)<(l.length:Int):=om
     have hw1:IntKind.i64.wrap ((j:Int)+1)=((j+1:Nat):Int):=by
       rw[show(j:Int)+1=((j+1:Nat):Int) by omega]
       simp (disch:=omega) only[IntWalk.i64_in]
     have HC:=lI (HF.out u om wr K.out.2)
     have HG:=lI (And.intro K.out.1 hj)
     clear hS HS HSL hsl hds hl1 hrn hne hj qR hu9
     generalize bs (sayS wd (l.take j))=X at *
     generalize bs (Lib.decDigits u)=D at *
     go_wp2_with fail
     refine HC.out.mono ?_
     rintro e w2 ⟨rfl,hb⟩
     have HB:=lI (K.out.2.trans (hb.mono K.out.2.size))
     clear hb
     go_wp2_with fail
     go_roundg (gk-1)
     case measure=>have:=HG.out;omega
     case rel=>exact⟨j+1,by rw[HS2.out],by first|rfl|rw[hw1],lI ⟨by have:=HG.out;omega,HB.out⟩⟩
   · have hjl:j=l.length:=by have:=K.out.1;omega
     subst hjl
     rw[List.take_length]
     clear hj
     go_wp2_with fail
     go_ret
     exact⟨rfl,K.out.2⟩):p:=h
theorem sayI_any (v : Value) (wd : List UInt8) (l : List Int) (hwd : wd.length ≤ 1000000000) (hll : l.length ≤ 1000000000) (hr : ∀ n ∈ l, 0 ≤ n ∧ n ≤ 9223372036854775807) (w : World) (hv : Ints .i64 w v l) (HT : Hid (Lib.TabBelow Tryz.prog w.heap.size w "internal/strconv.uint64pow10" .u64 Lib.pow10Tab)) :
    Calls Tryz.prog 10 #[.string (bs wd),v] w fun e w'=>e=.returned (.string (bs (sayS wd l)))∧Below w.heap.size w w':=by
  obtain⟨ao,cap,rfl,hcap,hmx,hnil,hopen⟩:=hv.open
  unfold maxLen at hmx
  have HO:=lI hopen
  have HR:=lI hr
  have HL:=lI (And.intro hwd hll)
  have HF:=lI (fun(u:Nat) (hu:u<18446744073709551616) (W:World) (hW:Below w.heap.size w W)=>formatU_any u hu W (lI (Jl HT.out hW hW.size)))
  have hlm:(l.length:Int)≤1000000000:=om
  clear hopen hr hwd hll HT hnil
  go_enter Tryz.func10,Tryz.ntmps10
  exact cW
theorem sayU_any (v : Value) (wd : List UInt8) (l : List Int) (hwd : wd.length ≤ 1000000000) (hll : l.length ≤ 1000000000) (hr : ∀ n ∈ l, 0 ≤ n ∧ n ≤ 4294967295) (w : World) (hv : Ints .u32 w v l) (HT : Hid (Lib.TabBelow Tryz.prog w.heap.size w "internal/strconv.uint64pow10" .u64 Lib.pow10Tab)) :
    Calls Tryz.prog 31 #[.string (bs wd),v] w fun e w'=>e=.returned (.string (bs (sayS wd l)))∧Below w.heap.size w w':=by
  obtain⟨ao,cap,rfl,hcap,hmx,hnil,hopen⟩:=hv.open
  unfold maxLen at hmx
  have HO:=lI hopen
  have HR:=lI hr
  have HL:=lI (And.intro hwd hll)
  have HF:=lI (fun(u:Nat) (hu:u<18446744073709551616) (W:World) (hW:Below w.heap.size w W)=>formatU_any u hu W (lI (Jl HT.out hW hW.size)))
  have hlm:(l.length:Int)≤1000000000:=om
  clear hopen hr hwd hll HT hnil
  go_enter Tryz.func31,Tryz.ntmps31
  exact cW
end Go.Proofs.YtlfnddmncbkjaabGreatDoor.W
namespace Go.Proofs.YtlfnddmncbkjaabGreatDoor.Fb
open Go.Lib
theorem parseU_le(M:Nat):∀(l:List UInt8) (acc u:Nat),acc≤M→parseUintM M acc l=.ok u→u≤M
  | [], acc, u, ha, h => by
    unfold parseUintM at h
    injection h with h
    omega
  | c :: l, acc, u, ha, h => by
    unfold parseUintM at h
    split at h
    · split at h
      · cases h
      · split at h
        · cases h
        · exact parseU_le M l _ u om h
    · cases h
theorem numU_none{x:List UInt8}(h:∀u,parseUintB 32 x≠.ok u):numU x=none:=by
  unfold numU
  split
  · rename_i v hv;exact absurd hv (h v)
  · rfl
theorem numU_ok{x:List UInt8}{u:Nat}(h:parseUintB 32 x=.ok u):numU x=if decDigits u=x then some (u:Int)else none:=by
  unfold numU
  rw[h]
end Go.Proofs.YtlfnddmncbkjaabGreatDoor.Fb
namespace Go.Proofs.YtlfnddmncbkjaabGreatDoor.W
open Go.RowKit Fb
def ErrD(B:Nat)(w:World)(n:String):Prop:=∃tp p,∀W,Below B w W→W.var? Tryz.prog n=some #[.iface tp p]
theorem ErrD.on{B:Nat}{w w1:World}{n:String}(h:ErrD B w n)(hb:Below B w w1)(hB:B≤w1.heap.size):ErrD w1.heap.size w1 n:=by
  obtain⟨tp,p,h⟩:=h
  exact⟨tp,p,fun W hW=>h W (hb.trans (hW.mono hB))⟩
def StrsAt(w:World)(v:Value)(xs:List (List UInt8)):Prop:=∃ao cap,v=.slice ao xs.length cap∧xs.length≤cap∧cap≤1099511627776∧(xs≠[]→∃b off,ao=some ⟨b,off,none⟩∧b<w.heap.size∧∀(j:Nat) x,xs[j]? =some x→w.cell? ⟨b,off+j,none⟩=some (.string (bs x)))
theorem parseU_any (x : List UInt8) (hb : x.length ≤ 281474976710656) (w : World) (hS : ErrD w.heap.size w "strconv.ErrSyntax") (hR : ErrD w.heap.size w "strconv.ErrRange") :
    Calls Tryz.prog 24 #[.string (bs x),.int .i64 10,.int .i64 32] w fun e w'=>(∃(n:Nat) (v:Value),e=.returned (.tuple #[.int .u64 n,v])∧n≤4294967295∧((Lib.parseUintB 32 x=.ok n∧v=.nilIface)∨((∀u,Lib.parseUintB 32 x≠.ok u)∧∃t y,v=.iface t y)))∧Below w.heap.size w w':=by
  obtain⟨tp,p,hS⟩:=hS
  obtain⟨tq,q,hR⟩:=hR
  have hz:(bs x).size=x.length:=QW x
  have hd:(bs x).data.toList=x:=by simp[bs]
  cases h:Lib.parseUintB 32 x with
  | ok v =>
    refine(Tryz.strconv_ParseUint_10_at32_ok (bs x) om v (by rw[hd];exact h) w).mono ?_
    rintro e w' ⟨rfl,h2⟩
    have hv:v≤4294967295:=by
      unfold Lib.parseUintB at h
      split at h
      · cases h
      · exact parseU_le _ _ _ _ om h
    refine⟨⟨v,_,rfl,hv,Or.inl ⟨rfl,rfl⟩⟩, ?_⟩
    rcases h2 with rfl|rfl
    · exact Below.refl _ _
    · exact Lib.bytesWorld_below _ _ _
  | «syntax» =>
    refine(Tryz.strconv_ParseUint_10_at32_syntax_var (bs x) om (by rw[hd];exact h) tp p w (hS w br)).mono ?_
    rintro e w' ⟨N,rfl,_,_,h4⟩
    exact⟨⟨0,_,rfl,om,Or.inr ⟨(fun u hu=>by cases hu),_,_,rfl⟩⟩,h4⟩
  | range =>
    refine(Tryz.strconv_ParseUint_10_at32_range_var (bs x) om (by rw[hd];exact h) tq q w (hR w br)).mono ?_
    rintro e w' ⟨N,rfl,_,_,h4⟩
    exact⟨⟨4294967295,_,rfl,om,Or.inr ⟨(fun u hu=>by cases hu),_,_,rfl⟩⟩,h4⟩
theorem own_belowD{w w':World}{B e size n:Nat}{v:Value}{xs:List Value}(h:w.ownsRow B e size v n xs)(hb:Below w.heap.size w w'):w'.ownsRow B e size v n xs:=own_below h hb
theorem cell_one_newD(w:World)(x:Value)(t:TypeId):∀j u,[x][j]? =some u→(w.alloc (.cells #[x] t)).cell? ((⟨w.heap.size,0,none⟩:Addr).add j)=some u:=by
  intro j u hj
  match j,hj with
  |0,hj=>simp at hj;subst hj;simp[Addr.add]
  |(j+1),hj=>simp at hj
theorem StrsAt.below{w w':World}{v:Value}{xs:List (List UInt8)}(h:StrsAt w v xs)(hb:Below w.heap.size w w'):StrsAt w' v xs:=by
  obtain⟨ao,cap,h1,h2,h3,h4⟩:=h
  refine⟨ao,cap,h1,h2,h3,fun hne=> ?_⟩
  obtain⟨b,off,h5,h6,h7⟩:=h4 hne
  exact⟨b,off,h5,Nat.lt_of_lt_of_le h6 hb.size,fun j x hx=>(hb.cell (p:=⟨b,off+j,none⟩) h6).trans (h7 j x hx)⟩
theorem drvnums_any (F : List (List UInt8)) (hx : ∀ x ∈ F, x.length ≤ 4294967296) (hn : F.length ≤ 4294967296) (v : Value) (w : World) (hv : StrsAt w v F) (HT : Hid (Lib.TabBelow Tryz.prog w.heap.size w "internal/strconv.uint64pow10" .u64 Lib.pow10Tab)) (HS : Hid (ErrD w.heap.size w "strconv.ErrSyntax")) (HR : Hid (ErrD w.heap.size w "strconv.ErrRange")) :
    Calls Tryz.prog 8 #[v] w fun e w'=>∃v',e=.returned (.tuple #[v',.bool (F.mapM numU).isSome])∧w'.ownsRow w.heap.size 40 1 v' ((F.mapM numU).getD []).length (((F.mapM numU).getD []).map (.int .u32 ·))∧Below w.heap.size w w':=by
  obtain⟨ao,cap,rfl,hcap,hmx,hopen⟩:=hv
  have HOP:=lI hopen
  have HX:=lI hx
  have HF:=lI (fun(u:Nat) (hu:u<18446744073709551616) (W:World) (hW:Below w.heap.size w W)=>formatU_any u hu W (lI (Jl HT.out hW hW.size)))
  have HPU:=lI (fun(x:List UInt8) (hb:x.length≤281474976710656) (W:World) (hW:Below w.heap.size w W)=>parseU_any x hb W (HS.out.on hW hW.size) (HR.out.on hW hW.size))
  obtain⟨om,hom⟩:∃om,om=F.mapM numU:=⟨_,rfl⟩
  have HN:=lI hom
  rw[←hom]
  obtain⟨i0,hi,hz0,hz1,hz2⟩:=info_parts (show(Tryz.prog.info? 40).map (fun i=>(i.zero,i.size,i.bytes))=some (some (.int .u32 0),1,4) by kernel_rfl)
  clear hom hopen hx HT HS HR
  go_enter Tryz.func8,Tryz.ntmps8
  go_wp2_with fail
  go_loopg [4,11] F.length (fun gf s4 s11 wx=>∃(i:Nat) (acc:List Int),i+gf=F.length∧s11=.int .i64 i∧acc.length=i∧Hid (F.mapM numU=((F.drop i).mapM numU).map (acc++ ·))∧
    wx.ownsRow w.heap.size 40 1 s4 acc.length (acc.map (.int .u32 ·))∧Below w.heap.size w wx)
  case atStart=>
    refine⟨0,[],om,rfl,rfl,lI zC,⟨by simp,Or.inl ⟨rfl,rfl⟩⟩,Below.refl _ _⟩
  case round=>
    obtain⟨i,acc,hig,rfl,hai,HM,hown,hbw⟩:=hrel
    by_cases hlt:i<F.length
    · obtain⟨g',rfl⟩:∃g',gk=g'+1:=⟨gk-1,om⟩
      obtain⟨b,hb⟩:∃b,F[i]? =some b:=⟨F[i],sU hlt⟩
      have hd:F.drop i=b::F.drop (i+1):=by
        rw[sU hlt]at hb
        rw[←Option.some.inj hb]
        exact List.drop_eq_getElem_cons hlt
      have HM2:=lI (show F.mapM numU=(numU b).bind (fun y=>((F.drop (i+1)).mapM numU).map (fun ys=>acc++y::ys)) by
        rw[HM.out,hd,List.mapM_cons]
        cases numU b with
        |none=>rfl
        |some y=>cases(F.drop (i+1)).mapM numU<;>rfl)
      obtain⟨A,off,rfl,hA,qR⟩:=HOP.out (fun e=>by rw[e]at hlt;exact Nat.not_lt_zero _ hlt)
      have hcell:wr.cell? ⟨A,off+i,none⟩=some (.string (bs b)):=(hbw.cell (p:=⟨A,off+i,none⟩) hA).trans (qR i b hb)
      have hbl:=HX.out b (List.mem_of_getElem? hb)
      have HP:=lI (HPU.out b om wr hbw)
      have HO:=lI hown
      have HBW:=lI hbw
      have hi0:(0:Int)≤(i:Int):=om
      have hi1:(i:Int)<(F.length:Int):=om
      clear HM hd hb hown hbw qR hbl
      go_wp2_with fail
      refine HP.out.mono ?_
      rintro e W ⟨⟨n,v,rfl,hn32,⟨hp,rfl⟩|⟨hp,tt,xx,rfl⟩⟩,hbc⟩
      · have HX2:=lI (own_belowD HO.out hbc)
        have hbc':=HBW.out.trans (hbc.mono HBW.out.size)
        have HBC:=lI hbc'
        have HFM:=lI (HF.out n om W hbc')
        have hnu:=numU_ok hp
        clear hbc hbc' hp HP HO
        by_cases hde:Lib.decDigits n=b
        · rw[if_pos hde]at hnu
          have hT:((bs (Lib.decDigits n)).toList==(bs b).toList)=true:=by rw[hde];simp
          have HM3:=lI (show F.mapM numU=((F.drop (i+1)).mapM numU).map ((acc++[(n:Int)])++ ·) by
            rw[HM2.out,hnu]
            simp)
          have hw32:IntKind.u32.wrap (n:Int)=(n:Int):=wG
          clear HM2 hnu hde
          go_wp2_with fail
          refine HFM.out.mono ?_
          rintro e W2 ⟨rfl,hb2⟩
          have HX:=lI (own_belowD HX2.out hb2)
          have HBD:=lI (HBC.out.trans (hb2.mono HBC.out.size))
          clear hb2
          go_wp2_with (at_builtin;go_must (refine wpList_append_own _ rfl (.tmp 28) (.tmp 31) 36 rfl w.heap.size 40 i0 (.int .u32 0) 1 4 Tryz.underlying36 hi hz0 hz1 hz2 rfl zF _ _ _ rfl (HX.out.alloc _) ⟨W2.heap.size,0,none⟩ 1 1 [.int .u32 n] rfl rfl (cell_one_newD _ _ _) (by intro u hu;simp at hu;subst hu;rfl) yG om (by have:=HBD.out.size;simp;omega) ?_;intro v3 w3 hown3 hgrow3 hnil3))
          go_roundg g'
          case measure=>omega
          case rel=>
            have hz:=HBD.out.size
            refine⟨i+1,acc++[(n:Int)],om,by go_num,by simp;omega,HM3,by rw[sW,List.map_append];exact hown3, ?_⟩
            exact(HBD.out.alloc hz _).grown hgrow3 zN (fun j hj=>((HX.out.alloc (.cells #[.int .u32 n] 40)).lt j hj).1)
        · rw[if_neg hde]at hnu
          have hz:om=none:=by rw[HN.out,HM2.out,hnu];rfl
          subst hz
          have hT:((bs (Lib.decDigits n)).toList==(bs b).toList)=false:=by
            rw[sH]
            exact fun e=>hde (by simpa[ByteArray.toList_eq,bs]using e)
          clear HM2 HN hnu hde
          go_wp2_with fail
          refine HFM.out.mono ?_
          rintro e W2 ⟨rfl,hb2⟩
          have HBD:=lI (HBC.out.trans (hb2.mono HBC.out.size))
          clear hb2
          go_wp2_with fail
          go_ret2
          exact⟨_,rfl,⟨by simp,Or.inl ⟨rfl,rfl⟩⟩,HBD.out⟩
      · have hz:om=none:=by rw[HN.out,HM2.out,numU_none hp];rfl
        subst hz
        have HBC:=lI (HBW.out.trans (hbc.mono HBW.out.size))
        clear HM2 HN hp HP hbc
        go_wp2_with fail
        go_ret2
        exact⟨_,rfl,⟨by simp,Or.inl ⟨rfl,rfl⟩⟩,HBC.out⟩
    · have hd:F.drop i=[]:=List.drop_eq_nil_of_le om
      have hz:om=some acc:=by
        rw[HN.out,HM.out,hd]
        simp
      subst hz
      have HO:=lI hown
      have HBC:=lI hbw
      clear HM HN hd hown hbw
      go_wp2_with fail
      go_ret2
      exact⟨_,rfl,HO.out,HBC.out⟩
end Go.Proofs.YtlfnddmncbkjaabGreatDoor.W
namespace Go.Proofs.YtlfnddmncbkjaabGreatDoor.Fb
open Go.Lib
theorem ib_cases(c:UInt8):∀l:List UInt8,(indexByte l c= -1∧l.count c=0∧qh c l=[l])∨∃a r,l=a++c::r∧indexByte l c=(a.length:Int)∧qh c a=[a]∧l.count c=r.count c+1
  |[]=>Or.inl ⟨rfl,rfl,rfl⟩
  | b :: l => by
    by_cases hb:b=c
    · subst hb
      exact Or.inr ⟨[],l,rfl,by simp[indexByte],rfl,by simp⟩
    · rcases ib_cases c l with⟨h1,h2,h3⟩|⟨a,r,h1,h2,h3,h4⟩
      · refine Or.inl ⟨by simp[indexByte,hb,h1],by rw[List.count_cons_of_ne hb];exact h2, ?_⟩
        rw[jh,if_neg hb,h3]
        rfl
      · refine Or.inr ⟨b::a,r,by rw[h1];rfl, ?_, ?_,by rw[List.count_cons_of_ne hb];exact h4⟩
        · have:¬((a.length:Int)= -1):=om
          simp[indexByte,hb,h2,this]
        · rw[jh,if_neg hb,h3]
          rfl
theorem splitK_C(c:UInt8):∀(n:Nat) (l:List UInt8),l.count c=n→splitK [c] 0 n l=qh c l
  | 0, l, h => by
    rcases ib_cases c l with⟨-,-,h3⟩|⟨a,r,-,-,-,h4⟩
    · rw[h3];rfl
    · omega
  | n + 1, l, h => by
    rcases ib_cases c l with⟨-,h2,-⟩|⟨a,r,h1,h2,h3,h4⟩
    · omega
    · have ih:=splitK_C c n r om
      unfold splitK
      rw[index_one,h2,if_neg zC,h1,UI,h3,sV,Nat.add_zero,List.take_append_of_le_length (sN _),List.take_length]
      have hd:(a++c::r).drop (a.length+[c].length)=r:=by
        rw[List.drop_append]
        simp
      rw[hd,ih]
      rfl
theorem splitB_C(c:UInt8)(l:List UInt8):(splitB ⟨#[c]⟩ 0 (countB (bs l) ⟨#[c]⟩) (bs l))=(qh c l).map bs:=by
  have h:=splitB_data ⟨#[c]⟩ 0 (countB (bs l) ⟨#[c]⟩) (bs l)
  have e1:(bs l).data.toList=l:=by simp[bs]
  have e2:(⟨#[c]⟩:ByteArray).data.toList=[c]:=rfl
  have e3:countB (bs l) ⟨#[c]⟩=l.count c:=by
    show count (bs l).data.toList [c]=_
    rw[e1,count_one]
  rw[e1,e2,e3,splitK_C c _ l rfl]at h
  rw[e3,←h,List.map_map]
  have:(bs ∘ fun x:ByteArray=>x.data.toList)=id:=by
    funext x
    rfl
  rw[this,List.map_id]
end Go.Proofs.YtlfnddmncbkjaabGreatDoor.Fb
namespace Go.Proofs.YtlfnddmncbkjaabGreatDoor.W
open Go.RowKit Fb
theorem gsplit_any(c:UInt8)(l:List UInt8)(hl:l.length<4294967281)(w:World):
    Calls Tryz.prog 7 #[.string (bs l),.string ⟨#[c]⟩,.int .i64 0,.int .i64 (-1)] w fun e w'=>e=.returned (.slice (some ⟨w.heap.size,0,none⟩) (qh c l).length (qh c l).length)∧w'=w.alloc (.cells ((qh c l).map (fun x=>Value.string (bs x))).toArray 9):=by
  have hz:(bs l).size=l.length:=QW l
  have h1:1≤(⟨#[c]⟩:ByteArray).size:=sN 1
  have hlen:=Lib.splitB_all ⟨#[c]⟩ h1 0 _ (bs l) rfl
  rw[splitB_C,sX]at hlen
  have hcl:=Lib.countB_le ⟨#[c]⟩ h1 _ (bs l) (sN _)
  have h:=Any.strings_genSplit_core Tryz.lays221 kr (bs l) ⟨#[c]⟩ 0 (-1) (Lib.countB (bs l) ⟨#[c]⟩+1) w om h1 (Nat.zero_le _)
    (fun x cs hx=>by
      have:=Any.strings_Index_one Tryz.lays143 x c (w.alloc (.cells cs 9))
      rw[←Lib.index_one]at this
      exact this)
    (by
      have:=Any.strings_Count_one Tryz.lays138 (bs l) c w
      have e:Lib.countByte (bs l).data.toList c=Lib.countB (bs l) ⟨#[c]⟩:=(Lib.count_one c (bs l).data.toList).symm
      rw[e]at this
      exact this) zF zF (by rw[if_pos zF];omega)
  rw[Nat.add_sub_cancel,splitB_C,sX]at h
  rw[←hlen]at h
  have e2:Lib.cellsOf ((qh c l).map bs) (qh c l).length=((qh c l).map (fun x=>Value.string (bs x))).toArray:=by
    have:=Lib.cellsOf_full ((qh c l).map bs)
    rw[sX,List.map_map]at this
    exact this
  rw[e2]at h
  exact h
theorem split_any(c:UInt8)(l:List UInt8)(hl:l.length<4294967281)(w:World):
    Calls Tryz.prog 5 #[.string (bs l),.string ⟨#[c]⟩] w fun e w'=>∃v,e=.returned v∧v=.slice (some ⟨w.heap.size,0,none⟩) (qh c l).length (qh c l).length∧StrsAt w' v (qh c l)∧Below w.heap.size w w':=by
  have HC:=lI (gsplit_any c l hl w)
  have HL:Hid ((qh c l).length≤1099511627776):=lI (by
    have h1:1≤(⟨#[c]⟩:ByteArray).size:=sN 1
    have hlen:=Lib.splitB_all ⟨#[c]⟩ h1 0 _ (bs l) rfl
    rw[splitB_C,sX]at hlen
    have hcl:=Lib.countB_le ⟨#[c]⟩ h1 _ (bs l) (sN _)
    rw[QW]at hcl
    omega)
  generalize qh c l=xs at *
  go_enter Tryz.func5,Tryz.ntmps5
  go_wp2_with fail
  refine HC.out.mono ?_
  rintro e w2 ⟨rfl,hw2⟩
  have HW:=lI hw2
  clear hw2
  go_wp2_with fail
  go_ret
  refine⟨_,rfl,rfl,⟨_,_,rfl,sN _,HL.out,fun hne=>⟨_,_,rfl, ?_,fun j x hx=> ?_⟩⟩, ?_⟩
  · rw[HW.out];simp
  · rw[HW.out,sM,World.cell?_alloc_new]
    simp[List.getElem?_map,hx]
  · rw[HW.out];exact br.alloc (sN _) _
end Go.Proofs.YtlfnddmncbkjaabGreatDoor.W
