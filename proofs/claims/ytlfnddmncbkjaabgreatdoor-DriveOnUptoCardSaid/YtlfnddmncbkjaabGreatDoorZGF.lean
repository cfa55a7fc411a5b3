import Derived.Test.YtlfnddmncbkjaabGreatDoorZGE
import Derived.Lib.SplitLaws
import Derived.Lib.IndexBytes
set_option linter.unusedVariables false
set_option linter.unusedSimpArgs false
set_option maxRecDepth 100000
set_option maxHeartbeats 4000000
namespace Go.Proofs.YtlfnddmncbkjaabGreatDoor.W
open Go.RowKit Fb
theorem Jk{w w1:World}{B:Nat}{n:String}{k:IntKind}{zs:List Int}(h:Lib.TabBelow Tryz.prog B w n k zs)(hb:Below B w w1)(hB:B≤w1.heap.size):Lib.TabBelow Tryz.prog w1.heap.size w1 n k zs:=
  fun w' hw=>h w' (hb.trans (hw.mono hB))
theorem join_any(w:World)(v:Value)(xs:List (List UInt8))(h:SRow w v xs)(hne:xs≠[])(hn:xs.length≤3)(hl:(Lib.join xs [44]).length≤200):
    Calls Tryz.prog 97 #[v,.string ⟨#[44]⟩] w fun e w'=>e=.returned (.string (bs (Lib.join xs [44])))∧Below w.heap.size w w':=by
  rcases h with⟨h,-⟩|⟨b,rfl,hb,hc⟩
  · exact absurd h hne
  have e1:(xs.map bs).map (fun x:ByteArray=>x.data.toList)=xs:=by
    rw[List.map_map]
    have:((fun x:ByteArray=>x.data.toList) ∘ bs)=id:=by funext x;simp[bs]
    rw[this,List.map_id]
  have:=Tryz.strings_Join b 0 xs.length (xs.map bs) ⟨#[44]⟩ w (fun j x hx=>by
    rw[List.getElem?_map]at hx
    cases hj:xs[j]? with
    |none=>rw[hj]at hx;cases hx
    | some y =>
      rw[hj]at hx
      cases hx
      rw[sM]
      exact hc j y hj) hb yR (by rw[sX];exact sN _) (by rw[e1];exact Nat.le_trans hl zF)
  rw[e1,sX]at this
  exact this
theorem _root_.Go.Proofs.YtlfnddmncbkjaabGreatDoor.Fb.SRow.below{w w':World}{v:Value}{xs:List (List UInt8)}(h:SRow w v xs)(hb:Below w.heap.size w w'):SRow w' v xs:=by
  rcases h with h|⟨b,h1,h2,h3⟩
  · exact .inl h
  · exact .inr ⟨b,h1,Nat.lt_of_lt_of_le h2 hb.size,fun j x hx=>(hb.cell (p:=⟨b,j,none⟩) h2).trans (h3 j x hx)⟩
theorem text_any(op rd rs1 rs2 imm:Int)(hop:1≤op∧op≤59)(hr:(0≤rd∧rd≤31)∧(0≤rs1∧rs1≤31)∧0≤rs2∧rs2≤31)(hi: -2147483648≤imm∧imm≤2147483647)(ha:46≤op∧op≤56→0≤imm∧imm≤3)(w:World)
    (HT : Hid (Lib.TabBelow Tryz.prog w.heap.size w "internal/strconv.uint64pow10" .u64 Lib.pow10Tab)) (HS : Hid (Lib.TabBelow Tryz.prog w.heap.size w "strings.asciiSpace" .u8 Lib.asciiSpaceTab)) :
    Calls Tryz.prog 61 #[.agg #[.int .i64 op,.int .i64 rd,.int .i64 rs1,.int .i64 rs2,.int .i32 imm]] w fun e w'=>e=.returned (.string (bs (textS ⟨op,rd,rs1,rs2,imm⟩)))∧Below w.heap.size w w':=by
  obtain⟨w1,hw1⟩:∃w1,w1=w.alloc (.cells #[.int .i64 op,.int .i64 rd,.int .i64 rs1,.int .i64 rs2,.int .i32 imm] 91):=⟨_,rfl⟩
  have hb1:Below w.heap.size w w1:=zI
  have hs1:w.heap.size<w1.heap.size:=zO
  have c0:(w1).cell? ⟨w.heap.size,0,none⟩=some (.int .i64 op):=zA
  have c1:(w1).cell? ⟨w.heap.size,1,none⟩=some (.int .i64 rd):=zA
  have c2:(w1).cell? ⟨w.heap.size,2,none⟩=some (.int .i64 rs1):=zA
  have c3:(w1).cell? ⟨w.heap.size,3,none⟩=some (.int .i64 rs2):=zA
  have c4:(w1).cell? ⟨w.heap.size,4,none⟩=some (.int .i32 imm):=zA
  have HP:=lI (parts_any op rd rs1 rs2 imm hop hr hi w1 (lI (Jk HT.out hb1 (Nat.le_of_lt hs1))))
  have HN:=lI (fun W (hW:Below w.heap.size w W) (hB:w.heap.size≤W.heap.size)=>name_any op rd rs1 rs2 imm hop ha W (lI (Jk HS.out hW hB)))
  have HJL:=lI (parts_join_len (i:=⟨op,rd,rs1,rs2,imm⟩) hr hi)
  have hnl:=nameS_len op imm
  obtain⟨xs,hxs⟩:∃x,x=partsS ⟨op,rd,rs1,rs2,imm⟩:=⟨_,rfl⟩
  obtain⟨nb,hnb⟩:∃x,x=bs (nameS op imm):=⟨_,rfl⟩
  obtain⟨tb,htb⟩:∃x,x=bs (textS ⟨op,rd,rs1,rs2,imm⟩):=⟨_,rfl⟩
  have HX:Hid (tb=if xs=[]then nb else nb++⟨#[32]⟩++bs (Lib.join xs [44])):=lI (by
    rw[htb,hxs,hnb]
    unfold textS
    split
    · rfl
    · rw[show(⟨#[32]⟩:ByteArray)=bs [32]from rfl,jk,jk,List.append_assoc];rfl)
  have hnz:nb.size≤15:=by rw[hnb,QU];exact hnl
  rw[←hxs]at HP HJL
  rw[←hnb]at HN
  rw[←htb]
  have HB1:=lI hb1
  have HW1:=lI hw1
  clear hw1 hb1 hnb htb hxs hnl hop hr hi ha HT HS
  go_enter Tryz.func61,Tryz.ntmps61
  go_upto_region 1 with(fail)
  rw[←HW1.out]
  go_wp2_with fail
  refine HP.out.mono ?_
  rintro e w2 ⟨⟨v,rfl,hv⟩,hb2⟩
  have hs2:=hb2.size
  have d0:(w2).cell? ⟨w.heap.size,0,none⟩=some (.int .i64 op):=(hb2.cell (p:=⟨w.heap.size,0,none⟩) (hs1)).trans c0
  have d1:(w2).cell? ⟨w.heap.size,1,none⟩=some (.int .i64 rd):=(hb2.cell (p:=⟨w.heap.size,1,none⟩) (hs1)).trans c1
  have d2:(w2).cell? ⟨w.heap.size,2,none⟩=some (.int .i64 rs1):=(hb2.cell (p:=⟨w.heap.size,2,none⟩) (hs1)).trans c2
  have d3:(w2).cell? ⟨w.heap.size,3,none⟩=some (.int .i64 rs2):=(hb2.cell (p:=⟨w.heap.size,3,none⟩) (hs1)).trans c3
  have d4:(w2).cell? ⟨w.heap.size,4,none⟩=some (.int .i32 imm):=(hb2.cell (p:=⟨w.heap.size,4,none⟩) (hs1)).trans c4
  have hb02:=HB1.out.trans (hb2.mono HB1.out.size)
  have HN2:=lI (HN.out w2 hb02 hb02.size)
  have HB2:=lI hb02
  have HV:=lI hv
  clear c0 c1 c2 c3 c4 hb2 hb02 hv
  have hve:∃a c,v=.slice a xs.length c:=by
    rcases HV.out with⟨h1,h2⟩|⟨b,h,-,-⟩
    · exact⟨none,0,by rw[h1,h2];rfl⟩
    · exact⟨_,_,h⟩
  obtain⟨a,c,rfl⟩:=hve
  by_cases hx:xs=[]
  · subst hx
    have HX2:Hid (tb=nb):=lI (by rw[HX.out,if_pos rfl])
    clear HX HV HJL
    go_wp2_with fail
    refine HN2.out.mono ?_
    rintro e w3 ⟨rfl,hb3⟩
    go_wp2_with fail
    go_ret
    exact⟨by rw[HX2.out];rfl,HB2.out.trans (hb3.mono HB2.out.size)⟩
  · have HX2:Hid (tb=nb++⟨#[32]⟩++bs (Lib.join xs [44])):=lI (by rw[HX.out,if_neg hx])
    obtain⟨hj1,hj2⟩:=HJL.out
    obtain⟨jb,hjb⟩:∃x,x=bs (Lib.join xs [44]):=⟨_,rfl⟩
    have HJ:=lI (fun W (hW:Below w2.heap.size w2 W)=>join_any W (.slice a xs.length c) xs (HV.out.below hW) hx hj2 hj1)
    have hjz:jb.size≤200:=by rw[hjb,QU];exact hj1
    rw[←hjb]at HJ HX2
    obtain⟨n,hn⟩:∃n,n=xs.length:=⟨_,rfl⟩
    have hn0:(n:Int)≠0:=by
      have:0<xs.length:=List.length_pos_iff.2 hx
      omega
    have hnb:((n:Int)==0)=false:=sH.2 hn0
    rw[←hn]at HJ ⊢
    have hz1:nb.size+(⟨#[32]⟩:ByteArray).size≤100:=by show _+1≤100;omega
    have hz2:(nb++(⟨#[32]⟩:ByteArray)).size+jb.size≤300:=by rw[ByteArray.size_append];show _+1+_≤300;omega
    clear HX HV HJL hx hjb hj1 hj2 hn hjz hnz
    go_wp2_with fail
    refine HN2.out.mono ?_
    rintro e w3 ⟨rfl,hb3⟩
    have HB3:=lI hb3
    clear hb3
    go_wp2_with fail
    refine(HJ.out w3 HB3.out).mono ?_
    rintro e w4 ⟨rfl,hb4⟩
    go_wp2_with fail
    go_ret
    exact⟨by rw[HX2.out];rfl,HB2.out.trans ((HB3.out.trans (hb4.mono HB3.out.size)).mono HB2.out.size)⟩
theorem isS_atom{i:InsD}(h:isS i=true):46≤i.op∧i.op≤56→0≤i.imm∧i.imm≤3:=by
  intro ⟨h1,h2⟩
  unfold isS at h
  rw[Bool.and_eq_true]at h
  have h3:=h.2
  rw[if_neg om,if_neg om,if_neg om,if_neg om,if_neg om,if_neg om,if_neg om,if_pos ⟨h1,h2⟩]at h3
  have:=of_decide_eq_true h3
  omega
theorem print_any(i:InsD)(wf:I32 i.imm)(w:World)
    (HT : Hid (Lib.TabBelow Tryz.prog w.heap.size w "internal/strconv.uint64pow10" .u64 Lib.pow10Tab)) (HS : Hid (Lib.TabBelow Tryz.prog w.heap.size w "strings.asciiSpace" .u8 Lib.asciiSpaceTab)) :
    Calls Tryz.prog 35 #[.agg (qr i)] w fun e w'=>e=.returned (.tuple #[.string (if isS i=true then bs (textS i)else⟨#[]⟩),.int .i64 (if isS i=true then 0 else 2)])∧Below w.heap.size w w':=by
  have HE:=lI (fun W=>encode_any i W wf)
  have HR:=lI (fun h:isS i=true=>(⟨uk h,isS_atom h⟩:_∧_))
  obtain⟨op,rd,rs1,rs2,imm⟩:=i
  obtain⟨w1,hw1⟩:∃w1,w1=w.alloc (.cells #[.int .i64 op,.int .i64 rd,.int .i64 rs1,.int .i64 rs2,.int .i32 imm] 91):=⟨_,rfl⟩
  have hb1:Below w.heap.size w w1:=zI
  have hs1:w.heap.size<w1.heap.size:=zO
  have c0:(w1).cell? ⟨w.heap.size,0,none⟩=some (.int .i64 op):=zA
  have c1:(w1).cell? ⟨w.heap.size,1,none⟩=some (.int .i64 rd):=zA
  have c2:(w1).cell? ⟨w.heap.size,2,none⟩=some (.int .i64 rs1):=zA
  have c3:(w1).cell? ⟨w.heap.size,3,none⟩=some (.int .i64 rs2):=zA
  have c4:(w1).cell? ⟨w.heap.size,4,none⟩=some (.int .i32 imm):=zA
  have HX:Hid (isS ⟨op,rd,rs1,rs2,imm⟩=true→∀W,Below w.heap.size w W→_):=lI (fun h W hW=>text_any op rd rs1 rs2 imm (HR.out h).1.1 ⟨(HR.out h).1.2.1,(HR.out h).1.2.2.1,(HR.out h).1.2.2.2⟩ wf (HR.out h).2 W (lI (Jk HT.out hW hW.size)) (lI (Jk HS.out hW hW.size)))
  have HB1:=lI hb1
  have HW1:=lI hw1
  simp only[qr]at HE ⊢
  obtain⟨tb,htb⟩:∃x,x=bs (textS ⟨op,rd,rs1,rs2,imm⟩):=⟨_,rfl⟩
  rw[←htb]at HX ⊢
  generalize encW ⟨op,rd,rs1,rs2,imm⟩=cw at *
  generalize isS ⟨op,rd,rs1,rs2,imm⟩=b at *
  clear hw1 hb1 HT HS HR wf htb
  cases b with
  | false =>
    rw[if_neg zF,if_neg zF]at HE ⊢
    clear HX
    go_enter Tryz.func35,Tryz.ntmps35
    go_upto_region 1 with(fail)
    rw[←HW1.out]
    go_wp2_with fail
    refine(HE.out _).mono ?_
    rintro e w2 ⟨rfl,hb2⟩
    have HB2:=lI hb2
    clear hb2
    go_wp2_with fail
    go_ret2
    exact⟨rfl,HB1.out.trans (HB2.out.mono HB1.out.size)⟩
  | true =>
    rw[if_pos rfl,if_pos rfl]at HE ⊢
    have HX2:=lI (HX.out rfl)
    clear HX
    go_enter Tryz.func35,Tryz.ntmps35
    go_upto_region 1 with(fail)
    rw[←HW1.out]
    go_wp2_with fail
    refine(HE.out _).mono ?_
    rintro e w2 ⟨rfl,hb2⟩
    have d0:(w2).cell? ⟨w.heap.size,0,none⟩=some (.int .i64 op):=(hb2.cell (p:=⟨w.heap.size,0,none⟩) (hs1)).trans c0
    have d1:(w2).cell? ⟨w.heap.size,1,none⟩=some (.int .i64 rd):=(hb2.cell (p:=⟨w.heap.size,1,none⟩) (hs1)).trans c1
    have d2:(w2).cell? ⟨w.heap.size,2,none⟩=some (.int .i64 rs1):=(hb2.cell (p:=⟨w.heap.size,2,none⟩) (hs1)).trans c2
    have d3:(w2).cell? ⟨w.heap.size,3,none⟩=some (.int .i64 rs2):=(hb2.cell (p:=⟨w.heap.size,3,none⟩) (hs1)).trans c3
    have d4:(w2).cell? ⟨w.heap.size,4,none⟩=some (.int .i32 imm):=(hb2.cell (p:=⟨w.heap.size,4,none⟩) (hs1)).trans c4
    have HB2:=lI (HB1.out.trans (hb2.mono HB1.out.size))
    have HX3:=lI (HX2.out w2 HB2.out)
    clear c0 c1 c2 c3 c4 hb2 HX2
    go_wp2_with fail
    refine HX3.out.mono ?_
    rintro e w3 ⟨rfl,hb3⟩
    go_wp2_with fail
    go_ret2
    exact⟨rfl,HB2.out.trans (hb3.mono HB2.out.size)⟩
open Go.RowKit Fb Go.Sort Go.Lib
theorem format_any (u : Nat) (hu64 : u < 18446744073709551616) (w : World) (HT : Hid (Lib.TabBelow Tryz.prog w.heap.size w "internal/strconv.uint64pow10" .u64 Lib.pow10Tab)) :
    Calls Tryz.prog 45 #[.int .u64 u,.int .i64 10] w fun e w'=>e=.returned (.string (bs (Lib.decDigits u)))∧Below w.heap.size w w':=by
  by_cases hs:u<100
  · have hC:=lI (fun W=>Tryz.internal_strconv_small u hs W)
    have hlt:(u:Int)<100:=om
    go_enter Tryz.func45,Tryz.ntmps45
    go_wp2_with fail
    refine(hC.out _).mono ?_
    rintro e w2 ⟨rfl,rfl⟩
    go_wp2_with fail
    go_ret
    exact⟨rfl,Below.refl _ _⟩
  · have hu1:1≤u:=om
    have hnlt:¬(u:Int)<100:=om
    have hnd20:Lib.nDigits u≤20:=by have:=Lib.numDigits_eq u hu1 hu64;split at this<;>omega
    have hal:Tryz.prog.arrayLen 151=24:=by simp[Program.arrayLen,Tryz.underlying151]
    have hsl:∀W,(Instr.sliceAt 151 (.pointer (some ⟨w.heap.size,0,none⟩)) none (some (.int .i64 (Lib.nDigits u:Int))) none).run Tryz.prog W=.ok (.slice (some ⟨w.heap.size,0,none⟩) (Lib.nDigits u) 24) W:=fun W=>by
      rw[run_sliceAt_array_h W 151 ⟨w.heap.size,0,none⟩ (by simp[Program.arrayLen,Program.elem,Tryz.underlying151]) .i64 (Lib.nDigits u:Int) om (by rw[hal];omega)]
      go_simp
    have hH0:=Lib.holds_zero0 w 151 (Lib.nDigits u) om
    have hfmt:=Tryz.internal_strconv_formatBase10 w.heap.size 0 24 u (Array.replicate (Lib.nDigits u) 0) (w.alloc (.cells Lib.zeros24 151)) hH0 (by rw[Array.size_replicate];exact Lib.lt_pow_nDigits u) hu64 (by rw[Array.size_replicate];omega)
    rw[Array.size_replicate]at hfmt
    have HH0:=lI hH0
    have HF:=lI hfmt
    have HND:=lI (fun W (hW:Below w.heap.size w W)=>Tryz.internal_strconv_numDigits u hu1 hu64 W (HT.out W hW))
    clear hH0 hal hfmt
    go_enter Tryz.func45,Tryz.ntmps45
    go_wp2_with fail
    refine(HND.out _ (Below.alloc br (sN _) _)).mono ?_
    rintro e w2 ⟨rfl,rfl⟩
    go_wp2_with fail
    refine HF.out.mono ?_
    rintro e w2 ⟨rfl,k,v',dk,rfl,hF⟩
    have hcv:(convert 27 9 (.slice (some ⟨w.heap.size,0,none⟩) (Lib.nDigits u) 24)).run Tryz.prog ((putRow (fun(b:UInt8)=>Value.int .u8 (b.toNat:Int)) (w.alloc (.cells Lib.zeros24 151)) w.heap.size 0 dk).drewN k)=.ok (.string (bs (Lib.decDigits u))) ((putRow (fun(b:UInt8)=>Value.int .u8 (b.toNat:Int)) (w.alloc (.cells Lib.zeros24 151)) w.heap.size 0 dk).drewN k):=by
      have h:=run_convert_bytes_back (P:=Tryz.prog) ((putRow (fun(b:UInt8)=>Value.int .u8 (b.toNat:Int)) (w.alloc (.cells Lib.zeros24 151)) w.heap.size 0 dk).drewN k) 27 9 5 ⟨w.heap.size,0,none⟩ 24 (Lib.decDigits u) Tryz.underlying27 Tryz.underlying5 Tryz.underlying9 (fun j hj=>by
        rw[Lib.row_is_numeral hF j hj,Lib.add_plain,World.cell?_drewN]
        exact cell?_putRow (fun(b:UInt8)=>Value.int .u8 (b.toNat:Int)) _ w.heap.size 0 _ dk HH0.out (by rw[hF.size,Array.size_replicate]) j (by rw[hF.size];rw[Lib.decDigits_length]at hj;exact hj))
      rw[Lib.decDigits_length]at h
      exact h
    go_wp2_with fail
    go_ret
    obtain⟨os,eo⟩:=Lib.fin_at w (.cells Lib.zeros24 151) dk k 0
    refine⟨rfl, ?_⟩
    have hbl:Below w.heap.size w ((putRow (fun(b:UInt8)=>Value.int .u8 (b.toNat:Int)) (w.alloc (.cells Lib.zeros24 151)) w.heap.size 0 dk).drewN k):=by
      rw[eo]
      exact Lib.below_grow _ _ (sN _) k os
    exact hbl
theorem formatU_any (u : Nat) (hu64 : u < 18446744073709551616) (w : World) (HT : Hid (Lib.TabBelow Tryz.prog w.heap.size w "internal/strconv.uint64pow10" .u64 Lib.pow10Tab)) :
    Calls Tryz.prog 25 #[.int .u64 u,.int .i64 10] w fun e w'=>e=.returned (.string (bs (Lib.decDigits u)))∧Below w.heap.size w w':=by
  have HC:=lI (format_any u hu64 w HT)
  clear HT
  go_enter Tryz.func25,Tryz.ntmps25
  go_wp2_with fail
  refine HC.out.mono ?_
  rintro e w2 ⟨rfl,hb⟩
  have HB:=lI hb
  clear hb
  go_wp2_with fail
  go_ret
  exact⟨rfl,HB.out⟩
theorem say_take(wd:List UInt8)(l:List Int){j:Nat}(hj:j<l.length):sayS wd (l.take (j+1))=sayS wd (l.take j)++32::Lib.decDigits (l.getD j 0).toNat:=by
  unfold sayS
  rw[List.take_add_one,sU hj,List.foldl_append,List.getD_eq_getElem?_getD,sU hj]
  rfl
theorem Jz:∀(l:List Int) (wd:List UInt8),(∀n∈l,0≤n∧n≤9223372036854775807)→(sayS wd l).length≤wd.length+22*l.length
  |[],wd,_=>by simp[sayS]
  | n :: l, wd, h => by
    have h1:=Jz l (wd++32::Lib.decDigits n.toNat) (fun m hm=>h m (List.mem_cons_of_mem _ hm))
    have h2:=JJ n.toNat (by have:=h n (List.mem_cons_self ..);omega)
    have e:sayS wd (n::l)=sayS (wd++32::Lib.decDigits n.toNat) l:=rfl
    rw[e]
    simp at h1 ⊢
    omega
theorem cW{p:Prop}(h:p:=by
 go_wp2_with fail
 go_loopg [0,9] l.length (fun gf s0 s9 wx=>∃j:Nat,s0=.string (bs (sayS wd (l.take j)))∧s9=.int .i64 j∧Hid (gf+j=l.length∧Below w.heap.size w wx))
 case atStart=>exact⟨0,rfl,rfl,lI ⟨rfl,Below.refl _ _⟩⟩
 case round=>
   obtain⟨j,rfl,rfl,K⟩:=hrel
   by_cases hj:j<l.length
   · have hne:l≠[]:=fun e=>Nat.not_lt_zero j (by rw[e]at hj;exact hj)
     obtain⟨b,off,rfl,hbw,qQ⟩:=HO.out hne
     have c:=(K.out.2.cell (p:=⟨b,off+j,none⟩) hbw).trans (qQ j hj)
     have hrn:=HR.out (l.getD j 0) (by rw[List.getD_eq_getElem?_getD,sU hj];exact sR hj)
     have HS:=lI (say_take wd l hj)
     have HSL:=lI (Jz (l.take j) wd (fun n hn=>by have:=HR.out n (List.mem_of_mem_take hn);omega))
     generalize l.getD j 0=x at *
     obtain⟨u,rfl⟩:∃u:Nat,x=u:=⟨x.toNat,om⟩
     have hu9:u≤9223372036854775807:=om
     have hcv:IntKind.u64.wrap (u:Int)=(u:Int):=xX
     have hl1:=HL.out
     have hds:=JJ u hu9
     have hsl:=HSL.out
     rw[List.length_take]at hsl
     have hS:=HS.out
     rw[sV]at hS
     have HS2:=lI (show bs (sayS wd (l.take (j+1)))=bs (sayS wd (l.take j))++((⟨#[32]⟩:ByteArray)++bs (Lib.decDigits u)) by
       rw[hS,show(⟨#[32]⟩:ByteArray)=bs [32]from rfl,jk,jk]
       rfl)
     have hz1:(⟨#[32]⟩:ByteArray).size+(bs (Lib.decDigits u)).size≤100:=by rw[QU];show 1+_≤100;omega
     have hz2:(bs (sayS wd (l.take j))).size+((⟨#[32]⟩:ByteArray)++bs (Lib.decDigits u)).size≤24000000000:=by
       rw[ByteArray.size_append,QU,QU]
       show _+(1+_)≤_
       omega
     have hi0:(0:Int)≤(j:Int):=om
     have hi1:(j:Int)<(l.length:Int):=om
     have hw1:IntKind.i64.wrap ((j:Int)+1)=((j+1:Nat):Int):=by
       rw[show(j:Int)+1=((j+1:Nat):Int) by omega]
       simp (disch:=omega) only[IntWalk.i64_in]
     have HC:=lI (HF.out u om wr K.out.2)
     have HG:=lI (And.intro K.out.1 hj)
     clear hS HS HSL hsl hds hl1 hrn hne hj qQ hu9
     generalize bs (sayS wd (l.take j))=X at *
     generalize bs (Lib.decDigits u)=D at *
     go_wp2_with fail
     refine HC.out.mono ?_
     rintro e w2 ⟨rfl,hb⟩
     have HB:=lI (K.out.2.trans (hb.mono K.out.2.size))
     clear hb
     go_wp2_with fail
     go_roundg (gk-1)
     case measure=>have:=HG.out;omega
     case rel=>exact⟨j+1,by rw[HS2.out],by first|rfl|rw[hw1],lI ⟨by have:=HG.out;omega,HB.out⟩⟩
   · have hjl:j=l.length:=by have:=K.out.1;omega
     subst hjl
     rw[List.take_length]
     clear hj
     go_wp2_with fail
     go_ret
     exact⟨rfl,K.out.2⟩):p:=h
theorem sayI_any (v : Value) (wd : List UInt8) (l : List Int) (hwd : wd.length ≤ 1000000000) (hll : l.length ≤ 1000000000) (hr : ∀ n ∈ l, 0 ≤ n ∧ n ≤ 9223372036854775807) (w : World) (hv : Ints .i64 w v l) (HT : Hid (Lib.TabBelow Tryz.prog w.heap.size w "internal/strconv.uint64pow10" .u64 Lib.pow10Tab)) :
    Calls Tryz.prog 10 #[.string (bs wd),v] w fun e w'=>e=.returned (.string (bs (sayS wd l)))∧Below w.heap.size w w':=by
  obtain⟨ao,cap,rfl,hcap,hmx,hnil,hopen⟩:=hv.open
  unfold maxLen at hmx
  have HO:=lI hopen
  have HR:=lI hr
  have HL:=lI (And.intro hwd hll)
  have HF:=lI (fun(u:Nat) (hu:u<18446744073709551616) (W:World) (hW:Below w.heap.size w W)=>formatU_any u hu W (lI (Jk HT.out hW hW.size)))
  have hlm:(l.length:Int)≤1000000000:=om
  clear hopen hr hwd hll HT hnil
  go_enter Tryz.func10,Tryz.ntmps10
  exact cW
theorem sayU_any (v : Value) (wd : List UInt8) (l : List Int) (hwd : wd.length ≤ 1000000000) (hll : l.length ≤ 1000000000) (hr : ∀ n ∈ l, 0 ≤ n ∧ n ≤ 4294967295) (w : World) (hv : Ints .u32 w v l) (HT : Hid (Lib.TabBelow Tryz.prog w.heap.size w "internal/strconv.uint64pow10" .u64 Lib.pow10Tab)) :
    Calls Tryz.prog 31 #[.string (bs wd),v] w fun e w'=>e=.returned (.string (bs (sayS wd l)))∧Below w.heap.size w w':=by
  obtain⟨ao,cap,rfl,hcap,hmx,hnil,hopen⟩:=hv.open
  unfold maxLen at hmx
  have HO:=lI hopen
  have HR:=lI hr
  have HL:=lI (And.intro hwd hll)
  have HF:=lI (fun(u:Nat) (hu:u<18446744073709551616) (W:World) (hW:Below w.heap.size w W)=>formatU_any u hu W (lI (Jk HT.out hW hW.size)))
  have hlm:(l.length:Int)≤1000000000:=om
  clear hopen hr hwd hll HT hnil
  go_enter Tryz.func31,Tryz.ntmps31
  exact cW
end Go.Proofs.YtlfnddmncbkjaabGreatDoor.W
namespace Go.Proofs.YtlfnddmncbkjaabGreatDoor.Fb
open Go.Lib
theorem parseU_le(M:Nat):∀(l:List UInt8) (acc u:Nat),acc≤M→parseUintM M acc l=.ok u→u≤M
  | [], acc, u, ha, h => by
    unfold parseUintM at h
    injection h with h
    omega
  | c :: l, acc, u, ha, h => by
    unfold parseUintM at h
    split at h
    · split at h
      · cases h
      · split at h
        · cases h
        · exact parseU_le M l _ u om h
    · cases h
theorem numU_none{x:List UInt8}(h:∀u,parseUintB 32 x≠.ok u):numU x=none:=by
  unfold numU
  split
  · rename_i v hv;exact absurd hv (h v)
  · rfl
theorem numU_ok{x:List UInt8}{u:Nat}(h:parseUintB 32 x=.ok u):numU x=if decDigits u=x then some (u:Int)else none:=by
  unfold numU
  rw[h]
end Go.Proofs.YtlfnddmncbkjaabGreatDoor.Fb
namespace Go.Proofs.YtlfnddmncbkjaabGreatDoor.W
open Go.RowKit Fb
def ErrD(B:Nat)(w:World)(n:String):Prop:=∃tp p,∀W,Below B w W→W.var? Tryz.prog n=some #[.iface tp p]
theorem ErrD.on{B:Nat}{w w1:World}{n:String}(h:ErrD B w n)(hb:Below B w w1)(hB:B≤w1.heap.size):ErrD w1.heap.size w1 n:=by
  obtain⟨tp,p,h⟩:=h
  exact⟨tp,p,fun W hW=>h W (hb.trans (hW.mono hB))⟩
def StrsAt(w:World)(v:Value)(xs:List (List UInt8)):Prop:=∃ao cap,v=.slice ao xs.length cap∧xs.length≤cap∧cap≤1099511627776∧(xs≠[]→∃b off,ao=some ⟨b,off,none⟩∧b<w.heap.size∧∀(j:Nat) x,xs[j]? =some x→w.cell? ⟨b,off+j,none⟩=some (.string (bs x)))
theorem parseU_any (x : List UInt8) (hb : x.length ≤ 281474976710656) (w : World) (hS : ErrD w.heap.size w "strconv.ErrSyntax") (hR : ErrD w.heap.size w "strconv.ErrRange") :
    Calls Tryz.prog 24 #[.string (bs x),.int .i64 10,.int .i64 32] w fun e w'=>(∃(n:Nat) (v:Value),e=.returned (.tuple #[.int .u64 n,v])∧n≤4294967295∧((Lib.parseUintB 32 x=.ok n∧v=.nilIface)∨((∀u,Lib.parseUintB 32 x≠.ok u)∧∃t y,v=.iface t y)))∧Below w.heap.size w w':=by
  obtain⟨tp,p,hS⟩:=hS
  obtain⟨tq,q,hR⟩:=hR
  have hz:(bs x).size=x.length:=QU x
  have hd:(bs x).data.toList=x:=by simp[bs]
  cases h:Lib.parseUintB 32 x with
  | ok v =>
    refine(Tryz.strconv_ParseUint_10_at32_ok (bs x) om v (by rw[hd];exact h) w).mono ?_
    rintro e w' ⟨rfl,h2⟩
    have hv:v≤4294967295:=by
      unfold Lib.parseUintB at h
      split at h
      · cases h
      · exact parseU_le _ _ _ _ om h
    refine⟨⟨v,_,rfl,hv,Or.inl ⟨rfl,rfl⟩⟩, ?_⟩
    rcases h2 with rfl|rfl
    · exact Below.refl _ _
    · exact Lib.bytesWorld_below _ _ _
  | «syntax» =>
    refine(Tryz.strconv_ParseUint_10_at32_syntax_var (bs x) om (by rw[hd];exact h) tp p w (hS w br)).mono ?_
    rintro e w' ⟨N,rfl,_,_,h4⟩
    exact⟨⟨0,_,rfl,om,Or.inr ⟨(fun u hu=>by cases hu),_,_,rfl⟩⟩,h4⟩
  | range =>
    refine(Tryz.strconv_ParseUint_10_at32_range_var (bs x) om (by rw[hd];exact h) tq q w (hR w br)).mono ?_
    rintro e w' ⟨N,rfl,_,_,h4⟩
    exact⟨⟨4294967295,_,rfl,om,Or.inr ⟨(fun u hu=>by cases hu),_,_,rfl⟩⟩,h4⟩
theorem own_belowD{w w':World}{B e size n:Nat}{v:Value}{xs:List Value}(h:w.ownsRow B e size v n xs)(hb:Below w.heap.size w w'):w'.ownsRow B e size v n xs:=own_below h hb
theorem cell_one_newD(w:World)(x:Value)(t:TypeId):∀j u,[x][j]? =some u→(w.alloc (.cells #[x] t)).cell? ((⟨w.heap.size,0,none⟩:Addr).add j)=some u:=by
  intro j u hj
  match j,hj with
  |0,hj=>simp at hj;subst hj;simp[Addr.add]
  |(j+1),hj=>simp at hj
theorem StrsAt.below{w w':World}{v:Value}{xs:List (List UInt8)}(h:StrsAt w v xs)(hb:Below w.heap.size w w'):StrsAt w' v xs:=by
  obtain⟨ao,cap,h1,h2,h3,h4⟩:=h
  refine⟨ao,cap,h1,h2,h3,fun hne=> ?_⟩
  obtain⟨b,off,h5,h6,h7⟩:=h4 hne
  exact⟨b,off,h5,Nat.lt_of_lt_of_le h6 hb.size,fun j x hx=>(hb.cell (p:=⟨b,off+j,none⟩) h6).trans (h7 j x hx)⟩
theorem drvnums_any (F : List (List UInt8)) (hx : ∀ x ∈ F, x.length ≤ 4294967296) (hn : F.length ≤ 4294967296) (v : Value) (w : World) (hv : StrsAt w v F) (HT : Hid (Lib.TabBelow Tryz.prog w.heap.size w "internal/strconv.uint64pow10" .u64 Lib.pow10Tab)) (HS : Hid (ErrD w.heap.size w "strconv.ErrSyntax")) (HR : Hid (ErrD w.heap.size w "strconv.ErrRange")) :
    Calls Tryz.prog 8 #[v] w fun e w'=>∃v',e=.returned (.tuple #[v',.bool (F.mapM numU).isSome])∧w'.ownsRow w.heap.size 40 1 v' ((F.mapM numU).getD []).length (((F.mapM numU).getD []).map (.int .u32 ·))∧Below w.heap.size w w':=by
  obtain⟨ao,cap,rfl,hcap,hmx,hopen⟩:=hv
  have HOP:=lI hopen
  have HX:=lI hx
  have HF:=lI (fun(u:Nat) (hu:u<18446744073709551616) (W:World) (hW:Below w.heap.size w W)=>formatU_any u hu W (lI (Jk HT.out hW hW.size)))
  have HPU:=lI (fun(x:List UInt8) (hb:x.length≤281474976710656) (W:World) (hW:Below w.heap.size w W)=>parseU_any x hb W (HS.out.on hW hW.size) (HR.out.on hW hW.size))
  obtain⟨oq,hom⟩:∃oq,oq=F.mapM numU:=⟨_,rfl⟩
  have HN:=lI hom
  rw[←hom]
  obtain⟨i0,hi,hz0,hz1,hz2⟩:=info_parts (show(Tryz.prog.info? 40).map (fun i=>(i.zero,i.size,i.bytes))=some (some (.int .u32 0),1,4) by kernel_rfl)
  clear hom hopen hx HT HS HR
  go_enter Tryz.func8,Tryz.ntmps8
  go_wp2_with fail
  go_loopg [4,11] F.length (fun gf s4 s11 wx=>∃(i:Nat) (acc:List Int),i+gf=F.length∧s11=.int .i64 i∧acc.length=i∧Hid (F.mapM numU=((F.drop i).mapM numU).map (acc++ ·))∧
    wx.ownsRow w.heap.size 40 1 s4 acc.length (acc.map (.int .u32 ·))∧Below w.heap.size w wx)
  case atStart=>
    refine⟨0,[],om,rfl,rfl,lI zC,⟨by simp,Or.inl ⟨rfl,rfl⟩⟩,Below.refl _ _⟩
  case round=>
    obtain⟨i,acc,hig,rfl,hai,HM,hown,hbw⟩:=hrel
    by_cases hlt:i<F.length
    · obtain⟨g',rfl⟩:∃g',gk=g'+1:=⟨gk-1,om⟩
      obtain⟨b,hb⟩:∃b,F[i]? =some b:=⟨F[i],sU hlt⟩
      have hd:F.drop i=b::F.drop (i+1):=by
        rw[sU hlt]at hb
        rw[←Option.some.inj hb]
        exact List.drop_eq_getElem_cons hlt
      have HM2:=lI (show F.mapM numU=(numU b).bind (fun y=>((F.drop (i+1)).mapM numU).map (fun ys=>acc++y::ys)) by
        rw[HM.out,hd,List.mapM_cons]
        cases numU b with
        |none=>rfl
        |some y=>cases(F.drop (i+1)).mapM numU<;>rfl)
      obtain⟨A,off,rfl,hA,qQ⟩:=HOP.out (fun e=>by rw[e]at hlt;exact Nat.not_lt_zero _ hlt)
      have hcell:wr.cell? ⟨A,off+i,none⟩=some (.string (bs b)):=(hbw.cell (p:=⟨A,off+i,none⟩) hA).trans (qQ i b hb)
      have hbl:=HX.out b (List.mem_of_getElem? hb)
      have HP:=lI (HPU.out b om wr hbw)
      have HO:=lI hown
      have HBW:=lI hbw
      have hi0:(0:Int)≤(i:Int):=om
      have hi1:(i:Int)<(F.length:Int):=om
      clear HM hd hb hown hbw qQ hbl
      go_wp2_with fail
      refine HP.out.mono ?_
      rintro e W ⟨⟨n,v,rfl,hn32,⟨hp,rfl⟩|⟨hp,tt,xx,rfl⟩⟩,hbc⟩
      · have HX2:=lI (own_belowD HO.out hbc)
        have hbc':=HBW.out.trans (hbc.mono HBW.out.size)
        have HBC:=lI hbc'
        have HFM:=lI (HF.out n om W hbc')
        have hnu:=numU_ok hp
        clear hbc hbc' hp HP HO
        by_cases hde:Lib.decDigits n=b
        · rw[if_pos hde]at hnu
          have hT:((bs (Lib.decDigits n)).toList==(bs b).toList)=true:=by rw[hde];simp
          have HM3:=lI (show F.mapM numU=((F.drop (i+1)).mapM numU).map ((acc++[(n:Int)])++ ·) by
            rw[HM2.out,hnu]
            simp)
          have hw32:IntKind.u32.wrap (n:Int)=(n:Int):=xX
          clear HM2 hnu hde
          go_wp2_with fail
          refine HFM.out.mono ?_
          rintro e W2 ⟨rfl,hb2⟩
          have HX:=lI (own_belowD HX2.out hb2)
          have HBD:=lI (HBC.out.trans (hb2.mono HBC.out.size))
          clear hb2
          go_wp2_with (at_builtin;go_must (refine wpList_append_own _ rfl (.tmp 28) (.tmp 31) 36 rfl w.heap.size 40 i0 (.int .u32 0) 1 4 Tryz.underlying36 hi hz0 hz1 hz2 rfl zF _ _ _ rfl (HX.out.alloc _) ⟨W2.heap.size,0,none⟩ 1 1 [.int .u32 n] rfl rfl (cell_one_newD _ _ _) (by intro u hu;simp at hu;subst hu;rfl) zZ om (by have:=HBD.out.size;simp;omega) ?_;intro v3 w3 hown3 hgrow3 hnil3))
          go_roundg g'
          case measure=>omega
          case rel=>
            have hz:=HBD.out.size
            refine⟨i+1,acc++[(n:Int)],om,by go_num,by simp;omega,HM3,by rw[sW,List.map_append];exact hown3, ?_⟩
            exact(HBD.out.alloc hz _).grown hgrow3 zL (fun j hj=>((HX.out.alloc (.cells #[.int .u32 n] 40)).lt j hj).1)
        · rw[if_neg hde]at hnu
          have hz:oq=none:=by rw[HN.out,HM2.out,hnu];rfl
          subst hz
          have hT:((bs (Lib.decDigits n)).toList==(bs b).toList)=false:=by
            rw[sH]
            exact fun e=>hde (by simpa[ByteArray.toList_eq,bs]using e)
          clear HM2 HN hnu hde
          go_wp2_with fail
          refine HFM.out.mono ?_
          rintro e W2 ⟨rfl,hb2⟩
          have HBD:=lI (HBC.out.trans (hb2.mono HBC.out.size))
          clear hb2
          go_wp2_with fail
          go_ret2
          exact⟨_,rfl,⟨by simp,Or.inl ⟨rfl,rfl⟩⟩,HBD.out⟩
      · have hz:oq=none:=by rw[HN.out,HM2.out,numU_none hp];rfl
        subst hz
        have HBC:=lI (HBW.out.trans (hbc.mono HBW.out.size))
        clear HM2 HN hp HP hbc
        go_wp2_with fail
        go_ret2
        exact⟨_,rfl,⟨by simp,Or.inl ⟨rfl,rfl⟩⟩,HBC.out⟩
    · have hd:F.drop i=[]:=List.drop_eq_nil_of_le om
      have hz:oq=some acc:=by
        rw[HN.out,HM.out,hd]
        simp
      subst hz
      have HO:=lI hown
      have HBC:=lI hbw
      clear HM HN hd hown hbw
      go_wp2_with fail
      go_ret2
      exact⟨_,rfl,HO.out,HBC.out⟩
end Go.Proofs.YtlfnddmncbkjaabGreatDoor.W
namespace Go.Proofs.YtlfnddmncbkjaabGreatDoor.Fb
open Go.Lib
theorem ib_cases(c:UInt8):∀l:List UInt8,(indexByte l c= -1∧l.count c=0∧qf c l=[l])∨∃a r,l=a++c::r∧indexByte l c=(a.length:Int)∧qf c a=[a]∧l.count c=r.count c+1
  |[]=>Or.inl ⟨rfl,rfl,rfl⟩
  | b :: l => by
    by_cases hb:b=c
    · subst hb
      exact Or.inr ⟨[],l,rfl,by simp[indexByte],rfl,by simp⟩
    · rcases ib_cases c l with⟨h1,h2,h3⟩|⟨a,r,h1,h2,h3,h4⟩
      · refine Or.inl ⟨by simp[indexByte,hb,h1],by rw[List.count_cons_of_ne hb];exact h2, ?_⟩
        rw[jf,if_neg hb,h3]
        rfl
      · refine Or.inr ⟨b::a,r,by rw[h1];rfl, ?_, ?_,by rw[List.count_cons_of_ne hb];exact h4⟩
        · have:¬((a.length:Int)= -1):=om
          simp[indexByte,hb,h2,this]
        · rw[jf,if_neg hb,h3]
          rfl
theorem splitK_C(c:UInt8):∀(n:Nat) (l:List UInt8),l.count c=n→splitK [c] 0 n l=qf c l
  | 0, l, h => by
    rcases ib_cases c l with⟨-,-,h3⟩|⟨a,r,-,-,-,h4⟩
    · rw[h3];rfl
    · omega
  | n + 1, l, h => by
    rcases ib_cases c l with⟨-,h2,-⟩|⟨a,r,h1,h2,h3,h4⟩
    · omega
    · have ih:=splitK_C c n r om
      unfold splitK
      rw[index_one,h2,if_neg zC,h1,UH,h3,sV,Nat.add_zero,List.take_append_of_le_length (sN _),List.take_length]
      have hd:(a++c::r).drop (a.length+[c].length)=r:=by
        rw[List.drop_append]
        simp
      rw[hd,ih]
      rfl
theorem splitB_C(c:UInt8)(l:List UInt8):(splitB ⟨#[c]⟩ 0 (countB (bs l) ⟨#[c]⟩) (bs l))=(qf c l).map bs:=by
  have h:=splitB_data ⟨#[c]⟩ 0 (countB (bs l) ⟨#[c]⟩) (bs l)
  have e1:(bs l).data.toList=l:=by simp[bs]
  have e2:(⟨#[c]⟩:ByteArray).data.toList=[c]:=rfl
  have e3:countB (bs l) ⟨#[c]⟩=l.count c:=by
    show count (bs l).data.toList [c]=_
    rw[e1,count_one]
  rw[e1,e2,e3,splitK_C c _ l rfl]at h
  rw[e3,←h,List.map_map]
  have:(bs ∘ fun x:ByteArray=>x.data.toList)=id:=by
    funext x
    rfl
  rw[this,List.map_id]
end Go.Proofs.YtlfnddmncbkjaabGreatDoor.Fb
namespace Go.Proofs.YtlfnddmncbkjaabGreatDoor.W
open Go.RowKit Fb
theorem gsplit_any(c:UInt8)(l:List UInt8)(hl:l.length<4294967281)(w:World):
    Calls Tryz.prog 7 #[.string (bs l),.string ⟨#[c]⟩,.int .i64 0,.int .i64 (-1)] w fun e w'=>e=.returned (.slice (some ⟨w.heap.size,0,none⟩) (qf c l).length (qf c l).length)∧w'=w.alloc (.cells ((qf c l).map (fun x=>Value.string (bs x))).toArray 9):=by
  have hz:(bs l).size=l.length:=QU l
  have h1:1≤(⟨#[c]⟩:ByteArray).size:=sN 1
  have hlen:=Lib.splitB_all ⟨#[c]⟩ h1 0 _ (bs l) rfl
  rw[splitB_C,sX]at hlen
  have hcl:=Lib.countB_le ⟨#[c]⟩ h1 _ (bs l) (sN _)
  have h:=Any.strings_genSplit_core Tryz.lays221 kr (bs l) ⟨#[c]⟩ 0 (-1) (Lib.countB (bs l) ⟨#[c]⟩+1) w om h1 (Nat.zero_le _)
    (fun x cs hx=>by
      have:=Any.strings_Index_one Tryz.lays143 x c (w.alloc (.cells cs 9))
      rw[←Lib.index_one]at this
      exact this)
    (by
      have:=Any.strings_Count_one Tryz.lays138 (bs l) c w
      have e:Lib.countByte (bs l).data.toList c=Lib.countB (bs l) ⟨#[c]⟩:=(Lib.count_one c (bs l).data.toList).symm
      rw[e]at this
      exact this) zF zF (by rw[if_pos zF];omega)
  rw[Nat.add_sub_cancel,splitB_C,sX]at h
  rw[←hlen]at h
  have e2:Lib.cellsOf ((qf c l).map bs) (qf c l).length=((qf c l).map (fun x=>Value.string (bs x))).toArray:=by
    have:=Lib.cellsOf_full ((qf c l).map bs)
    rw[sX,List.map_map]at this
    exact this
  rw[e2]at h
  exact h
theorem split_any(c:UInt8)(l:List UInt8)(hl:l.length<4294967281)(w:World):
    Calls Tryz.prog 5 #[.string (bs l),.string ⟨#[c]⟩] w fun e w'=>∃v,e=.returned v∧v=.slice (some ⟨w.heap.size,0,none⟩) (qf c l).length (qf c l).length∧StrsAt w' v (qf c l)∧Below w.heap.size w w':=by
  have HC:=lI (gsplit_any c l hl w)
  have HL:Hid ((qf c l).length≤1099511627776):=lI (by
    have h1:1≤(⟨#[c]⟩:ByteArray).size:=sN 1
    have hlen:=Lib.splitB_all ⟨#[c]⟩ h1 0 _ (bs l) rfl
    rw[splitB_C,sX]at hlen
    have hcl:=Lib.countB_le ⟨#[c]⟩ h1 _ (bs l) (sN _)
    rw[QU]at hcl
    omega)
  generalize qf c l=xs at *
  go_enter Tryz.func5,Tryz.ntmps5
  go_wp2_with fail
  refine HC.out.mono ?_
  rintro e w2 ⟨rfl,hw2⟩
  have HW:=lI hw2
  clear hw2
  go_wp2_with fail
  go_ret
  refine⟨_,rfl,rfl,⟨_,_,rfl,sN _,HL.out,fun hne=>⟨_,_,rfl, ?_,fun j x hx=> ?_⟩⟩, ?_⟩
  · rw[HW.out];simp
  · rw[HW.out,sM,World.cell?_alloc_new]
    simp[List.getElem?_map,hx]
  · rw[HW.out];exact br.alloc (sN _) _
end Go.Proofs.YtlfnddmncbkjaabGreatDoor.W
namespace Go.Proofs.YtlfnddmncbkjaabGreatDoor.Fb
open Go.RowKit
def RunD.hold(d:RunD)(b:Bool)(x:Int):RunD:={d with h:=d.h.hold b x}
def RunD.mem(d:RunD)(op a x:Int):RunD:={d with m:=Qg d.m op a x}
def RunD.atom(d:RunD)(op:Int)(kd ka kb:Nat):RunD:=
  if qY d.m 13 (d.get ka)=true then
    if op=46 then(d.hold true (d.get ka)).put kd (QB d.m 13 (d.get ka))
    else if op=47 then(if(d.h.held&&d.h.heldAt==d.get ka)=true then(((d.hold false 0).mem 18 (d.get ka) (d.get kb)).stored (d.get ka) 4).put kd 0 else(d.hold false 0).put kd 1)
    else((d.mem 18 (d.get ka) (amo op (QB d.m 13 (d.get ka)) (d.get kb))).stored (d.get ka) 4).put kd (QB d.m 13 (d.get ka))
  else d.trap (if op=46 then 3 else 4)
theorem uJ{d:RunD}(wf:d.Wf)(k:Nat):U32 (d.get k):=by
  have key:∀(l:List Int) (j:Nat),(∀x∈l,U32 x)→U32 (l.getD j 0):=fun l j hl=>by
    by_cases hj:j<l.length
    · rw[List.getD_eq_getElem?_getD,sU hj];exact hl _ (sR hj)
    · rw[List.getD_eq_getElem?_getD,List.getElem?_eq_none om];exact jp
  unfold RunD.get;split
  · exact key _ _ wf.h.regs
  · exact key _ _ wf.temps
section
variable {rp : Nat} {TO TS : TypeId} {w : World} {d : RunD} {vm vo vs : Value}
end
end Go.Proofs.YtlfnddmncbkjaabGreatDoor.Fb
namespace Go.Proofs.YtlfnddmncbkjaabGreatDoor.W
open Go.RowKit Fb
end Go.Proofs.YtlfnddmncbkjaabGreatDoor.W
namespace Go.Proofs.YtlfnddmncbkjaabGreatDoor.Fb
open Go.RowKit
def namedK(c s:Int):Int:=
  if c=100 then(if 5≤s∧s≤10 then 14 else -1)
  else if c=200 then(if 11≤s∧s≤15 then 11 else -1)
  else if c=300 then(if 16≤s∧s≤18 then 14 else -1)
  else if c=400 then(if 28≤s∧s≤45 then 7 else -1)
  else if c=500 then(if 28≤s∧s≤45 then 11 else -1)
  else if c=600 then(if 46≤s∧s≤56 then 7 else -1)
  else -1
theorem namedI_k{op:Int}(h:¬(op=1∨op=3)∧¬op=2∧¬op=4∧¬(op=5∨op=6)):Qq op=namedK (op-op.tmod 100) (op.tmod 100):=by
  unfold Qq namedK
  rw[if_neg h.1,if_neg h.2.1,if_neg h.2.2.1,if_neg h.2.2.2]
end Go.Proofs.YtlfnddmncbkjaabGreatDoor.Fb
namespace Go.Proofs.YtlfnddmncbkjaabGreatDoor.W
open Go.RowKit Fb
end Go.Proofs.YtlfnddmncbkjaabGreatDoor.W
namespace Go.Proofs.YtlfnddmncbkjaabGreatDoor.Fb
open Go.RowKit
def RunD.call(d:RunD):RunD:=
  if d.h.reg 17=0 then {d with over:=true,h:=({d.h with state:=1}:Hart).setPc d.here}
  else if d.h.reg 17=1 then {d with out:=d.out++[d.h.reg 10]}
  else d.trap 5
def RunD.one(d:RunD)(m:MicD)(steps:Int):RunD:=
  if m.op=1 then(if(d.steps==steps||d.own)=true then d.stop m.n else {d with steps:=d.steps+1,here:=m.n})
  else if m.op=2 then d.put m.d.toNat m.n
  else if m.op=3 then d.stop m.n
  else if m.op=4 then d.stop (u32 (d.get m.a.toNat+m.n)-u32 (d.get m.a.toNat+m.n)%2)
  else if m.op=6 then d.trap 6
  else if m.op=5 then d.call
  else if m.op-m.op.tmod 100=100 then(if holds (m.op.tmod 100) (d.get m.a.toNat) (d.get m.b.toNat)=true then d.stop m.n else d)
  else if m.op-m.op.tmod 100=200 then(if qY d.m (m.op.tmod 100) (u32 (d.get m.a.toNat+m.n))=true then d.put m.d.toNat (QB d.m (m.op.tmod 100) (u32 (d.get m.a.toNat+m.n)))else d.trap 3)
  else if m.op-m.op.tmod 100=300 then(if qU d.m (m.op.tmod 100) (u32 (d.get m.a.toNat+m.n))=true then(d.mem (m.op.tmod 100) (u32 (d.get m.a.toNat+m.n)) (d.get m.b.toNat)).stored (u32 (d.get m.a.toNat+m.n)) (qO (m.op.tmod 100)).toNat else d.trap 4)
  else if m.op-m.op.tmod 100=400 then d.put m.d.toNat (alu (m.op.tmod 100) (d.get m.a.toNat) (d.get m.b.toNat))
  else if m.op-m.op.tmod 100=500 then d.put m.d.toNat (alu (m.op.tmod 100) (d.get m.a.toNat) m.n)
  else if m.op-m.op.tmod 100=600 then d.atom (m.op.tmod 100) m.d.toNat m.a.toNat m.b.toNat
  else d
section
variable {rp : Nat} {TO TS : TypeId} {w : World} {d : RunD} {vm vo vs : Value}
end
end Go.Proofs.YtlfnddmncbkjaabGreatDoor.Fb
namespace Go.Proofs.YtlfnddmncbkjaabGreatDoor.W
open Go.RowKit Fb
end Go.Proofs.YtlfnddmncbkjaabGreatDoor.W
namespace Go.Proofs.YtlfnddmncbkjaabGreatDoor.Fb
open Go.RowKit
end Go.Proofs.YtlfnddmncbkjaabGreatDoor.Fb
namespace Go.Proofs.YtlfnddmncbkjaabGreatDoor.W
open Go.RowKit Fb
end Go.Proofs.YtlfnddmncbkjaabGreatDoor.W
namespace Go.Proofs.YtlfnddmncbkjaabGreatDoor.Fb
open Go.RowKit
theorem Qc{P:Program}{w:World}{ops:Array Oper}{o:Oper}{a:Act}{K:Act→World→Prop}{Q:Exit→Act→World→Prop}{E:Prop}(hgd:o.guard=none)(s x:Operand)(t:TypeId)
    (ho:o.op=.call {callee:=.builtin .append,args:=#[s,x],argTypes:=#[t,t]})
    (base:Nat) (e:TypeId) (i:TypeInfo) (z:Value) (size bytes:Nat) (ht:P.underlying t=some (.slice e)) (hi:P.info? e=some i) (hz:i.zero=some z)
    (hsize:i.size=size) (hby:i.bytes=bytes) (hzs:z.cells.size=size) (hsz:0<size)
    (v:Value) (n:Nat) (xs:List Value) (hs:a.eval s=v) (hown:w.ownsRow base e size v n xs)
    (ad:Addr) (m c:Nat) (news:List Value) (hx:a.eval x=.slice (some ad) m c) (hl:news.length=m*size) (hnews:∀j u,news[j]? =some u→w.cell? (ad.add j)=some u) (h1:∀u∈news,u.oneCell'=true)
    (h63:n+m≤maxLen) (hbytes:(n+m)*bytes≤140737488355328) (hbase:base≤w.heap.size)
    (h:∀v' w',w'.ownsRow base e size v' (n+m) (xs++news)→w.grownBy w' v.ownBlock→(∀k,v'.ownBlock=some k→v.ownBlock=some k∨w.heap.size≤k)→K (a.put o.dst v') w'):
    if Region.wanted o (yielded ops a.tmps)=true then Oper.wp P o a w K Q else E:=by
  have hw:Region.wanted o (yielded ops a.tmps)=true:=wA
  rw[if_pos hw]
  obtain⟨v',w',hr,h2,h3,_,h5⟩:=run_append_own_at (P:=P) w base t o.type e i z size bytes ht hi hz hsize hby hzs hsz v n xs hown ad m c news hl hnews h1 h63 hbytes hbase
  unfold Oper.wp execOp
  simp only[ho,resolve,invoke,builtin,Sem.run_bind,Sem.run_pure,Result.andThen_ok,List.map_toArray,List.map_cons,List.map_nil,hs,hx,hr]
  exact h v' w' h2 h3 (fun k e=>h5.elim (fun e2=>.inl (e2 ▸ e)) (fun e2=>.inr (by rw[e]at e2;cases e2;exact sN _)))
end Go.Proofs.YtlfnddmncbkjaabGreatDoor.Fb
namespace Go.Proofs.YtlfnddmncbkjaabGreatDoor.W
open Go.RowKit Fb
end Go.Proofs.YtlfnddmncbkjaabGreatDoor.W
