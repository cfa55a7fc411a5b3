import Derived.Test.YtlfnddmncbkjaabGreatDoorZWTrans3
import Derived.Test.YtlfnddmncbkjaabGreatDoorZGM
import Derived.Test.YtlfnddmncbkjaabGreatDoorZWCache8
set_option linter.unusedVariables false
set_option linter.unusedSimpArgs false
set_option maxRecDepth 100000
set_option maxHeartbeats 4000000
namespace Go.Proofs.YtlfnddmncbkjaabGreatDoor.Fb
theorem rowM_append(pc:Int):∀(a b:List InsD) (j:Nat),rowM pc j (a++b)=rowM pc j a++rowM pc (j+a.length) b
  |[],b,j=>by simp[rowM]
  | i :: r, b, j => by
    simp only[List.cons_append,rowM,List.length_cons]
    rw[rowM_append pc r b (j+1),List.append_assoc,show j+1+r.length=j+(r.length+1) by omega]
theorem rowM_snoc(pc:Int)(l:List InsD){k:Nat}(hk:k<l.length):rowM pc 0 (l.take (k+1))=rowM pc 0 (l.take k)++insM l[k] (Fb.u32 (pc+Fb.u32 (4*(k:Int)))):=by
  rw[List.take_succ_eq_append_getElem hk,rowM_append]
  simp[rowM,List.length_take,Nat.min_eq_left (Nat.le_of_lt hk)]
end Go.Proofs.YtlfnddmncbkjaabGreatDoor.Fb
namespace Go.Proofs.YtlfnddmncbkjaabGreatDoor.W
open Go.RowKit Fb
theorem tmake_own(v:Value)(l:List InsD)(pc:Int)(w:World)(hv:jS w v l)(hi:∀i∈l,I32 i.imm):
    Calls Tryz.prog 83 #[.agg #[.int .u32 pc,v]] w fun e w'=>(∃v',e=.returned v'∧Sl w' v' 5 (mkM pc l).length ((mkM pc l).flatMap jo)∧∀q,v'.ownBlock=some q→w.heap.size≤q∧q<w'.heap.size∧∃cs f,w'.heap[q]? =some (.cells cs 211 f))∧Below w.heap.size w w':=by
  obtain⟨ao,cap,rfl,hc,hm,-,ho⟩:=hv.open (fun _ _=>rfl) om
  unfold maxLen at hm
  have HO:=lI ho
  have HI:=lI hi
  obtain⟨w1,hw1⟩:∃w1,w1=w.alloc (.cells #[.int .u32 pc,.slice ao l.length cap] 62):=⟨_,rfl⟩
  have hb1:Below w.heap.size w w1:=zI
  have hs1:w1.heap.size=w.heap.size+1:=zO
  have c0:(w1).cell? ⟨w.heap.size,0,none⟩=some (.int .u32 pc):=zA
  have c1:(w1).cell? ⟨w.heap.size,1,none⟩=some (.slice ao l.length cap):=zA
  have hblk:w1.heap[w.heap.size]? =some (.cells #[.int .u32 pc,.slice ao l.length cap] 62 (0,0)):=xJ
  have HBLK:=lI hblk
  have HB1:=lI hb1
  have HW1:=lI hw1
  clear hw1 hb1 hv ho hi hblk
  by_cases h16:16<l.length
  · have hM:mkM pc l=[]:=by unfold mkM;rw[if_pos (.inl h16)]
    rw[hM]
    have k1:(16:Int)<(l.length:Int):=om
    go_enter Tryz.func83,Tryz.ntmps83
    go_upto_region 1 with(fail)
    rw[←HW1.out]
    go_wp2_with fail
    go_ret
    exact⟨⟨_,rfl,Sl.nil _ _,(by intro q hq;cases hq)⟩,HB1.out⟩
  have k1:¬(16:Int)<(l.length:Int):=om
  obtain⟨w2,hw2⟩:∃w2,w2=w1.alloc (.cells #[.slice none 0 0] 199):=⟨_,rfl⟩
  have hb2:Below w1.heap.size w1 w2:=by rw[hw2];exact Fb.blw
  have hs2:w2.heap.size=w1.heap.size+1:=by rw[hw2];simp
  have HMK:Hid (MkW (w.heap.size+1) 211 w2 []):=lI (by rw[hw2,←hs1];exact MkW.init _ _ _)
  have d0:(w2).cell? ⟨w.heap.size,0,none⟩=some (.int .u32 pc):=(hb2.cell (p:=⟨w.heap.size,0,none⟩) ((show w.heap.size<w1.heap.size by omega))).trans c0
  have d1:(w2).cell? ⟨w.heap.size,1,none⟩=some (.slice ao l.length cap):=(hb2.cell (p:=⟨w.heap.size,1,none⟩) ((show w.heap.size<w1.heap.size by omega))).trans c1
  have HB2:Hid (Below w.heap.size w w2):=lI (HB1.out.trans (hb2.mono om))
  have HBL2:Hid (w2.heap[w.heap.size]? =some (.cells #[.int .u32 pc,.slice ao l.length cap] 62 (0,0))):=lI ((hb2.block _ om).trans HBLK.out)
  have HW2:=lI hw2
  clear hw2 hb2
  go_enter Tryz.func83,Tryz.ntmps83
  go_upto_region 1 with(fail)
  rw[←HW1.out]
  go_upto_region 4 with(fail)
  rw[←HW2.out]
  clear c0 c1
  go_wp2_with fail
  go_loopw [17] (fun i wr=>∃k:Nat,i=.int .i64 k∧k≤l.length∧Hid ((l.take k).all isS=true∧MkW (w.heap.size+1) 211 wr (rowM pc 0 (l.take k))∧Below w.heap.size w wr∧At wr w.heap.size 0 [.int .u32 pc,.slice ao l.length cap]∧w.heap.size+2≤wr.heap.size)) (fun i _=>l.length-(intOf i).toNat)
  case atStart=>exact⟨0,rfl,om,lI ⟨rfl,HMK.out,HB2.out,qg d0 (qg d1 uR),om⟩⟩
  case round=>
    obtain⟨k,rfl,hk,HR⟩:=hrel
    by_cases hlt:k<l.length
    · obtain⟨b,off,rfl,hbl,hel⟩:=HO.out zQ
      have hat:=(hel k hlt).of_lt HR.out.2.2.1 hbl
      have HIM:=lI (HI.out l[k] (sR hlt))
      have HSN:=lI (rowM_snoc pc l hlt)
      have HAL:Hid ((l.take (k+1)).all isS=((l.take k).all isS&&isS l[k])):=lI (by rw[List.take_succ_eq_append_getElem hlt,List.all_append];simp)
      have HMEM:=lI (sR hlt)
      obtain⟨i,hi⟩:∃i,i=l[k]:=⟨_,rfl⟩
      rw[←hi]at hat HIM HSN HAL HMEM
      clear hi hel
      obtain⟨op,rd,rs1,rs2,imm⟩:=i
      have e0:=hat.get (j:=0) (v:=.int .i64 op) rfl
      have e1:=hat.get (j:=1) (v:=.int .i64 rd) rfl
      have e2:=hat.get (j:=2) (v:=.int .i64 rs1) rfl
      have e3:=hat.get (j:=3) (v:=.int .i64 rs2) rfl
      have e4:=hat.get (j:=4) (v:=.int .i32 imm) rfl
      simp only[Nat.add_zero]at e0 e1 e2 e3 e4
      have i0:(0:Int)≤(k:Int):=om
      have i1:(k:Int)<(l.length:Int):=om
      obtain⟨w3,hw3⟩:∃w3,w3=wr.alloc (.cells #[.int .i64 op,.int .i64 rd,.int .i64 rs1,.int .i64 rs2,.int .i32 imm] 91):=⟨_,rfl⟩
      have hb3:Below wr.heap.size wr w3:=by rw[hw3];exact Fb.blw
      have hs3:wr.heap.size<w3.heap.size:=by rw[hw3];simp
      have g0:(w3).cell? ⟨wr.heap.size,0,none⟩=some (.int .i64 op):=yO
      have g1:(w3).cell? ⟨wr.heap.size,1,none⟩=some (.int .i64 rd):=yO
      have g2:(w3).cell? ⟨wr.heap.size,2,none⟩=some (.int .i64 rs1):=yO
      have g3:(w3).cell? ⟨wr.heap.size,3,none⟩=some (.int .i64 rs2):=yO
      have g4:(w3).cell? ⟨wr.heap.size,4,none⟩=some (.int .i32 imm):=yO
      have HG:Hid (∀W,Below w3.heap.size w3 W→At W wr.heap.size 0 (jJ ⟨op,rd,rs1,rs2,imm⟩)∧At W w.heap.size 0 [.int .u32 pc,.slice (some ⟨b,off,none⟩) l.length cap]):=lI (fun W hW=>⟨(qg g0 (qg g1 (qg g2 (qg g3 (qg g4 uR))))).below hW,(HR.out.2.2.2.1.below hb3).below hW⟩)
      have HMK3:=lI (HR.out.2.1.below hb3)
      have hwr:=HR.out.2.2.2.2
      have HB3:=lI (HR.out.2.2.1.trans (hb3.mono om))
      have HALL:=lI HR.out.1
      have HEN:=lI (encode_any ⟨op,rd,rs1,rs2,imm⟩ w3 HIM.out)
      have HW3:=lI hw3
      clear hat hw3 hb3 HR
      go_upto_region 7 with(fail)
      rw[←HW3.out]
      clear e0 e1 e2 e3 e4
      go_wp2_with fail
      refine HEN.out.mono ?_
      rintro e w4 ⟨rfl,hb4⟩
      have hs4:=hb4.size
      have HG4:=lI (HG.out w4 hb4)
      have HMK4:=lI (HMK3.out.below hb4)
      have HB4:=lI (HB3.out.trans (hb4.mono om))
      clear hb4 g0 g1 g2 g3 g4
      cases hs:isS ⟨op,rd,rs1,rs2,imm⟩with
      | false =>
        have hM:mkM pc l=[]:=by
          unfold mkM
          rw[if_pos (.inr (List.all_eq_false.2 ⟨_,HMEM.out,by rw[hs];simp⟩))]
        have HM:=lI hM
        clear hM
        rw[if_neg zC,if_neg zC]
        clear hs
        go_wp2_with fail
        go_ret
        rw[HM.out]
        exact⟨⟨_,rfl,Sl.nil _ _,(by intro q hq;cases hq)⟩,HB4.out⟩
      | true =>
        rw[if_pos rfl,if_pos rfl]
        have hln:=rowM_len pc (l.take k) 0
        have hlt2:(l.take k).length=k:=by rw[List.length_take];omega
        have HINS:=lI (ins_any (w.heap.size+1) (rowM pc 0 (l.take k)) ⟨op,rd,rs1,rs2,imm⟩ (Fb.u32 (pc+Fb.u32 (4*(k:Int)))) w4 HMK4.out om hs)
        have HA2:Hid ((l.take (k+1)).all isS=true):=lI (by rw[HAL.out,HALL.out,hs];rfl)
        obtain⟨pq,hpq⟩:∃pq,pq=Fb.u32 (pc+Fb.u32 (4*(k:Int))):=⟨_,rfl⟩
        have HPQ:Hid ((pc+4*(k:Int))%4294967296=pq):=lI (by rw[hpq];unfold Fb.u32;omega)
        have hkc:(k:Int)%4294967296=(k:Int):=om
        rw[←hpq]at HINS HSN
        clear hs hln hlt2 hpq
        have g0:=HG4.out.1.get (j:=0) (v:=.int .i64 op) rfl
        have g1:=HG4.out.1.get (j:=1) (v:=.int .i64 rd) rfl
        have g2:=HG4.out.1.get (j:=2) (v:=.int .i64 rs1) rfl
        have g3:=HG4.out.1.get (j:=3) (v:=.int .i64 rs2) rfl
        have g4:=HG4.out.1.get (j:=4) (v:=.int .i32 imm) rfl
        have q0:=HG4.out.2.get (j:=0) rfl
        simp only[Nat.add_zero,sM]at g0 g1 g2 g3 g4 q0
        go_wp2_with fail
        rw[HPQ.out]
        refine HINS.out.mono ?_
        rintro e w5 ⟨rfl,hk5,hg5⟩
        have hb5:Below (w.heap.size+1) w4 w5:=hg5.below om
        have HR5:Hid ((l.take (k+1)).all isS=true∧MkW (w.heap.size+1) 211 w5 (rowM pc 0 (l.take (k+1)))∧Below w.heap.size w w5∧At w5 w.heap.size 0 [.int .u32 pc,.slice (some ⟨b,off,none⟩) l.length cap]∧w.heap.size+2≤w5.heap.size):=lI ⟨HA2.out,by rw[HSN.out];exact hk5,HB4.out.trans (hb5.mono om),HG4.out.2.of_lt hb5 om,by have:=hb5.size;omega⟩
        clear hk5 hg5 hb5 g0 g1 g2 g3 g4 q0
        go_wp2_with fail
        go_roundw
        case rel=>exact⟨k+1,by simp,om,HR5⟩
        case measure=>simp[intOf];omega
    · obtain rfl:k=l.length:=om
      have k2:¬((l.length:Int)<(l.length:Int)):=om
      obtain⟨hall,⟨v,m0,m1,m2⟩,hbw,-,-⟩:=HR.out
      rw[List.take_length]at hall m2
      have hM:mkM pc l=rowM pc 0 l:=by unfold mkM;rw[if_neg (by rw[hall];simp;omega)]
      have HM:=lI hM
      have HBW:=lI hbw
      have HSL:=lI (ql m2)
      have HOT:=lI (fun q (e:v.ownBlock=some q)=>((⟨by have:=(m2.lt q e).1;omega,(m2.lt q e).2,(by
        rcases m2.2 with⟨h0,_⟩|⟨g1,_,c1,h0,_,q1,_⟩
        · rw[h0]at e;cases e
        · rw[h0]at e;cases e;exact⟨_,_,q1⟩)⟩:w.heap.size≤q∧q<wr.heap.size∧∃cs f,wr.heap[q]? =some (.cells cs 211 f))))
      obtain⟨a3,c3,rfl⟩:=qE m2
      clear m2 hall hbw hM
      go_wp2_with fail
      go_ret
      rw[HM.out]
      exact⟨⟨_,rfl,HSL.out,fun q hq=>by
        obtain⟨h1,h2,cs,f,h3⟩:=HOT.out q hq
        first
          |exact⟨h1,h2,cs,f,h3⟩
          |exact⟨h1,h2,cs,f.1,f.2,h3⟩⟩,HBW.out⟩
theorem info_insb:(Tryz.prog.info? 91).map (fun i=>(i.zero,i.size,i.bytes))=some (some (.agg #[.int .i64 0,.int .i64 0,.int .i64 0,.int .i64 0,.int .i32 0]),5,40):=by kernel_rfl
theorem make_own(v:Value)(l:List Int)(pc:Int)(w:World)(hv:Ints .u8 w v l)(hpc:U32 pc)(hb:∀i,0≤l.getD i 0∧l.getD i 0<256)(hl:l.length≤140737488351232):
    Calls Tryz.prog 20 #[v,.int .u32 pc] w fun e w'=>(∃vi,e=.returned (.agg #[.int .u32 (QS l pc).1,vi])∧jS w' vi (QS l pc).2∧∀q,vi.ownBlock=some q→w.heap.size≤q)∧Below w.heap.size w w':=by
  have HF:=lI (fun p W (hp:U32 p) h=>fetch_any v l p W h hp hb)
  have HV:=lI hv
  obtain⟨ao,cap,rfl,hc1,hc2,_⟩:=hv.open
  by_cases hbig:4096<l.length
  · have hM:QS l pc=(0,[]):=by unfold QS;rw[if_pos hbig]
    rw[hM]
    clear hM HF HV
    go_enter Tryz.func20,Tryz.ntmps20
    go_wp2_with fail
    exact sO (v:=.agg #[.int .u32 0,.slice none 0 0]) (by simp[results,Tryz.results20,go_sem]) rfl ⟨⟨_,rfl,Sl.nil _ _,(by intro q hq;cases hq)⟩,Fb.blw⟩
  have hM:QS l pc=(pc,rowS l 16 pc):=by unfold QS;rw[if_neg hbig]
  rw[hM]
  clear hM
  dsimp only
  have HP:Hid (U32 pc):=lI hpc
  obtain⟨i0,hi,hi0,hi1,hi2⟩:=info_parts info_insb
  go_enter Tryz.func20,Tryz.ntmps20
  go_upto_region 3 with(fail)
  go_upto_region 4 with(fail)
  obtain⟨w0,hw0⟩:∃w0,w0=(w.alloc (.cells #[.int .u32 0,.slice none 0 0] 62)).alloc (.cells #[.int .u32 pc,.slice none 0 0] 62):=⟨_,rfl⟩
  rw[←hw0]
  have hs0:w0.heap.size=w.heap.size+2:=by rw[hw0];simp
  have hb0:Below w.heap.size w w0:=by rw[hw0];exact Fb.blw
  have HB0:Hid (BlkW (w.heap.size+1) 91 w0 pc []):=lI (by have:=BlkW.init (w.alloc (.cells #[.int .u32 0,.slice none 0 0] 62)) 91 62 pc;rw[hw0];simpa using this)
  have HR:Hid (w0.cell? ⟨w.heap.size,0,none⟩=some (.int .u32 0)∧w0.cell? ⟨w.heap.size,1,none⟩=some (.slice none 0 0)∧w0.frozen? ⟨w.heap.size,0,none⟩=false∧w0.frozen? ⟨w.heap.size,1,none⟩=false):=lI (by
    rw[hw0]
    exact⟨by go_cell,by go_cell,(jQ _ zC).trans (by unfold World.frozen?;rw[sP];simp),(jQ _ zC).trans (by unfold World.frozen?;rw[sP];simp)⟩)
  clear hw0
  go_wp2_with fail
  go_loopw [14,1] (fun i p wr=>∃(k:Nat) (q:Int) (pre:List InsD),i=.int .i64 k∧p=.int .u32 q∧U32 q∧k≤16∧pre.length=k∧Hid (pre++rowS l (16-k) q=rowS l 16 pc)∧Hid (BlkW (w.heap.size+1) 91 wr pc pre∧Grew (w.heap.size+1) 91 w0 wr)) (fun i _ _=>16-(intOf i).toNat)
  case atStart=>exact⟨0,pc,[],rfl,rfl,HP.out,om,rfl,lI rfl,lI ⟨HB0.out,Grew.refl _ _ _⟩⟩
  case round=>
    obtain⟨k,q,pre,rfl,rfl,hq,hk,rfl,HE,HW⟩:=hrel
    have hgb:Below (w.heap.size+1) w0 wr:=HW.out.2.below om
    have hbr:Below w.heap.size w wr:=hb0.trans (hgb.mono om)
    by_cases hlt:pre.length<16
    · have HS:=row_step l (15-pre.length) q
      rw[show 15-pre.length+1=16-pre.length from by omega]at HS
      rw[HS]at HE
      clear HS
      have HCF:=lI (HF.out q wr hq (HV.out.below hbr))
      generalize (qc l q).2=cc at *
      generalize (qc l q).1=ii at *
      go_wp2_with fail
      refine(HCF.out).mono ?_
      rintro e w1 ⟨rfl,hb1⟩
      obtain⟨q1,q2,q3,q4,q5⟩:=ii
      simp only[qr]
      have HW1:Hid (BlkW (w.heap.size+1) 91 w1 pc pre∧Grew (w.heap.size+1) 91 w0 w1):=lI ⟨HW.out.1.below hb1,HW.out.2.trans (.of_below hb1)⟩
      clear HW HCF hb1 hgb hbr
      by_cases hcc:cc=0
      · subst hcc
        rw[if_pos rfl]at HE
        obtain⟨c0,v,c1,c2,c3⟩:=HW1.out.1
        have hz1:=qD c0
        have HOWN:=lI c3
        have hsh:=qE c3
        have hfar:Hid (v.ownBlock≠some (w.heap.size+1)):=lI (fun e=>by have:=(c3.lt _ e).1;omega)
        have hfar2:Hid (∀k,v.ownBlock=some k→k<w1.heap.size):=lI (fun k e=>(c3.lt k e).2)
        clear c3
        obtain⟨w2,hw2⟩:∃w2,w2=w1.alloc (.cells #[.int .i64 q1,.int .i64 q2,.int .i64 q3,.int .i64 q4,.int .i32 q5] 91):=⟨_,rfl⟩
        have hz2:w1.heap.size<w2.heap.size:=by rw[hw2];simp
        have d0:w2.cell? ⟨w.heap.size+1,0,none⟩=some (.int .u32 pc):=by rw[hw2];exact(sI _ _ ⟨w.heap.size+1,0,none⟩ hz1).trans c0
        have d1:w2.cell? ⟨w.heap.size+1,1,none⟩=some v:=by rw[hw2];exact(sI _ _ ⟨w.heap.size+1,1,none⟩ hz1).trans c1
        have d2:w2.frozen? ⟨w.heap.size+1,1,none⟩=false:=by rw[hw2];exact(jQ (p:=⟨w.heap.size+1,1,none⟩) _ hz1).trans c2
        have k0:(w2).cell? ⟨w1.heap.size,0,none⟩=some (.int .i64 q1):=zM
        have k1:(w2).cell? ⟨w1.heap.size,1,none⟩=some (.int .i64 q2):=zM
        have k2:(w2).cell? ⟨w1.heap.size,2,none⟩=some (.int .i64 q3):=zM
        have k3:(w2).cell? ⟨w1.heap.size,3,none⟩=some (.int .i64 q4):=zM
        have k4:(w2).cell? ⟨w1.heap.size,4,none⟩=some (.int .i32 q5):=zM
        have HOWN2:Hid (w2.ownsRow (w.heap.size+1+1) 91 5 v pre.length (pre.flatMap jJ)):=lI (by rw[hw2];exact HOWN.out.alloc _)
        have HW2:=lI hw2
        clear hw2 c0 c1 c2
        obtain⟨ao2,cp2,rfl⟩:=hsh
        go_upto_region 7 with(fail)
        rw[←HW2.out]
        go_upto_region 9 with(at_builtin;refine append_any rfl _ _ 60 rfl (w.heap.size+1+1) 91 i0 _ 5 40 Tryz.underlying60 hi hi0 hi1 hi2 rfl zF _ pre.length (pre.flatMap jJ) rfl ?h1 _ 1 (jJ ⟨q1,q2,q3,q4,q5⟩) rfl ?h2 (ilist_one _) ?h3 ?h4 ?h5 ?h6)
        case h1=>exact HOWN2.out.alloc _
        case h2=>exact Sl.mk (QN w2 (jJ ⟨q1,q2,q3,q4,q5⟩) _ _) rfl om zF
        case h3=>omega
        case h4=>unfold maxLen;omega
        case h5=>first|omega|(rw[World.size_alloc];omega)
        case h6=>
        intro v' w3 hown hgrow
        have hz3:w2.heap.size+1≤w3.heap.size:=by have:=hgrow.size;simpa using this
        have e0:w3.cell? ⟨w.heap.size+1,0,none⟩=some (.int .u32 pc):=((hgrow.cell_far ⟨w.heap.size+1,0,none⟩ zL (fun e=>hfar.out e.symm)).trans (sI _ _ ⟨w.heap.size+1,0,none⟩ zV)).trans d0
        have e1:w3.cell? ⟨w.heap.size+1,1,none⟩=some (.slice ao2 pre.length cp2):=((hgrow.cell_far ⟨w.heap.size+1,1,none⟩ zL (fun e=>hfar.out e.symm)).trans (sI _ _ ⟨w.heap.size+1,1,none⟩ zV)).trans d1
        have e2:w3.frozen? ⟨w.heap.size+1,1,none⟩=false:=((hgrow.frozen_far ⟨w.heap.size+1,1,none⟩ zL (fun e=>hfar.out e.symm)).trans (jQ (p:=⟨w.heap.size+1,1,none⟩) _ zV)).trans d2
        have m0:w3.cell? ⟨w1.heap.size,0,none⟩=some (.int .i64 q1):=((hgrow.cell_far ⟨w1.heap.size,0,none⟩ zL (fun e=>by have h9:=hfar2.out _ e.symm;simp at h9)).trans (sI _ _ ⟨w1.heap.size,0,none⟩ (by show w1.heap.size<_;omega))).trans k0
        have hsh2:=qE hown
        have HW4:Hid (BlkW (w.heap.size+1) 91 (w3.setCell ⟨w.heap.size+1,1,none⟩ v') pc (pre++[⟨q1,q2,q3,q4,q5⟩])∧Grew (w.heap.size+1) 91 w0 (w3.setCell ⟨w.heap.size+1,1,none⟩ v')):=
          lI ⟨BlkW.next e0 hown e1 e2,((HW1.out.2.trans ((by rw[HW2.out];exact Grew.alloc _ _ _ _:Grew (w.heap.size+1) 91 w1 w2).trans (Grew.alloc _ _ _ _))).put (HOWN2.out.alloc _) hgrow)⟩
        clear hown hgrow d0 d1 d2 k0 k1 k2 k3 k4 HOWN HOWN2 HW1 hfar hfar2 HW2
        obtain⟨ao3,cp3,rfl⟩:=hsh2
        have m1:(w3.setCell ⟨w.heap.size+1,1,none⟩ (.slice ao3 (pre.length+1) cp3)).cell? ⟨w1.heap.size,0,none⟩=some (.int .i64 q1):=(sJ _ _ _ _ (by intro hh;injection hh with h1 h2;omega)).trans m0
        go_upto_region 9 with(fail)
        clear m0 e0 e1 e2
        obtain⟨w5,hw5⟩:∃w5,w5=w3.setCell ⟨w.heap.size+1,1,none⟩ (.slice ao3 (pre.length+1) cp3):=⟨_,rfl⟩
        rw[←hw5]at m1 HW4 ⊢
        clear hw5 hz1 hz2 hz3
        have hbq:Below w.heap.size w w5:=hb0.trans ((HW4.out.2.below om).mono om)
        have HR5:Hid (w5.cell? ⟨w.heap.size,0,none⟩=some (.int .u32 0)∧w5.cell? ⟨w.heap.size,1,none⟩=some (.slice none 0 0)∧w5.frozen? ⟨w.heap.size,0,none⟩=false∧w5.frozen? ⟨w.heap.size,1,none⟩=false):=lI (by
          have hq:=HW4.out.2.below om
          exact⟨(hq.cell zC).trans HR.out.1,(hq.cell zC).trans HR.out.2.1,(World.frozen?_of_block (hq.block _ zC)).trans HR.out.2.2.1,(World.frozen?_of_block (hq.block _ zC)).trans HR.out.2.2.2⟩)
        cases hlb:lastB q1 with
        | true =>
          rw[hlb,if_pos rfl]at HE
          go_upto_region 12 with(go_at_call 38;refine(ends_any _ _).mono ?_;rintro e w6 ⟨rfl,rfl⟩;rw[hlb])
          obtain⟨n0,u,n1,n2,n3⟩:=HW4.out.1
          have el:(pre++[(⟨q1,q2,q3,q4,q5⟩:InsD)]).length=pre.length+1:=zC
          rw[el]at n3
          obtain⟨r0,r1,r2,r3⟩:=HR5.out
          obtain⟨ao4,cp4,rfl⟩:=qE n3
          have HN3:=lI n3
          clear n3
          go_wp2_with fail
          obtain⟨y0,y1⟩:=out2 (x0:=.int .u32 pc) (x1:=.slice ao4 (pre.length+1) cp4) r0 r1
          exact sO (v:=.agg #[.int .u32 pc,.slice ao4 (pre.length+1) cp4]) (by simp[results,Tryz.results20,go_sem,y0,y1]) rfl ⟨⟨_,rfl,by rw[←HE.out];unfold jS;rw[el];exact ql (ownsRow_setCell_below (ownsRow_setCell_below HN3.out zL _) zL _),fun q hq=>by have:=(HN3.out.lt q hq).1;omega⟩,(hbq.setCell zC _).setCell zC _⟩
        | false =>
          rw[hlb,if_neg zC]at HE
          go_wp2_with (go_at_call 38;refine(ends_any _ _).mono ?_;rintro e w6 ⟨rfl,rfl⟩;rw[hlb])
          go_roundw
          case rel=>exact⟨pre.length+1,(q+4)%4294967296,pre++[⟨q1,q2,q3,q4,q5⟩],by go_num,by go_num,by unfold U32;omega,om,by simp,lI (by rw[←HE.out,List.append_assoc,show 16-(pre.length+1)=15-pre.length from by omega];rfl),HW4⟩
          case measure=>simp[intOf];omega
      · rw[if_neg hcc,List.append_nil]at HE
        obtain⟨w2,hw2⟩:∃w2,w2=w1.alloc (.cells #[.int .i64 q1,.int .i64 q2,.int .i64 q3,.int .i64 q4,.int .i32 q5] 91):=⟨_,rfl⟩
        have HW3:Hid (BlkW (w.heap.size+1) 91 w2 pc pre∧Grew (w.heap.size+1) 91 w0 w2):=lI (by rw[hw2];exact⟨HW1.out.1.below (Below.alloc br (sN _) _),HW1.out.2.trans (Grew.alloc _ _ _ _)⟩)
        have hq2:=HW3.out.2.below om
        have hbq:Below w.heap.size w w2:=hb0.trans (hq2.mono om)
        have HR5:Hid (w2.cell? ⟨w.heap.size,0,none⟩=some (.int .u32 0)∧w2.cell? ⟨w.heap.size,1,none⟩=some (.slice none 0 0)∧w2.frozen? ⟨w.heap.size,0,none⟩=false∧w2.frozen? ⟨w.heap.size,1,none⟩=false):=lI
          ⟨(hq2.cell zC).trans HR.out.1,(hq2.cell zC).trans HR.out.2.1,(World.frozen?_of_block (hq2.block _ zC)).trans HR.out.2.2.1,(World.frozen?_of_block (hq2.block _ zC)).trans HR.out.2.2.2⟩
        have HW2:=lI hw2
        clear hw2 HW1
        go_upto_region 7 with(fail)
        rw[←HW2.out]
        clear HW2
        go_upto_region 12 with(fail)
        obtain⟨n0,u,n1,n2,n3⟩:=HW3.out.1
        obtain⟨r0,r1,r2,r3⟩:=HR5.out
        obtain⟨ao4,cp4,rfl⟩:=qE n3
        have HN3:=lI n3
        clear n3
        go_wp2_with fail
        obtain⟨y0,y1⟩:=out2 (x0:=.int .u32 pc) (x1:=.slice ao4 pre.length cp4) r0 r1
        exact sO (v:=.agg #[.int .u32 pc,.slice ao4 pre.length cp4]) (by simp[results,Tryz.results20,go_sem,y0,y1]) rfl ⟨⟨_,rfl,by rw[←HE.out];exact ql (ownsRow_setCell_below (ownsRow_setCell_below HN3.out zL _) zL _),fun q hq=>by have:=(HN3.out.lt q hq).1;omega⟩,(hbq.setCell zC _).setCell zC _⟩
    · have hk16:pre.length=16:=om
      rw[hk16,show rowS l (16-16) q=[]from rfl,List.append_nil]at HE
      have hq2:=HW.out.2.below om
      have hbq:Below w.heap.size w wr:=hb0.trans (hq2.mono om)
      have HR5:Hid (wr.cell? ⟨w.heap.size,0,none⟩=some (.int .u32 0)∧wr.cell? ⟨w.heap.size,1,none⟩=some (.slice none 0 0)∧wr.frozen? ⟨w.heap.size,0,none⟩=false∧wr.frozen? ⟨w.heap.size,1,none⟩=false):=lI
        ⟨(hq2.cell zC).trans HR.out.1,(hq2.cell zC).trans HR.out.2.1,(World.frozen?_of_block (hq2.block _ zC)).trans HR.out.2.2.1,(World.frozen?_of_block (hq2.block _ zC)).trans HR.out.2.2.2⟩
      go_upto_region 12 with(fail)
      obtain⟨n0,u,n1,n2,n3⟩:=HW.out.1
      rw[hk16]at n3
      obtain⟨r0,r1,r2,r3⟩:=HR5.out
      obtain⟨ao4,cp4,rfl⟩:=qE n3
      have HN3:=lI n3
      clear n3
      go_wp2_with fail
      obtain⟨y0,y1⟩:=out2 (x0:=.int .u32 pc) (x1:=.slice ao4 16 cp4) r0 r1
      exact sO (v:=.agg #[.int .u32 pc,.slice ao4 16 cp4]) (by simp[results,Tryz.results20,go_sem,y0,y1]) rfl ⟨⟨_,rfl,by rw[←HE.out];unfold jS;rw[hk16];exact ql (ownsRow_setCell_below (ownsRow_setCell_below HN3.out zL _) zL _),fun q hq=>by have:=(HN3.out.lt q hq).1;omega⟩,(hbq.setCell zC _).setCell zC _⟩
theorem make_any(v:Value)(l:List Int)(pc:Int)(w:World)(hv:Ints .u8 w v l)(hpc:U32 pc)(hb:∀i,0≤l.getD i 0∧l.getD i 0<256)(hl:l.length≤140737488351232):
    Calls Tryz.prog 20 #[v,.int .u32 pc] w fun e w'=>(∃vi,e=.returned (.agg #[.int .u32 (QS l pc).1,vi])∧jS w' vi (QS l pc).2)∧Below w.heap.size w w':=by
  refine(make_own v l pc w hv hpc hb hl).mono ?_
  rintro e w' ⟨⟨vi,h1,h2,-⟩,hb⟩
  exact⟨⟨vi,h1,h2⟩,hb⟩
theorem efind_yes{A:Nat→Prop}{ep mp bp:Nat}{w:World}{room pu st:Int}{v:Value}{zs:List BlkD}{n:Nat}(hA:∀q,A q→ep<q)(hN:∀q,w.heap.size≤q→A q)(hB:EnB A 84 62 91 ep mp bp w room pu st v zs)(hC:EnC A Tryz.prog 40 211 ep mp w zs n)(pc:Int)(hpc:U32 pc)(hlt:Qo zs pc<zs.length):
    Calls Tryz.prog 51 #[.pointer (some ⟨ep,0,none⟩),.int .u32 pc] w fun e w'=>(∃vi vc l,⟨pc,vi,l⟩∈zs∧e=.returned (.tuple #[.agg #[.int .u32 pc,vi],vc])∧jS w' vi l∧Sl w' vc 5 (mkM pc l).length ((mkM pc l).flatMap jo)∧∀q,vc.ownBlock=some q→A q∧∃cs f,w'.heap[q]? =some (.cells cs 211 f))∧Below w.heap.size w w':=by
  have hep:=hB.lt
  clear hA hN
  have HFX:Hid (∀x∈zs,∀q,x.vi.ownBlock=some q→q<w.heap.size):=lI (fun x hx q e=>by obtain⟨cs,f,h⟩:=hB.typ.2 x hx q e;exact qR h)
  obtain⟨av,cv,rfl,hcv,hmv,-,-⟩:=hB.blks.1.open (fun _ _=>rfl) om
  unfold maxLen at hmv
  obtain⟨w1,hw1⟩:∃w1,w1=(w.alloc (.cells #[.int .u32 pc] 40)).alloc (.cells #[.int .u32 0,.slice none 0 0] 62):=⟨_,rfl⟩
  have hb1:Below w.heap.size w w1:=zI
  have hs1:w1.heap.size=w.heap.size+2:=zO
  have hp1:w1.cell? ⟨w.heap.size,0,none⟩=some (.int .u32 pc):=zA
  have hZ:w1.heap[w.heap.size+1]? =some (.cells #[.int .u32 0,.slice none 0 0] 62 (0,0)):=by
    have:=sP (w.alloc (.cells #[.int .u32 pc] 40)) (.cells #[.int .u32 0,.slice none 0 0] 62)
    rw[World.size_alloc]at this
    rw[hw1];exact this
  have B1:=hB.below hb1
  have e2:=B1.at_.get (j:=2) rfl
  simp only[sM]at e2
  have HIX:=lI (eindexOf_any (.slice av zs.length cv) zs pc w.heap.size w1 B1.blks hp1)
  have hk0:qu zs pc=(Qo zs pc:Int):=by unfold qu;rw[if_pos hlt]
  have hpk:zs[Qo zs pc].pc=pc:=by
    have:(zs[Qo zs pc].pc==pc)=true:=List.findIdx_getElem (p:=fun x:BlkD=>x.pc==pc) (xs:=zs) (w:=hlt)
    simpa using this
  obtain⟨k,hk⟩:∃k,k=Qo zs pc:=⟨_,rfl⟩
  rw[hk0,←hk]at HIX
  have hlt':k<zs.length:=om
  obtain⟨x,hx⟩:∃x,x=zs[k]:=⟨_,rfl⟩
  have hxm:x∈zs:=by rw[hx];exact sR hlt'
  have hxp:x.pc=pc:=by rw[hx];subst hk;exact hpk
  have HB1:=lI B1
  have HC1:=lI (hC.below hb1)
  have HBW1:=lI hb1
  have HW1:=lI hw1
  have HX:=lI hx
  have HXM:=lI hxm
  have HXP:=lI hxp
  have HZ:=lI hZ
  have HPC:=lI hpc
  clear hB hb1 hw1 hZ hlt hk0 hpk hk hx hxm hxp hpc B1
  have h0k:(0:Int)≤(k:Int):=om
  go_enter Tryz.func51,Tryz.ntmps51
  go_upto_region 1 with(fail)
  rw[←HW1.out]
  go_wp2_with fail
  refine HIX.out.mono ?_
  rintro e w2 ⟨rfl,hb2⟩
  have hs2:=hb2.size
  have B2:=HB1.out.below hb2
  have C2:=HC1.out.below hb2
  have e2:=B2.at_.get (j:=2) rfl
  have e5:=B2.at_.get (j:=5) rfl
  have p2:=(hb2.cell (p:=⟨w.heap.size,0,none⟩) (show w.heap.size<w1.heap.size by omega)).trans hp1
  have z2:=(hb2.block (w.heap.size+1) om).trans HZ.out
  simp only[sM]at e2 e5
  obtain⟨_,_,_,_,_,-,ho⟩:=B2.blks.1.open (fun _ _=>rfl) om
  obtain⟨b,off,rfl,hbl,hel⟩:=ho (by intro e;rw[e]at hlt';simp at hlt')
  have hat:=hel k hlt'
  rw[←HX.out]at hat
  obtain⟨ax,cx,hvi,-⟩:=(B2.blks.2 x HXM.out).at_.open (fun _ _=>rfl) om
  have c0:=hat.get (j:=0) (v:=.int .u32 x.pc) rfl
  have c1:=hat.get (j:=1) (v:=x.vi) rfl
  rw[hvi]at c1
  rw[HXP.out]at c0
  simp only[Nat.add_zero]at c0
  have HVI:=lI hvi
  obtain⟨vc,hlk,hsl,hty⟩:=C2.look (T:=82) (E:=118) rfl rfl (fun _=>rfl) HXM.out (by rw[HXP.out];exact HPC.out)
  rw[HXP.out]at hlk hsl
  obtain⟨ac,cc,rfl,-⟩:=hsl.open (fun _ _=>rfl) om
  have HSL:=lI hsl
  have HTY:=lI hty
  have HAT:=lI (B2.blks.2 x HXM.out).at_
  have HB2:=lI (HBW1.out.trans (hb2.mono om))
  have ht2:w2.there (w.heap.size+1) 0 2:=qt z2 rfl
  have z0:w2.cell? ⟨w.heap.size+1,0,none⟩=some (.int .u32 0):=by simp[World.cell?,z2]
  have z1:w2.cell? ⟨w.heap.size+1,1,none⟩=some (.slice none 0 0):=by simp[World.cell?,z2]
  have zf:∀o,w2.frozen? ⟨w.heap.size+1,o,none⟩=false:=fun o=>by simp[World.frozen?,z2]
  have f0:=zf 0
  have f1:=zf 1
  have hk1:(k:Int)<(zs.length:Int):=om
  have HZ2:=lI z2
  clear B2 hel hat hsl hty hvi zf z2 hb2 HC1 HB1 ho
  have hmp:mp<w2.heap.size:=C2.lt
  have hmz:mp≠w.heap.size+1:=by have:=hC.lt;omega
  have l0:=hlk w2.drew rfl
  have l1:=hlk ((w2.setCell ⟨w.heap.size+1,0,none⟩ (.int .u32 pc)).setCell ⟨w.heap.size+1,1,none⟩ (.slice ax x.ins.length cx)).drew ((sT _ _ _ _ hmz).trans (sT _ _ _ _ hmz))
  have HLK:=lI hlk
  clear hlk
  go_wp2_with fail
  go_region
  go_wp2_with fail
  have hsz:(Tryz.prog.info? 62).map (·.size)=some (#[.int .u32 pc,.slice ax x.ins.length cx]:Array Value).size:=yQ
  have hld:=QQ (P:=Tryz.prog) (w:=w2.drew) (cs:=#[.int .u32 pc,.slice ax x.ins.length cx]) (show w2.drew.there (w.heap.size+1) 0 2 from ht2) Tryz.underlying62 rfl hsz
  have hb3:Below w2.heap.size w2 w2.drew:=Below.drew br
  have hb9:Below (w.heap.size+1) w2 (w2.drew.setCells (w.heap.size+1) 0 [.int .u32 pc,.slice ax x.ins.length cx]):=qL (sN _) _ _ _ (hb3.mono om)
  have HQ:∀j,j<w2.heap.size→j≠w.heap.size+1→(w2.drew.setCells (w.heap.size+1) 0 [.int .u32 pc,.slice ax x.ins.length cx]).heap[j]? =w2.heap[j]? :=fun j h1 h2=>(sT _ _ _ _ (by show j≠_;exact h2)).trans (sT _ _ _ _ (by show j≠_;exact h2))
  refine sO (QI zK _ zK hld) rfl ⟨⟨.slice ax x.ins.length cx,.slice ac (mkM pc x.ins).length cc,x.ins, ?_,rfl, ?_, ?_, ?_⟩,HB2.out.trans (hb9.mono om)⟩
  · have hm:=HXM.out
    obtain⟨xp,xv,xi⟩:=x
    have h1:=HXP.out
    have h2:=HVI.out
    dsimp only at h1 h2 hm ⊢
    subst h1
    rw[←h2];exact hm
  · have hat:=HAT.out
    rw[HVI.out]at hat
    exact QX hat (fun g hg=>HQ g (by have:=HFX.out x HXM.out g (by rw[HVI.out];exact hg);omega) (by have:=HFX.out x HXM.out g (by rw[HVI.out];exact hg);omega))
  · exact QX HSL.out (fun g hg=>by
      obtain⟨h1,cs,f,h2⟩:=HTY.out g hg
      exact HQ g (qR h2) (fun e=>by rw[e,HZ2.out]at h2;cases h2))
  · intro q hq
    obtain⟨h1,cs,f,h2⟩:=HTY.out q hq
    exact⟨h1,cs,f,(HQ q (qR h2) (fun e=>by rw[e,HZ2.out]at h2;cases h2)).trans h2⟩
end Go.Proofs.YtlfnddmncbkjaabGreatDoor.W
