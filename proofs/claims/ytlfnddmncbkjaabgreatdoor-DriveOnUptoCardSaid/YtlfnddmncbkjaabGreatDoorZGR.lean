import Derived.Test.YtlfnddmncbkjaabGreatDoorZGQ
set_option linter.unusedVariables false
set_option linter.unusedSimpArgs false
set_option maxRecDepth 100000
set_option maxHeartbeats 4000000
namespace Go.Proofs.YtlfnddmncbkjaabGreatDoor.W
open Go.RowKit Fb
theorem info_block5:(Tryz.prog.info? 62).map (fun i=>(i.zero,i.size,i.bytes))=some (some (.agg #[.int .u32 0,.slice none 0 0]),2,32):=by kernel_rfl
theorem dfunc_any(B:Nat)(v:Value)(ys:List BlkD)(fr tw:Int)(pb:Nat)(w:World)(hv:Cp B 62 91 w v ys)(hB:B≤w.heap.size)(hpb:pb<B)(h0:w.cell? ⟨pb,0,none⟩=some (.int .u32 fr))(h1:w.cell? ⟨pb,1,none⟩=some (.int .u32 tw))(hins:∀x∈ys,x.ins.length≤3518437208883)(hf:U32 fr)(ht:U32 tw):
    Calls Tryz.prog 152 #[v,.func (.func 153) #[] #[.pointer (some ⟨pb,0,none⟩)]] w fun e w'=>(∃v',e=.returned v'∧Cp B 62 91 w' v' (ys.filter (fun x=> !qp fr tw x)))∧Below B w w':=by
  have hne:62≠91:=zF
  obtain⟨av,cv,ev⟩:=qE hv.own
  have hcm:ys.length≤cv∧cv≤maxLen:=by
    obtain⟨_,_,e,h1,h2,_⟩:=(ql hv.own).open (l:=ys) (fun _ _=>rfl) om
    rw[ev]at e;cases e;exact⟨h1,h2⟩
  have HIX:=lI (indexStale_any v ys fr tw pb w hv.blks h0 h1 hins hf ht)
  have hlp:pb<w.heap.size:=om
  have HDEL:Hid (∀x∈ys,∀W,Below B w W→W.ownsRow B 91 5 x.vi x.ins.length (x.ins.flatMap jJ)→Calls Tryz.prog 153 #[.agg #[.int .u32 x.pc,x.vi],.pointer (some ⟨pb,0,none⟩)] W fun e w'=>e=.returned (.bool (qp fr tw x))∧Below W.heap.size W w'):=lI (fun x hx W hW ho=>stale1_any x fr tw pb W ((hW.cell (p:=⟨pb,0,none⟩) hpb).trans h0) ((hW.cell (p:=⟨pb,1,none⟩) hpb).trans h1) ⟨ql ho,hv.pc x hx⟩ (hins x hx) hf ht)
  have HV:=lI hv
  obtain⟨P,hP⟩:∃P:BlkD→Bool,P=qp fr tw:=⟨_,rfl⟩
  have hPe:(fun x=> !qp fr tw x)=fun x=> !P x:=by rw[hP]
  rw[hPe]
  rw[←hP]at HIX HDEL
  subst ev
  obtain⟨hc1,hc2⟩:=hcm
  unfold maxLen at hc2
  obtain⟨ib,hib,hb0,hb1,hby⟩:=info_parts info_block5
  clear hP hPe h0 h1 hf ht hins hv
  by_cases hex:∃k,∃h:k<ys.length,P ys[k]=true∧∀j (hj:j<k),P ys[j]=false
  · obtain⟨k,hk,hpk,hmin⟩:=hex
    rw[firstI_at hk hpk hmin]at HIX
    obtain⟨g,cap,e,hBg,hcl,hcm,hdl⟩:=Dl.begin HV.out om
    cases e
    have HD0:=lI (hdl k om)
    have hkk:¬(k:Int)= -1:=om
    have hkb:((k:Int)== -1)=false:=zC
    have HTK:Hid (ys.take k=(ys.take (k+1)).filter (fun x=> !P x)):=lI (by
      rw[List.take_succ_eq_append_getElem hk,List.filter_append,List.filter_eq_self.2 (fun x hx=> ?_),show [ys[k]].filter (fun x=> !P x)=[] by simp[hpk],List.append_nil]
      obtain⟨j,hj,rfl⟩:=List.mem_iff_getElem.1 hx
      have hj2:j<k:=by simp at hj;omega
      rw[List.getElem_take,hmin j hj2];rfl)
    have hkl:(ys.take k).length=k:=zL
    have HKL:=lI hkl
    clear hdl hmin hpk hkl
    go_enter Tryz.func152,Tryz.ntmps152
    go_wp2_with fail
    refine HIX.out.mono ?_
    rintro e w1 ⟨rfl,hb1'⟩
    have HD1:=lI ((HD0.out.below hB hb1').skip)
    have hs1:=hb1'.size
    clear hb1'
    go_wp2_with fail
    go_loopw [5,6] (fun x i wr=>∃(a j:Nat) (kept:List BlkD),x=.int .i64 a∧i=.int .i64 j∧a<j∧j≤ys.length∧kept.length=a∧w.heap.size≤wr.heap.size∧Hid (Dl B 62 91 g cv w wr ys kept j∧kept=(ys.take j).filter (fun x=> !P x))) (fun _ i _=>ys.length-(intOf i).toNat)
    case atStart=>exact⟨k,k+1,ys.take k,rfl,by simp,om,om,HKL.out,hs1,lI ⟨HD1.out,HTK.out⟩⟩
    case round=>
      obtain⟨a,j,kept,rfl,rfl,haj,hj,hka,hsz,HR⟩:=hrel
      by_cases hlt:j<ys.length
      · obtain⟨x,hx⟩:∃x,x=ys[j]:=⟨_,rfl⟩
        have hxm:x∈ys:=by rw[hx];exact sR hlt
        have hrow:=HR.out.1.row x hxm
        obtain⟨ac,cc,hvi⟩:=qE hrow
        have hat:=HR.out.1.rest j hlt (sN _)
        rw[←hx]at hat
        have c0:=hat.get (j:=0) (v:=.int .u32 x.pc) rfl
        have c1:=hat.get (j:=1) (v:=x.vi) rfl
        simp only[Nat.add_zero]at c0
        rw[hvi]at c1
        obtain⟨w3,hw3⟩:∃w3,w3=wr.alloc (.cells #[.int .u32 x.pc,.slice ac x.ins.length cc] 62):=⟨_,rfl⟩
        have hb3:Below wr.heap.size wr w3:=by rw[hw3];exact Fb.blw
        have hs3:wr.heap.size+1≤w3.heap.size:=by rw[hw3];simp
        have e0:(w3).cell? ⟨wr.heap.size,0,none⟩=some (.int .u32 x.pc):=yO
        have e1:(w3).cell? ⟨wr.heap.size,1,none⟩=some (.slice ac x.ins.length cc):=yO
        have hBr:B≤wr.heap.size:=om
        have HD3:=lI (HR.out.1.below hBr hb3)
        have HC3:=lI (HDEL.out x hxm w3 (HD3.out.bel) (HD3.out.row x hxm))
        rw[hvi]at HC3
        have HW3:=lI hw3
        have HTS:Hid ((ys.take (j+1)).filter (fun x=> !P x)=kept++(if P x=true then []else [x])):=lI (by
          rw[List.take_succ_eq_append_getElem hlt,List.filter_append,←HR.out.2,←hx]
          congr 1
          cases hpx:P x with
          |true=>simp[hpx]
          |false=>simp[hpx])
        have HVI:=lI hvi
        have HXM:=lI hxm
        have ha0:(0:Int)≤(a:Int):=om
        have ha1:(a:Int)<(ys.length:Int):=om
        have hjc:j<cv:=om
        clear hw3 hb3 hat hrow hx hvi hxm
        obtain⟨s,hs⟩:∃s,s=P x:=⟨_,rfl⟩
        rw[←hs]at HC3 HTS
        clear hs
        go_upto_region 8 with(fail)
        rw[←HW3.out]
        clear c0 c1
        go_wp2_with fail
        refine HC3.out.mono ?_
        rintro e w4 ⟨rfl,hb4⟩
        have l3:wr.heap.size<w3.heap.size:=om
        have f0:=(hb4.cell (p:=⟨wr.heap.size,0,none⟩) l3).trans e0
        have f1:=(hb4.cell (p:=⟨wr.heap.size,1,none⟩) l3).trans e1
        have hs4:=hb4.size
        have HD4:=lI (HD3.out.below om hb4)
        clear e0 e1 hb4
        cases s with
        | true =>
          go_wp2_with fail
          go_roundw
          case rel=>exact⟨a,j+1,kept,rfl,by simp,om,om,hka,om,lI ⟨HD4.out.skip,by rw[HTS.out];simp⟩⟩
          case measure=>simp[intOf];omega
        | false =>
          obtain⟨u0,hu0⟩:=Option.isSome_iff_exists.1 (HD4.out.shape.isSome (o:=a*2) om)
          obtain⟨u1,hu1⟩:=Option.isSome_iff_exists.1 (HD4.out.shape.isSome (o:=a*2+1) om)
          have hf0:=HD4.out.shape.frozen (a*2)
          have hf1:=HD4.out.shape.frozen (a*2+1)
          have hk:=HD4.out.keep hne hBg x om hjc
          rw[hka,HVI.out]at hk
          have HK:=lI hk
          have HKA:=lI hka
          clear hk hka
          go_wp2_with fail
          go_roundw
          case rel=>exact⟨a+1,j+1,kept++[x],by simp,by simp,om,om,by simp[HKA.out],by simpa using (by omega:w.heap.size≤w4.heap.size),lI ⟨HK.out,by rw[HTS.out];simp⟩⟩
          case measure=>simp[intOf];omega
      · obtain rfl:j=ys.length:=om
        have hth:wr.there g (a*2) ((ys.length-a)*2):=HR.out.1.shape.there om
        have hca:¬cv=a:=om
        have ha0:(0:Int)≤(a:Int):=om
        have ha1:(a:Int)≤(ys.length:Int):=om
        have ha2:(a:Int)≤(cv:Int):=om
        have HPCS:Hid (∀y∈ys,U32 y.pc):=lI HV.out.pc
        have hz1:∀v∈(Value.agg #[.int .u32 0,.slice none 0 0]).cells.toList,v.oneCell'=true:=fun v hv=>by
          simp[Value.cells]at hv
          rcases hv with rfl|rfl<;>rfl
        go_wp2_with (first|(refine uz rfl _ 51 62 rfl ib _ 2 Tryz.underlying51 hib hb0 rfl hz1 g (a*2) (ys.length-a) (cv-a) rfl hth ?_))
        intro zs hzs
        have hfin:=HR.out.1.finish hne hBg (fun y hy=>by rw[HR.out.2]at hy;exact List.mem_of_mem_take (List.mem_filter.1 hy).1) HPCS.out om zZ zs
        rw[hka]at hfin
        have HFIN:=lI hfin
        have HKF:Hid (kept=ys.filter (fun x=> !P x)):=lI (by rw[HR.out.2,List.take_length])
        clear hfin hth
        go_wp2_with fail
        go_ret
        exact⟨⟨_,rfl,by rw[←HKF.out];exact HFIN.out.1⟩,HFIN.out.2⟩
  · have hno:∀j (hj:j<ys.length),P ys[j]=false:=fun j=>by
      induction j using Nat.strongRecOn with
      | _ j ih =>
        intro hj
        cases e:P ys[j]with
        |false=>rfl
        |true=>exact absurd ⟨j,hj,e,fun i hi=>ih i hi om⟩ hex
    rw[firstI_no hno]at HIX
    have hfe:ys.filter (fun x=> !P x)=ys:=List.filter_eq_self.2 (fun x hx=>by
      obtain⟨j,hj,rfl⟩:=List.mem_iff_getElem.1 hx
      rw[hno j hj];rfl)
    rw[hfe]
    clear hno hfe hex
    go_enter Tryz.func152,Tryz.ntmps152
    go_wp2_with fail
    refine HIX.out.mono ?_
    rintro e w1 ⟨rfl,hb1'⟩
    have HB1:=lI hb1'
    clear hb1'
    go_wp2_with fail
    go_ret
    exact⟨⟨_,rfl,HV.out.below HB1.out⟩,HB1.out.mono hB⟩
end Go.Proofs.YtlfnddmncbkjaabGreatDoor.W
namespace Go.Proofs.YtlfnddmncbkjaabGreatDoor.Fb
open Go.RowKit
theorem stale_abs{fr tw:Int}:∀{ys l:List BlkD},ys.map BlkD.abs=l.map BlkD.abs→(ys.filter (fun x=> !qp fr tw x)).map BlkD.abs=(l.filter (fun x=> !qp fr tw x)).map BlkD.abs
  |[],[],_=>rfl
  |[],_::_,h=>by simp at h
  |_::_,[],h=>by simp at h
  | y :: ys, x :: l, h => by
    simp only[List.map_cons,List.cons.injEq]at h
    obtain⟨h1,h2⟩:=h
    have e:qp fr tw y=qp fr tw x:=by
      have e1:y.pc=x.pc:=congrArg Prod.fst h1
      have e2:y.ins=x.ins:=congrArg Prod.snd h1
      unfold qp;rw[e1,e2]
    have ih:=stale_abs (fr:=fr) (tw:=tw) h2
    rw[List.filter_cons,List.filter_cons,e]
    split
    · rw[List.map_cons,List.map_cons,h1,ih]
    · exact ih
end Go.Proofs.YtlfnddmncbkjaabGreatDoor.Fb
namespace Go.Proofs.YtlfnddmncbkjaabGreatDoor.W
open Go.RowKit Fb
theorem cstale_far(room:Int)(v:Value)(pu st:Int)(l:List BlkD)(fr tw:Int)(w:World)(hv:Blks w v l)(hins:∀x∈l,x.ins.length≤3518437208883)(hl:l.length*32≤140737488351232)(hf:U32 fr)(ht:U32 tw):
    Calls Tryz.prog 125 #[.agg #[.int .i64 room,v,.int .i64 pu,.int .i64 st],.agg #[.int .u32 fr,.int .u32 tw]] w fun e w'=>(∃v' zs,e=.returned (.agg #[.int .i64 room,v',.int .i64 pu,.int .i64 (wrap64 (st+((l.length:Int)-(zs.length:Int))))])∧Blks w' v' zs∧zs.map BlkD.abs=(l.filter (fun x=> !qp fr tw x)).map BlkD.abs∧Far w.heap.size v' zs∧Typ 62 91 w' v' zs)∧Below w.heap.size w w':=by
  obtain⟨ao,cap,rfl,-⟩:=hv.1.open (fun _ _=>rfl) om
  obtain⟨w1,hw1⟩:∃w1,w1=((w.alloc (.cells #[.int .i64 room,.slice ao l.length cap,.int .i64 pu,.int .i64 st] 53)).alloc (.cells #[.int .u32 fr,.int .u32 tw] 165)).alloc (.cells #[.int .i64 0,.slice none 0 0,.int .i64 0,.int .i64 0] 53):=⟨_,rfl⟩
  have hb1:Below w.heap.size w w1:=zI
  have hs1:w1.heap.size=w.heap.size+3:=zO
  have c0:(w1).cell? ⟨w.heap.size,0,none⟩=some (.int .i64 room):=zA
  have c1:(w1).cell? ⟨w.heap.size,1,none⟩=some (.slice ao l.length cap):=zA
  have c2:(w1).cell? ⟨w.heap.size,2,none⟩=some (.int .i64 pu):=zA
  have c3:(w1).cell? ⟨w.heap.size,3,none⟩=some (.int .i64 st):=zA
  have r0:(w1).cell? ⟨w.heap.size+1,0,none⟩=some (.int .u32 fr):=zA
  have r1:(w1).cell? ⟨w.heap.size+1,1,none⟩=some (.int .u32 tw):=zA
  have z0:(w1).cell? ⟨w.heap.size+1+1,0,none⟩=some (.int .i64 0):=zA
  have z1:(w1).cell? ⟨w.heap.size+1+1,1,none⟩=some (.slice none 0 0):=zA
  have z2:(w1).cell? ⟨w.heap.size+1+1,2,none⟩=some (.int .i64 0):=zA
  have z3:(w1).cell? ⟨w.heap.size+1+1,3,none⟩=some (.int .i64 0):=zA
  have hfz:∀k o,k<3→w1.frozen? ⟨w.heap.size+k,o,none⟩=false:=fun k o hk=>by
    match k,hk with
    |0,_=>rw[hw1];unfold World.frozen?;rw[heap_alloc_old _ _ zL,heap_alloc_old _ _ zC];show(match (w.alloc _).heap[w.heap.size]? with|some (.cells _ _ (lo,hi))=>_|_=>_)=_;rw[sP];simp
    | 1, _ =>
      have:=sP (w.alloc (.cells #[.int .i64 room,.slice ao l.length cap,.int .i64 pu,.int .i64 st] 53)) (.cells #[.int .u32 fr,.int .u32 tw] 165)
      rw[World.size_alloc]at this
      rw[hw1];unfold World.frozen?;rw[heap_alloc_old _ _ zC,this];simp
    | 2, _ =>
      have:=sP ((w.alloc (.cells #[.int .i64 room,.slice ao l.length cap,.int .i64 pu,.int .i64 st] 53)).alloc (.cells #[.int .u32 fr,.int .u32 tw] 165)) (.cells #[.int .i64 0,.slice none 0 0,.int .i64 0,.int .i64 0] 53)
      rw[World.size_alloc,World.size_alloc]at this
      rw[hw1];unfold World.frozen?;rw[this];simp
  have HCO:=lI (ccopied_any room (.slice ao l.length cap) pu st l w1 (hv.below hb1) hins hl)
  have HFZ:=lI hfz
  have HW1:=lI hw1
  have HB1:=lI hb1
  have HINS:=lI hins
  have hln:l.length≤4398046510976:=om
  clear hw1 hb1 hv hins hl hfz
  go_enter Tryz.func125,Tryz.ntmps125
  go_upto_region 1 with(fail)
  rw[←HW1.out]
  go_wp2_with fail
  refine HCO.out.mono ?_
  rintro e w2 ⟨⟨v2,ys,rfl,hcp,habs⟩,hb2⟩
  have hyl:ys.length=l.length:=by have:=congrArg List.length habs;simpa using this
  obtain⟨a2,c2',rfl⟩:=qE hcp.own
  rw[hyl]
  have l1:w.heap.size<w1.heap.size:=om
  have l2:w.heap.size+1<w1.heap.size:=om
  have l3:w.heap.size+1+1<w1.heap.size:=om
  have d0:(w2).cell? ⟨w.heap.size,0,none⟩=some (.int .i64 room):=(hb2.cell (p:=⟨w.heap.size,0,none⟩) (l1)).trans c0
  have d1:(w2).cell? ⟨w.heap.size,1,none⟩=some (.slice ao l.length cap):=(hb2.cell (p:=⟨w.heap.size,1,none⟩) (l1)).trans c1
  have d2:(w2).cell? ⟨w.heap.size,2,none⟩=some (.int .i64 pu):=(hb2.cell (p:=⟨w.heap.size,2,none⟩) (l1)).trans c2
  have d3:(w2).cell? ⟨w.heap.size,3,none⟩=some (.int .i64 st):=(hb2.cell (p:=⟨w.heap.size,3,none⟩) (l1)).trans c3
  have q0:(w2).cell? ⟨w.heap.size+1,0,none⟩=some (.int .u32 fr):=(hb2.cell (p:=⟨w.heap.size+1,0,none⟩) (l2)).trans r0
  have q1:(w2).cell? ⟨w.heap.size+1,1,none⟩=some (.int .u32 tw):=(hb2.cell (p:=⟨w.heap.size+1,1,none⟩) (l2)).trans r1
  have y0:(w2).cell? ⟨w.heap.size+1+1,0,none⟩=some (.int .i64 0):=(hb2.cell (p:=⟨w.heap.size+1+1,0,none⟩) (l3)).trans z0
  have y1:(w2).cell? ⟨w.heap.size+1+1,1,none⟩=some (.slice none 0 0):=(hb2.cell (p:=⟨w.heap.size+1+1,1,none⟩) (l3)).trans z1
  have y2:(w2).cell? ⟨w.heap.size+1+1,2,none⟩=some (.int .i64 0):=(hb2.cell (p:=⟨w.heap.size+1+1,2,none⟩) (l3)).trans z2
  have y3:(w2).cell? ⟨w.heap.size+1+1,3,none⟩=some (.int .i64 0):=(hb2.cell (p:=⟨w.heap.size+1+1,3,none⟩) (l3)).trans z3
  have hf2:∀k o,k<3→w2.frozen? ⟨w.heap.size+k,o,none⟩=false:=fun k o hk=>(hb2.frozen (p:=⟨w.heap.size+k,o,none⟩) (by show w.heap.size+k<_;omega)).trans (HFZ.out k o hk)
  have hs2:=hb2.size
  have hth:w2.there w.heap.size 0 (#[.int .i64 room,.slice a2 l.length c2',.int .i64 pu,.int .i64 st]:Array Value).size:=fun j hj=>⟨by
    have hj4:j<4:=hj
    rw[sM]
    match j,hj4 with
    |0,_=>rw[d0];rfl
    |1,_=>rw[d1];rfl
    |2,_=>rw[d2];rfl
    |3,_=>rw[d3];rfl,by have:=hf2 0 (0+j) om;simpa using this⟩
  have hsz:(Tryz.prog.info? 53).map (·.size)=some (#[.int .i64 room,.slice a2 l.length c2',.int .i64 pu,.int .i64 st]:Array Value).size:=yD
  have hall:(#[.int .i64 room,.slice a2 l.length c2',.int .i64 pu,.int .i64 st]:Array Value).all (·.oneCell')=true:=zT
  obtain⟨w3,hw3⟩:∃w3,w3=w2.setCells w.heap.size 0 (#[.int .i64 room,.slice a2 l.length c2',.int .i64 pu,.int .i64 st]:Array Value).toList:=⟨_,rfl⟩
  have hbk:∀k,k≠w.heap.size→w3.heap[k]? =w2.heap[k]? :=fun k hk=>by rw[hw3];exact qT hk _ _ _
  have hat3:At w3 w.heap.size 0 [.int .i64 room,.slice a2 l.length c2',.int .i64 pu,.int .i64 st]:=by rw[hw3];exact qv hth
  have hs3:w3.heap.size=w2.heap.size:=by rw[hw3];simp[QK]
  have hf3:∀k o,k<3→w3.frozen? ⟨w.heap.size+k,o,none⟩=false:=fun k o hk=>by rw[hw3,World.frozen?_setCells];exact hf2 k o hk
  have q0':=(qA (hbk (w.heap.size+1) om) 0).trans q0
  have q1':=(qA (hbk (w.heap.size+1) om) 1).trans q1
  have p0:(w3).cell? ⟨w.heap.size,0,none⟩=some (.int .i64 room):=by have:=hat3 0 zC;simpa using this
  have p1:(w3).cell? ⟨w.heap.size,1,none⟩=some (.slice a2 l.length c2'):=by have:=hat3 1 zC;simpa using this
  have p2:(w3).cell? ⟨w.heap.size,2,none⟩=some (.int .i64 pu):=by have:=hat3 2 zC;simpa using this
  have p3:(w3).cell? ⟨w.heap.size,3,none⟩=some (.int .i64 st):=by have:=hat3 3 zC;simpa using this
  have HCP3:Hid (Cp w1.heap.size 62 91 w3 (.slice a2 l.length c2') ys):=lI (by rw[hw3,←hyl];exact(hcp.mono om).sets om _ _)
  have HZ3:Hid (w3.there (w.heap.size+1+1) 0 4):=lI (fun j hj=>⟨by
    rw[sM,qA (hbk (w.heap.size+1+1) om)]
    match j,hj with
    |0,_=>rw[y0];rfl
    |1,_=>rw[y1];rfl
    |2,_=>rw[y2];rfl
    |3,_=>rw[y3];rfl,by have:=hf3 2 (0+j) om;simpa using this⟩)
  have HAB:=lI habs
  have HF3:=lI hf3
  have HYL:=lI hyl
  have HB3:Hid (Below w.heap.size w w3):=lI (by rw[hw3];exact qL (sN _) _ _ _ (HB1.out.trans (hb2.mono HB1.out.size)))
  have HDF:=lI (dfunc_any w1.heap.size (.slice a2 l.length c2') ys fr tw (w.heap.size+1) w3 HCP3.out om l2 q0' q1' (fun y hy=>by
    obtain⟨x,hx,e⟩:=List.mem_map.1 (show y.abs∈l.map BlkD.abs by rw[←habs];exact List.mem_map_of_mem hy)
    have e2:x.ins=y.ins:=congrArg Prod.snd e
    rw[←e2];exact HINS.out x hx) hf ht)
  have HW3:=lI hw3
  clear c0 c1 c2 c3 r0 r1 z0 z1 z2 z3 hb2 hf2 hcp habs hyl HFZ hw3 hbk hat3 hf3 q0 q1 y0 y1 y2 y3 d0 d1 d2 d3 q0' q1'
  go_upto_region 2 with(first|(refine wpList_store_mid rfl 53 _ _ rfl w.heap.size 0 #[.int .i64 room,.slice a2 l.length c2',.int .i64 pu,.int .i64 st] rfl rfl hth hsz hall ?_))
  rw[←HW3.out]
  clear hth hsz hall
  go_wp2_with fail
  refine HDF.out.mono ?_
  rintro e w4 ⟨⟨v4,rfl,hcp4⟩,hb4⟩
  obtain⟨zs,hzs⟩:∃zs,zs=ys.filter (fun x=> !qp fr tw x):=⟨_,rfl⟩
  rw[←hzs]at hcp4
  obtain⟨a4,c4,rfl⟩:=qE hcp4.own
  have hzl:zs.length≤l.length:=by rw[hzs,←HYL.out];exact List.length_filter_le _ _
  have HZA:Hid (zs.map BlkD.abs=(l.filter (fun x=> !qp fr tw x)).map BlkD.abs):=lI (by rw[hzs];exact stale_abs HAB.out)
  have e0:(w4).cell? ⟨w.heap.size,0,none⟩=some (.int .i64 room):=(hb4.cell (p:=⟨w.heap.size,0,none⟩) (l1)).trans p0
  have e1:(w4).cell? ⟨w.heap.size,1,none⟩=some (.slice a2 l.length c2'):=(hb4.cell (p:=⟨w.heap.size,1,none⟩) (l1)).trans p1
  have e2:(w4).cell? ⟨w.heap.size,2,none⟩=some (.int .i64 pu):=(hb4.cell (p:=⟨w.heap.size,2,none⟩) (l1)).trans p2
  have e3:(w4).cell? ⟨w.heap.size,3,none⟩=some (.int .i64 st):=(hb4.cell (p:=⟨w.heap.size,3,none⟩) (l1)).trans p3
  have hf4:∀k o,k<3→w4.frozen? ⟨w.heap.size+k,o,none⟩=false:=fun k o hk=>(hb4.frozen (p:=⟨w.heap.size+k,o,none⟩) (by show w.heap.size+k<_;omega)).trans (HF3.out k o hk)
  have f1:w4.frozen? ⟨w.heap.size,1,none⟩=false:=by simpa using hf4 0 1 om
  have f3:w4.frozen? ⟨w.heap.size,3,none⟩=false:=by simpa using hf4 0 3 om
  have HT4:Hid (w4.there (w.heap.size+1+1) 0 4):=lI (there_block HZ3.out (hb4.block _ om))
  have HCP4:=lI hcp4
  have HB4:=lI (HB3.out.trans (hb4.mono om))
  obtain⟨sn,hsn⟩:∃s,s=wrap64 (st+((l.length:Int)-(zs.length:Int))):=⟨_,rfl⟩
  have HSN:=lI hsn
  clear p0 p1 p2 p3 hb4 hcp4 hf4 hzs hsn HF3 HZ3 HCP3 HB3
  go_upto_region 5 with(fail)
  rw[←HSN.out]
  obtain⟨w6,hw6⟩:∃w6,w6=(w4.setCell ⟨w.heap.size,1,none⟩ (.slice a4 zs.length c4)).setCell ⟨w.heap.size,3,none⟩ (.int .i64 sn):=⟨_,rfl⟩
  rw[←hw6]
  have q0:w6.cell? ⟨w.heap.size,0,none⟩=some (.int .i64 room):=by rw[hw6];exact(sJ _ _ _ _ zD).trans ((sJ _ _ _ _ zD).trans e0)
  have q1:w6.cell? ⟨w.heap.size,1,none⟩=some (.slice a4 zs.length c4):=by rw[hw6];exact(sJ _ _ _ _ zD).trans (sK _ _ _ e1)
  have q2:w6.cell? ⟨w.heap.size,2,none⟩=some (.int .i64 pu):=by rw[hw6];exact(sJ _ _ _ _ zD).trans ((sJ _ _ _ _ zD).trans e2)
  have q3:w6.cell? ⟨w.heap.size,3,none⟩=some (.int .i64 sn):=by rw[hw6];exact sK _ _ _ ((sJ _ _ _ _ zD).trans e3)
  have ht6:w6.there (w.heap.size+1+1) 0 (#[.int .i64 room,.slice a4 zs.length c4,.int .i64 pu,.int .i64 sn]:Array Value).size:=by
    rw[hw6];exact Qa (Qa HT4.out _ rfl _) _ rfl _
  have hsz6:(Tryz.prog.info? 53).map (·.size)=some (#[.int .i64 room,.slice a4 zs.length c4,.int .i64 pu,.int .i64 sn]:Array Value).size:=yD
  have hall:(#[.int .i64 room,.slice a4 zs.length c4,.int .i64 pu,.int .i64 sn]:Array Value).all (·.oneCell')=true:=zT
  have hld:=QQ (P:=Tryz.prog) ht6 Tryz.underlying53 rfl hsz6
  have HCP6:Hid (Cp w1.heap.size 62 91 w6 (.slice a4 zs.length c4) zs):=lI (by rw[hw6];exact(HCP4.out.set yV _).set yV _)
  have HB6:Hid (Below w.heap.size w w6):=lI (by rw[hw6];exact(HB4.out.setCell (p:=⟨w.heap.size,1,none⟩) (sN _) _).setCell (p:=⟨w.heap.size,3,none⟩) (sN _) _)
  clear hw6 e0 e1 e2 e3 f1 f3 HCP4 HB4
  go_wp2_with (first|(refine wpList_store_mid rfl 53 _ _ rfl (w.heap.size+1+1) 0 #[.int .i64 room,.slice a4 zs.length c4,.int .i64 pu,.int .i64 sn] rfl rfl ht6 hsz6 hall ?_))
  refine sO (UN zK _ zK hld) rfl ?_
  rw[HSN.out]
  exact⟨⟨_,zs,rfl,(HCP6.out.sets om _ _).blks,HZA.out,HCP6.out.far.mono om,(HCP6.out.sets om _ _).typ⟩,qL om _ _ _ HB6.out⟩
theorem delete_any(B:Nat)(v:Value)(ys:List BlkD)(k:Nat)(w:World)(hv:Cp B 62 91 w v ys)(hB:B≤w.heap.size)(hk:k<ys.length):
    Calls Tryz.prog 112 #[v,.int .i64 k,.int .i64 ((k:Int)+1)] w fun e w'=>(∃v',e=.returned v'∧Cp B 62 91 w' v' (ys.eraseIdx k))∧Below B w w':=by
  have hne:62≠91:=zF
  obtain⟨cap,e,hBg,hnc,hcm,hsh,hat⟩:=shape_of hv.own om
  obtain⟨g,hg⟩:∃g,g=v.ownBlock.getD 0:=⟨_,rfl⟩
  rw[←hg]at e hBg hsh hat
  clear hg
  subst e
  obtain⟨n,hn⟩:∃n,n=ys.length:=⟨_,rfl⟩
  obtain⟨news,hnews⟩:∃u,u=(ys.drop (k+1)).flatMap qo:=⟨_,rfl⟩
  have hone:∀u∈news,u.oneCell'=true:=fun u hu=>by
    rw[hnews]at hu
    obtain⟨y,hy,hu⟩:=List.mem_flatMap.1 hu
    exact blk1_one (hv.row y (List.mem_of_mem_drop hy)) u hu
  have hnl:news.length=(n-(k+1))*2:=by rw[hnews,jK,hn];simp
  have hnat:At w g ((k+1)*2) news:=by
    have e:ys.flatMap qo=(ys.take (k+1)).flatMap qo++(ys.drop (k+1)).flatMap qo:=by rw[←List.flatMap_append,List.take_append_drop]
    rw[e]at hat
    have:=hat.append_right
    rw[jK,sM,show(ys.take (k+1)).length=k+1 by simp;omega,←hnews]at this
    exact this
  have HER:Hid (∀zs:List Value,_∧_):=lI (fun zs=>Cp.erase hne (hv.below (Below.drew br:Below w.heap.size w w.drew)) hBg hk hnc hcm (hsh.block rfl) hat zs)
  rw[←hnews,←hn]at HER
  obtain⟨r,hr⟩:∃r,r+1=n:=⟨n-1,om⟩
  rw[show n-1=r by omega]at HER
  have HSH:=lI hsh
  have HNA:=lI hnat
  have HONE:=lI hone
  have HNL:=lI hnl
  rw[←hn]at hk hnc hv
  unfold maxLen at hcm
  rw[←hn]
  clear hn hnews hone hnl hnat hv hsh hat
  have i0:(0:Int)≤(k:Int):=om
  have i1:(k:Int)≤(k:Int)+1:=om
  have i2:(k:Int)+1≤(n:Int):=om
  have i3:(n:Int)≤(cap:Int):=om
  have i4:((k:Int)==(k:Int)+1)=false:=zL
  have i5:(0:Int)≤(k:Int)+1:=om
  have i6:(k:Int)≤(cap:Int):=om
  have i7:(k:Int)≤(n:Int):=om
  obtain⟨ib,hib,hib0,hib1,hib2⟩:=info_parts info_block5
  go_enter Tryz.func112,Tryz.ntmps112
  go_upto_region 5 with(fail)
  have i8:(0:Int)≤(n:Int):=om
  have hck:cap=k+1→n=k+1:=om
  have HCK:=lI hck
  clear hck
  have r1:(r:Int)≤(n:Int):=om
  have r2:(r:Int)≤(cap:Int):=om
  have r3:¬(cap:Int)=(r:Int):=om
  have r4:¬cap=r:=om
  have hz1:∀v∈(Value.agg #[.int .u32 0,.slice none 0 0]).cells.toList,v.oneCell'=true:=fun v hv=>by
    simp[Value.cells]at hv
    rcases hv with rfl|rfl<;>rfl
  have HTH:Hid (w.drew.there g (k*2) news.length):=lI ((HSH.out.block (w':=w.drew) rfl).there (by rw[HNL.out];omega))
  have HNW:Hid (∀(j:Nat) (u:Value),news[j]? =some u→w.drew.cell? ((⟨g,(k+1)*2,none⟩:Addr).add j)=some u):=lI (fun j u hu=>by
    obtain⟨hj,e⟩:=List.getElem?_eq_some_iff.1 hu
    rw[JY _ rfl,←e]
    exact HNA.out j hj)
  have HR:=lI hr
  clear hr
  by_cases hcj:cap=k+1
  · have hnk:=HCK.out hcj
    have hrk:r=k:=by have:=HR.out;omega
    have hnil:news=[]:=List.eq_nil_of_length_eq_zero (by rw[HNL.out];omega)
    have hthr:(w.drew.setCells g (k*2) []).there g (k*2) (1*2):=(HSH.out.block (w':=w.drew) rfl).there om
    subst hcj hnk hrk hnil
    clear r1 r2 r3 r4 i3 i2 i6 i7 i8 hnc hcm HNL HNA HNW HCK HR
    go_region_law (
      refine step_append_fit zK _ _ _ zK 62 ib 2 Tryz.underlying51 hib hib1 g r (r+1) zK ⟨g,0,none⟩ 0 0 [] zK rfl (by intro j u hu;cases hu) (by intro u hu;cases hu) om r rfl HTH.out ?_)
    all_goals
      go_upto_region 6 with(fail)
      go_wp2_with (first|(refine uz rfl _ 51 62 rfl ib _ 2 Tryz.underlying51 hib hib0 rfl hz1 g (r*2) 1 1 rfl hthr ?_))
      intro zs hzs
      have HFIN:=lI (HER.out zs)
      clear hthr
      go_wp2_with fail
      go_ret
      exact⟨⟨_,rfl,HFIN.out.1⟩,(Below.drew br).trans HFIN.out.2⟩
  · have hcj2:¬(cap:Int)=(k:Int)+1:=om
    have hcj3:¬cap-(k+1)=0:=om
    go_region_law (
      refine step_append_fit zK _ _ _ zK 62 ib 2 Tryz.underlying51 hib hib1 g k cap zK ⟨g,(k+1)*2,none⟩ (n-(k+1)) (cap-(k+1)) news zK HNL.out HNW.out HONE.out om r (by have:=HR.out;omega) HTH.out ?_)
    all_goals
      have hthr:(w.drew.setCells g (k*2) news).there g (r*2) ((n-r)*2):=(Qz.setCells g news (k*2) (HSH.out.block (w':=w.drew) rfl)).there om
      go_upto_region 6 with(fail)
      go_wp2_with (first|(refine uz rfl _ 51 62 rfl ib _ 2 Tryz.underlying51 hib hib0 rfl hz1 g (r*2) (n-r) (cap-r) rfl hthr ?_))
      intro zs hzs
      have HFIN:=lI (HER.out zs)
      clear hthr
      go_wp2_with fail
      go_ret
      exact⟨⟨_,rfl,HFIN.out.1⟩,(Below.drew br).trans HFIN.out.2⟩
end Go.Proofs.YtlfnddmncbkjaabGreatDoor.W
