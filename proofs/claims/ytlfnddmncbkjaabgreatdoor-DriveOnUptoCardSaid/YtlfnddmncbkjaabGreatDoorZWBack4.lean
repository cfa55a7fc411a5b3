import Derived.Test.YtlfnddmncbkjaabGreatDoorZHG
set_option linter.unusedVariables false
set_option linter.unusedSimpArgs false
set_option maxRecDepth 100000
set_option maxHeartbeats 4000000
namespace Go.Proofs.YtlfnddmncbkjaabGreatDoor.W
open Go.RowKit Go.Shelf Fb
attribute [local go_sem] Oper.semAt_some
def backF{m:Mach}{w0:World}(pre:List (UA m w0)):Mach:=pre.foldl (fun mc x=>Ua x.1.2.d mc) m
theorem addr_add'(b o j:Nat):Addr.add ⟨b,o,none⟩ j=⟨b,o+j,none⟩:=by unfold Addr.add;split<;>simp_all
theorem meas_lt{q ll:Nat}(h:q<ll):ll-(intOf (Value.int .i64 ((q+1:Nat):Int))).toNat<ll-(intOf (Value.int .i64 (q:Int))).toNat:=by
  show ll-(((q+1:Nat):Int)).toNat<ll-((q:Int)).toNat
  rw[sV,sV]
  omega
theorem wrap_succ{q ll:Nat}(h:q<ll)(hl:(ll:Int)≤9223372036854775807):wrap64 ((q:Int)+1)=((q+1:Nat):Int):=by
  unfold wrap64
  omega
theorem retM0{F:Fence}{n:Nat}{P:Program}{fn:Func}{R:Ending→World→Prop}{a:Act}{w:World}{v:Value}(hr:(results fn a.tmps).run P w=.ok v w)(hd:a.defers=[])(hR:R (.returned v) w):bodyPostM F n P fn R .ret a w:=by
  show LeavesInM F n P fn a.tmps R a.defers .returning w
  rw[hd]
  exact⟨v,hr,hR⟩
theorem UR.ok{w:World}{v:Value}{us:List UndD}{m:Mach}(h:UR w v us){x:UndD}(hx:x∈us)(hf:uL m x.d=true):UOk m w x:=⟨h.wf x hx,h.byt x hx,h.los x hx,h.rng x hx,hf⟩
theorem dU{p:Prop}(h:p:=by
 go_wp2_with (first|(refine wpList_store_mid rfl 30 _ _ rfl (w.heap.size+1) 0 #[.slice none 0 0,.slice none 0 0] rfl rfl ht hsz5 hall ?_))
 refine retM0 (QI zK _ zK hld) rfl ?_
 exact HP.out):p:=h
theorem dV{p:Prop}(h:p:=by
 obtain⟨ht,hld,hpost⟩:=HEND.out wr 3 HBR.out he
 have HP:=lI hpost
 clear hpost he e0 e1
 exact dU):p:=h
theorem back_own(vm0 vh0 v:Value)(m:Mach)(wf:m.Wf)(us:List UndD)(steps:Int)(w:World)(hm:jw w vm0 vh0 m)(hu:UR w v us)(hst:QY steps)(hul:us.length≤140737488355328):
    Calls Tryz.prog 36 #[.agg #[vm0,vh0],v,.int .i64 steps] w fun e w'=>(∃vm vh,e=.returned (.tuple #[.agg #[vm,vh],.int .i64 (ja m (us.map (·.d)) steps).2])∧jw w' vm vh (ja m (us.map (·.d)) steps).1∧w'.ownsRow w.heap.size 5 1 vm (ja m (us.map (·.d)) steps).1.mem.length ((ja m (us.map (·.d)) steps).1.mem.map (Value.int .u8))∧w'.ownsRow w.heap.size 43 37 vh (ja m (us.map (·.d)) steps).1.harts.length ((ja m (us.map (·.d)) steps).1.harts.flatMap qJ)∧(ja m (us.map (·.d)) steps).1.Wf∧(ja m (us.map (·.d)) steps).1.mem.length≤m.mem.length∧(ja m (us.map (·.d)) steps).1.harts.length≤m.harts.length)∧Below w.heap.size w w':=by
  obtain⟨aom,capm,rfl,hcm,hmm,_,_⟩:=hm.1.open
  obtain⟨aoh,caph,rfl,hch,hmh,_,_⟩:=hm.2.open (fun h hh=>qG (wf.harts h hh)) om
  obtain⟨ao,cap,rfl,hc,hmc,_,ho⟩:=Sl.open hu.row (fun x hx=>uT (hu.wf x hx).len) om
  unfold maxLen at hmm hmh hmc
  obtain⟨w1,hw1⟩:∃w1,w1=(w.alloc (.cells #[.slice aom m.mem.length capm,.slice aoh m.harts.length caph] 30)).alloc (.cells #[.slice none 0 0,.slice none 0 0] 30):=⟨_,rfl⟩
  have hb1:Below w.heap.size w w1:=zI
  have hs1:w1.heap.size=w.heap.size+2:=zO
  have c0:w1.cell? ⟨w.heap.size,0,none⟩=some (.slice aom m.mem.length capm):=zA
  have c1:w1.cell? ⟨w.heap.size,1,none⟩=some (.slice aoh m.harts.length caph):=zA
  have HZ:Hid (w1.heap[w.heap.size+1]? =some (.cells #[.slice none 0 0,.slice none 0 0] 30 (0,0))):=lI (by
    have:=sP (w.alloc (.cells #[.slice aom m.mem.length capm,.slice aoh m.harts.length caph] 30)) (.cells #[.slice none 0 0,.slice none 0 0] 30)
    rw[World.size_alloc]at this
    rw[hw1];exact this)
  have HM:=lI (hm.below hb1)
  have HU:=lI hu
  have HO:=lI ho
  have HMAY:=lI (uD _ _ (.slice none 0 0) m wf [] w1 (hm.below hb1) (Sl.nil _ _) (by intro p hp;cases hp))
  have HW1:=lI hw1
  have HB1:=lI hb1
  obtain⟨R,hR⟩:∃R,R=ja m (us.map (·.d)) steps:=⟨_,rfl⟩
  rw[←hR]
  have HR:=lI hR
  have hsz5:(Tryz.prog.info? 30).map (·.size)=some (#[.slice none 0 0,.slice none 0 0]:Array Value).size:=yQ
  have hall:(#[.slice none 0 0,.slice none 0 0]:Array Value).all (·.oneCell')=true:=zT
  have HEND:Hid (∀(W:World) (c:Int),Below w1.heap.size w1 W→R=(⟨[],[]⟩,c)→W.there (w.heap.size+1) 0 2∧(loadVar 30 ⟨w.heap.size+1,0,none⟩).run Tryz.prog (W.setCells (w.heap.size+1) 0 [.slice none 0 0,.slice none 0 0])=.ok (.agg #[.slice none 0 0,.slice none 0 0]) (W.setCells (w.heap.size+1) 0 [.slice none 0 0,.slice none 0 0])∧((∃vm vh,(Ending.returned (.tuple #[.agg #[.slice none 0 0,.slice none 0 0],.int .i64 c]))=.returned (.tuple #[.agg #[vm,vh],.int .i64 R.2])∧jw (W.setCells (w.heap.size+1) 0 [.slice none 0 0,.slice none 0 0]) vm vh R.1∧(W.setCells (w.heap.size+1) 0 [.slice none 0 0,.slice none 0 0]).ownsRow w.heap.size 5 1 vm R.1.mem.length (R.1.mem.map (Value.int .u8))∧(W.setCells (w.heap.size+1) 0 [.slice none 0 0,.slice none 0 0]).ownsRow w.heap.size 43 37 vh R.1.harts.length (R.1.harts.flatMap qJ)∧R.1.Wf∧R.1.mem.length≤m.mem.length∧R.1.harts.length≤m.harts.length)∧Below w.heap.size w (W.setCells (w.heap.size+1) 0 [.slice none 0 0,.slice none 0 0]))):=lI (fun W c hW e=>by
    have ht:W.there (w.heap.size+1) 0 2:=qt ((hW.block (w.heap.size+1) om).trans HZ.out) rfl
    refine⟨ht,QQ (P:=Tryz.prog) (cs:=#[.slice none 0 0,.slice none 0 0]) ht Tryz.underlying30 rfl hsz5,⟨_,_,by rw[e], ?_⟩,qL om _ _ _ (HB1.out.trans (hW.mono om))⟩
    rw[e]
    exact⟨(shown_nil _ 0).mach,World.ownsRow_nil _ _ _ _,World.ownsRow_nil _ _ _ _,⟨zW,zW⟩,Nat.zero_le _,Nat.zero_le _⟩)
  clear hw1 hm hu ho hb1 hR
  refine(callsIn_wide (n:=6)).1 ?_
  refine callsIn_of_wp_marks Tryz.func36 rfl trivial ?_ rfl
  refine wpIn_wide.2 ?_
  simp only[Tryz.ntmps36,List.size_toArray,List.length_cons,List.length_nil,Nat.reduceAdd,Nat.reduceSub,Array.replicate_succ,Array.replicate_zero,List.push_toArray,List.append_toArray,List.nil_append,List.cons_append]
  go_upto_region 1 with(fail)
  rw[←HW1.out]
  go_wp2_with fail
  refine HMAY.out.mono ?_
  rintro e w2 ⟨rfl,hb2⟩
  by_cases hq:qj m []=0
  · rw[hq]
    have hs2:=hb2.size
    have d0:=(hb2.cell (p:=⟨w.heap.size,0,none⟩) zN).trans c0
    have d1:=(hb2.cell (p:=⟨w.heap.size,1,none⟩) zN).trans c1
    have HB2:=lI hb2
    have HC0:=lI c0
    have HC1:=lI c1
    clear c0 c1 hb2
    go_wp2_with fail
    go_loopw [21] (fun i wr=>∃q:Nat,i=.int .i64 q∧q≤us.length∧Hid (Below w1.heap.size w1 wr∧∀k (h:k<us.length),k<q→uL m us[k].d=true)) (fun i _=>us.length-(intOf i).toNat)
    case atStart=>exact⟨0,rfl,om,lI ⟨HB2.out,fun k _ h=>absurd h om⟩⟩
    case round=>
      obtain⟨q,rfl,hqn,HQ⟩:=hrel
      have hsr:=HQ.out.1.size
      by_cases hlt:q<us.length
      · obtain⟨b,off,rfl,hbl,hel⟩:=HO.out zQ
        have hx:=sR hlt
        have hwf:=HU.out.wf _ hx
        have hat:At wr b (off+q*41) (QJ us[q]).toArray.toList:=(hel q hlt).below (HB1.out.trans (HQ.out.1.mono HB1.out.size))
        have hvb:=HU.out.byt _ hx
        have hvl:=HU.out.los _ hx
        have hrg:=HU.out.rng _ hx
        have HFA:Hid (uL m us[q].d=false→R=(⟨[],[]⟩,2)):=lI (fun hf=>by
          rw[HR.out]
          unfold ja
          rw[if_pos hq,if_neg]
          intro h
          have:=List.all_eq_true.1 h us[q].d (List.mem_map.2 ⟨_,hx,rfl⟩)
          rw[hf]at this
          cases this)
        have HNX:Hid (uL m us[q].d=true→∀k (h:k<us.length),k<q+1→uL m us[k].d=true):=lI (fun hf k h h2=>by
          rcases Nat.lt_or_ge k q with h3|h3
          · exact HQ.out.2 k h h3
          · obtain rfl:k=q:=om
            exact hf)
        obtain⟨x,hxe⟩:∃x,x=us[q]:=⟨_,rfl⟩
        rw[←hxe]at hwf hat hvb hvl hrg HFA HNX
        have hx41:(QJ x).toArray.size=41:=by rw[List.size_toArray,uT hwf.len]
        have hszx:(Tryz.prog.info? 136).map (·.size)=some (QJ x).toArray.size:=by rw[hx41];kernel_rfl
        have hox:∀u∈(QJ x).toArray.toList,u.oneCell'=true:=ulist_one (Ints.one (l:=x.d.bytes) hvb) (by
          obtain⟨a1,c1,e1,-⟩:=Sl.open (f:=JG) hvl (fun _ _=>rfl) om
          rw[e1];rfl)
        obtain⟨z,hz41⟩:∃z:Array Value,z=(Value.int .i64 0::(qJ qz++[.int .u32 0,.slice none 0 0,.slice none 0 0])).toArray:=⟨_,rfl⟩
        obtain⟨w3,hw3⟩:∃w3,w3=wr.alloc (.cells (QJ x).toArray 136):=⟨_,rfl⟩
        have hb3:Below wr.heap.size wr w3:=by rw[hw3];exact Below.alloc br (sN _) _
        have hat3:At w3 wr.heap.size 0 (QJ x).toArray.toList:=by rw[hw3];exact QN wr (QJ x) _ _
        have HB3:=lI (HQ.out.1.trans (hb3.mono hsr))
        have e0:=(HB3.out.cell (p:=⟨w.heap.size,0,none⟩) zN).trans HC0.out
        have e1:=(HB3.out.cell (p:=⟨w.heap.size,1,none⟩) zN).trans HC1.out
        have i0:(0:Int)≤(q:Int):=om
        have i1:(q:Int)<(us.length:Int):=om
        have HW3:=lI hw3
        have hb13:Below w.heap.size w w3:=HB1.out.trans (HB3.out.mono om)
        have HFT:=lI (fits_any (.slice aom m.mem.length capm) (.slice aoh m.harts.length caph) m x w3 (HM.out.below HB3.out) (Sl.below hvl hb13) (Sl.below hvb hb13) hwf hrg wf.harts)
        clear hel hxe hw3 hb3 hz41 hb13 hvb hvl hx
        go_upto_region 6 with(first|(refine Qb rfl 136 _ rfl b (off+q*41) rfl (QJ x).toArray _ hat Tryz.underlying136 rfl hszx ?_)|(refine jE rfl 136 _ _ rfl wr _ (QJ x).toArray rfl rfl rfl hszx (by rw[hx41];rfl) hox ?_))
        rw[←HW3.out]
        simp only[Act.put]
        go_wp2_with (first|(refine Qb rfl 136 _ rfl wr.heap.size 0 rfl (QJ x).toArray _ hat3 Tryz.underlying136 rfl hszx ?_))
        refine HFT.out.mono ?_
        rintro e w4 ⟨rfl,hb4⟩
        have HB4:=lI (HB3.out.trans (hb4.mono HB3.out.size))
        clear hat hat3 e0 e1 hb4 hox hszx
        cases hf:uL m x.d with
        | true =>
          have HF:=lI (HNX.out hf)
          clear hf
          go_wp2_with fail
          go_roundw
          case rel=>exact⟨q+1,by simp,hlt,lI ⟨HB4.out,HF.out⟩⟩
          case measure=>simp[intOf];omega
        | false =>
          have he:=HFA.out hf
          obtain⟨ht,hld,hpost⟩:=HEND.out w4 2 HB4.out he
          have HP:=lI hpost
          clear hpost he hf
          go_wp2_with (first|(refine wpList_store_mid rfl 30 _ _ rfl (w.heap.size+1) 0 #[.slice none 0 0,.slice none 0 0] rfl rfl ht hsz5 hall ?_))
          refine retM0 (QI zK _ zK hld) rfl ?_
          exact HP.out
      · obtain rfl:q=us.length:=om
        have hall2:(us.map (·.d)).all (uL m)=true:=by
          rw[List.all_eq_true]
          intro u hu
          obtain⟨x,hx,rfl⟩:=List.mem_map.1 hu
          obtain⟨k,hk,rfl⟩:=List.mem_iff_getElem.1 hx
          exact HQ.out.2 k hk hk
        have HALL:=lI hall2
        have HRS:Hid (R=if steps<0∨(us.length:Int)<steps then(⟨[],[]⟩,3)else(backL ((us.map (·.d)).drop (us.length-steps.toNat)) m,0)):=lI (by
          rw[HR.out]
          unfold ja
          rw[if_pos hq,if_pos hall2,sX])
        have HBR:=lI HQ.out.1
        have e0:=(HBR.out.cell (p:=⟨w.heap.size,0,none⟩) zN).trans HC0.out
        have e1:=(HBR.out.cell (p:=⟨w.heap.size,1,none⟩) zN).trans HC1.out
        have HQQ:=lI hq
        clear hall2 hq
        by_cases hneg:steps<0
        · have he:R=(⟨[],[]⟩,3):=by rw[HRS.out,if_pos (.inl hneg)]
          exact dV
        · by_cases hbig:(us.length:Int)<steps
          · have he:R=(⟨[],[]⟩,3):=by rw[HRS.out,if_pos (.inr hbig)]
            exact dV
          · have HE0:Hid (R=(backL ((us.map (·.d)).drop (us.length-steps.toNat)) m,0)):=lI (by rw[HRS.out,if_neg om])
            obtain⟨s,rfl⟩:=sQ (show 0≤steps by omega)
            rw[sV]at HE0
            have hsl:s≤us.length:=om
            clear HRS hneg hbig
            obtain⟨p1,p2,p3,p4,p5,p6⟩:=jx HQQ.out
            have HBG:=lI (begin_own (.slice aom m.mem.length capm) (.slice aoh m.harts.length caph) m wf wr (HM.out.below HBR.out) p2 p3 p1)
            clear p6 p4
            go_wp2_with fail
            refine HBG.out.mono ?_
            rintro e w3 ⟨⟨bp,bh,hc,vm,rfl,hbd,hbh,hvm,hob,hoh⟩,hb3⟩
            obtain⟨am,cm,hvme,-⟩:=hbd.bytes.open
            subst hvme
            have q0:=hbd.c0
            have q1:=hbd.c1
            obtain⟨nb,hnb⟩:∃x,x=w3.heap.size:=⟨_,rfl⟩
            obtain⟨w4,hw4⟩:∃x,x=w3.alloc (.cells #[.slice am (qN m).mem.length cm,.slice (some ⟨bh,0,none⟩) (qN m).harts.length hc] 30):=⟨_,rfl⟩
            have HW4:=lI hw4
            have hb4:Below w3.heap.size w3 w4:=by rw[hw4];exact Below.alloc br (sN _) _
            have hnbk:w4.heap[nb]? =some (.cells #[.slice am (qN m).mem.length cm,.slice (some ⟨bh,0,none⟩) (qN m).harts.length hc] 30 (0,0)):=by rw[hw4,hnb];exact sP _ _
            have hs4:nb+1=w4.heap.size:=by rw[hw4,hnb];simp
            clear hw4
            go_upto_region 12 with(fail)
            rw[←HW4.out,←hnb]
            have HNB:=lI hnb
            clear hnb
            have n1:(0:Int)≤(us.length:Int)-(s:Int):=om
            have n2:(us.length:Int)-(s:Int)≤(us.length:Int):=om
            have n3:(us.length:Int)-(s:Int)≤(cap:Int):=om
            have n4:(us.length:Int)≤(cap:Int):=om
            obtain⟨ab,hab⟩:∃ab,(if cap=us.length-s then ao else Option.map (fun x=>x.add ((us.length-s)*41)) ao)=ab:=⟨_,rfl⟩
            clear q0 q1
            go_wp2_with fail
            refine(backward_any _ _ _ _).mono ?_
            rintro e w5 ⟨rfl,hw5⟩
            have HW5E:=lI hw5
            clear hw5
            go_wp2_with fail
            have hw5:=HW5E.out
            have hnb:=HNB.out
            have hs5:w5.heap.size=w4.heap.size+1:=by rw[hw5];simp
            obtain⟨Bs,hBs⟩:∃x,x=w4.heap.size:=⟨_,rfl⟩
            have hb5:Below w4.heap.size w4 w5:=by rw[hw5];exact Below.alloc br (sN _) _
            have hs3:=hb3.size
            have hsw:w.heap.size≤wr.heap.size:=om
            have hb05:Below w.heap.size w w5:=(((HB1.out.trans (HBR.out.mono om)).trans (hb3.mono hsw)).trans (hb4.mono om)).trans (hb5.mono om)
            have hbc:w5.cell? ⟨Bs,0,none⟩=some (.slice ab (us.drop (us.length-s)).length (cap-(us.length-s))):=by
              rw[List.length_drop,hw5,hBs]
              unfold World.cell?
              rw[sP]
              rfl
            have hxs:∀x∈us.drop (us.length-s),UOk m w x:=fun x hx=>by
              have hx2:=List.mem_of_mem_drop hx
              exact UR.ok HU.out hx2 (List.all_eq_true.1 HALL.out _ (List.mem_map.2 ⟨x,hx2,rfl⟩))
            have hatd:us.drop (us.length-s)≠[]→∃b off,ab=some ⟨b,off,none⟩∧b<w.heap.size∧∀k (h:k<(us.drop (us.length-s)).length),At w5 b (off+k*41) (QJ (us.drop (us.length-s))[k]):=fun hne=>by
              have hpos:0<s:=by
                rcases Nat.eq_zero_or_pos s with e|e
                · rw[e,Nat.sub_zero,List.drop_length]at hne;exact absurd rfl hne
                · exact e
              obtain⟨b,off,e,hbl,hel⟩:=HO.out (by intro e;rw[e]at hne;simp at hne)
              refine⟨b,off+(us.length-s)*41, ?_,hbl,fun k hk=> ?_⟩
              · rw[←hab,if_neg om,e]
                simp[Addr.add]
              · rw[List.getElem_drop]
                have:=(hel (us.length-s+k) (by rw[List.length_drop]at hk;omega)).below hb05
                rw[show off+(us.length-s)*41+k*41=off+(us.length-s+k)*41 by rw[Nat.add_mul];omega]
                exact this
            have hvm5:∀q,(Value.slice am (qN m).mem.length cm).ownBlock=some q→wr.heap.size≤q:=hvm
            have hbd5:=(hbd.below hb4).below hb5
            have hbi0:BI w.heap.size nb bh hc Bs (.slice am (qN m).mem.length cm) w w5 m m:=⟨(qA (hb5.block nb om) _).trans (by unfold World.cell?;rw[hnbk];rfl),(qA (hb5.block nb om) _).trans (by unfold World.cell?;rw[hnbk];rfl),hbd5.harts,hbd5.hfz,hbd5.bytes,fun hne q e=>by
                have h1:=hbd5.mlt q e
                have h2:=hvm5 q e
                have h3:=hbd.b1
                have h4:=hbd.lt
                obtain⟨a1,c1,e1,_,_,_,ho1⟩:=hbd.bytes.open
                obtain⟨b1,o1,e2,_,hx1⟩:=ho1 hne
                injection e1 with e3 _ _
                subst e3 e2
                obtain rfl:b1=q:=by cases e;rfl
                exact⟨⟨om,om,h1.2,om⟩,(hbd5.mfz b1 o1 _ _ rfl).2⟩,⟨om,om,by have:=hbd.hlt;omega,by have:=hbd.hlt;omega,om⟩,hbd5.hlt,⟨rfl,p2,p3⟩,⟨rfl,p1⟩,wf,hbd5.hcap,hb05,(Beg.below ⟨w3,_,_,_,_,qe hob hsw,qe hoh hsw,fun _ _=>QH.refl _⟩ hb4).below hb5⟩
            have HBI0:=lI hbi0
            have HZ5:Hid (w5.heap[w.heap.size+1]? =some (.cells #[.slice none 0 0,.slice none 0 0] 30 (0,0))):=lI ((hb5.block _ om).trans ((hb4.block _ om).trans ((hb3.block _ om).trans ((HBR.out.block _ om).trans HZ.out))))
            have HBC:=lI hbc
            have HXS:=lI hxs
            have HATD:=lI hatd
            have HW5:Hid (Bs<w5.heap.size∧w.heap.size≤w5.heap.size∧w.heap.size+1<w5.heap.size∧nb<w5.heap.size∧bh<w5.heap.size∧w.heap.size+1<bh∧w.heap.size+1<nb∧∀q,(Value.slice am (qN m).mem.length cm).ownBlock=some q→q<w5.heap.size∧w.heap.size+1<q∧q≠Bs):=lI ⟨om,om,om,om,by have:=hbd.hlt;omega,om,om,fun q e=>by have:=hvm5 q e;have:=(hbd.mlt q e).1;have:=hbd.lt;omega⟩
            rw[←hBs]
            clear hab hw5 HW5E hBs hb5 hb05 hbc hxs hatd hvm5 hbd5 hbi0 hob hoh hnbk hb4 hb3 hbd hvm hs4 hs5 hs3 hsw n1 n2 n3 n4 hnb hbh HBG HW4 e0 e1
            refine(wpIn_wide (n:=6)).1 ?_
            refine rangeFunc_boxed (F:=Fence.wide) rfl om (gf:=99) (lb:=#[.pointer (some ⟨Bs,0,none⟩)]) rfl trivial (enters_of Tryz.func99 kr rfl)
              (back_stops 5 om Bs w.heap.size ab (cap-(us.length-s)) m w (us.drop (us.length-s)) HXS.out (by rw[List.length_drop];omega) w5 HW5.out.1 HW5.out.2.1 HBC.out HATD.out)
              ukp_t (ukp_b HW5.out.2.1) br (fun _=>rfl)
              (fun(pre:List (UA m w)) W=>BI w.heap.size nb bh hc Bs (.slice am (qN m).mem.length cm) w W m (backF pre)∧w5.heap.size≤W.heap.size∧W.heap[w.heap.size+1]? =some (.cells #[.slice none 0 0,.slice none 0 0] 30 (0,0)))
              (fun pre A C row h hg hr=>⟨h.1.own HW5.out.2.1 hg hr,Nat.le_trans h.2.1 hg.size,(grownBy_keeps_cells hg (fun r e=>(hr r e).2) h.2.2 rfl).trans h.2.2⟩)
              ⟨HBI0.out,sN _,HZ5.out⟩ 12 136 (fun x=>(QJ x.1.2).toArray) (fun x=>by rw[List.size_toArray,uT x.2.1.len];decide)
              (fun pre W o h=>⟨Below.alloc br (by have:=h.2.1;have:=HW5.out.2.1;omega) _,fun v e=>(sI _ _ _ (qD e)).trans e⟩)
              (fun pre W h=>h.2.1) ?assign ?body ?done
            case assign=>
              intro l x W K hK
              have hx41:(QJ x.1.2).toArray.size=41:=by rw[List.size_toArray,uT x.2.1.len]
              have hszx:(Tryz.prog.info? 136).map (·.size)=some (QJ x.1.2).toArray.size:=by rw[hx41];kernel_rfl
              have hox:∀u∈(QJ x.1.2).toArray.toList,u.oneCell'=true:=ulist_one (Ints.one (l:=x.1.2.d.bytes) x.2.2.1) (by
                obtain⟨a1,c1,e1,-⟩:=Sl.open (f:=JG) x.2.2.2.1 (fun _ _=>rfl) om
                rw[e1];rfl)
              simp only[uenc,List.zip_toArray,List.zip_cons_cons,List.zip_nil_right,List.foldl_toArray,List.foldl_cons,List.foldl_nil,sD,sG,sE]at hK ⊢
              gi_wp2_with (first|(refine wpListIn_store_new rfl 136 _ _ rfl W _ (QJ x.1.2).toArray rfl rfl rfl hszx (by rw[hx41];rfl) hox ?_))
              exact hK
            case body=>
              intro l pre x Bx W hBx hblk hI hlt
              simp only[uenc,List.zip_toArray,List.zip_cons_cons,List.zip_nil_right,List.foldl_toArray,List.foldl_cons,List.foldl_nil,sD,sG,sE]
              obtain⟨hBI,hsW,hzb⟩:=hI
              have HZB:=lI hzb
              clear hzb
              have hx:=x.2
              have HNXT:Hid (backF (pre++[x])=Ua x.1.2.d (backF pre)):=lI (by unfold backF;rw[List.foldl_append];rfl)
              obtain⟨xu,hxu⟩:∃y,y=x.1.2:=⟨_,rfl⟩
              obtain⟨qi,hqi⟩:∃y,y=x.1.1:=⟨_,rfl⟩
              rw[←hxu]at hx HNXT hblk
              rw[←hxu,←hqi]
              clear hxu hqi
              obtain⟨hwf,hvb,hvl,hrg,hfit⟩:=hx
              obtain⟨mc,hmc⟩:∃mc,mc=backF pre:=⟨_,rfl⟩
              rw[←hmc]at hBI HNXT
              clear hmc
              unfold uL inH at hfit
              simp only[Bool.and_eq_true,List.all_eq_true,decide_eq_true_eq]at hfit
              obtain⟨hlo,⟨⟨hk0,hk1⟩,-⟩,hfb⟩:=hfit
              obtain⟨k,hk⟩:=sQ hk0
              rw[hk]at hk1
              have hub:=ulist_at hwf.len (show At W Bx 0 (QJ xu)from fun j hj=>by
                simp only[World.cell?,hblk,sM,List.getElem?_toArray]
                exact sU hj)
              simp only[sM]at hub
              obtain⟨x0,x1,x38,x39,x40⟩:=hub
              rw[hk]at x0
              have hl1:=hBI.len1.1
              have y1:=hBI.c1
              have y0:=hBI.c0
              have hkm:k<mc.harts.length:=om
              obtain⟨HB1',hth⟩:=hBI.hart (k:=k) hwf hkm
              have hszh:(Tryz.prog.info? 43).map (·.size)=some (qQ xu.d.was).size:=by rw[Ql hwf];kernel_rfl
              have honeh:(qQ xu.d.was).all (·.oneCell')=true:=Array.all_eq_true_iff_forall_mem.2 (fun v hv=>jY xu.d.was v (by simpa using hv))
              have i0:(0:Int)≤(k:Int):=om
              have i1:(k:Int)<(mc.harts.length:Int):=om
              have x1':At W Bx 1 (qQ xu.d.was).toList:=by simpa[qQ]using x1
              refine wpIn_block ?_
              refine wpIn_seq_k (fun K hK=> ?_)
              refine QZ (fun⟨_,_,h⟩=>h) (hd_of zK) ?_
              go_wp2_with (first|(refine Qb rfl 43 _ rfl Bx 1 rfl (qQ xu.d.was) _ x1' Tryz.underlying43 rfl hszh ?_)|(refine wpList_store_mid rfl 43 _ _ rfl bh (k*37) (qQ xu.d.was) rfl rfl hth hszh honeh ?_))
              have HBI1:=lI HB1'
              obtain⟨g1,g2,g3,g4,g5⟩:=hBI.geo
              obtain⟨W1,hW1⟩:∃x,x=W.setCells bh (k*37) (qQ xu.d.was).toList:=⟨_,rfl⟩
              have hr1:Below w.heap.size W W1∧∀q,q≠bh→W1.heap[q]? =W.heap[q]? :=by rw[hW1];exact⟨qL g1 _ _ _ br,fun q hq=>qT hq _ _ _⟩
              have hz1:W1.heap.size=W.heap.size:=by rw[hW1,QK]
              rw[←hW1]at HBI1 ⊢
              have HR1:=lI hr1
              have hbxbh:Bx≠bh:=by have:=HW5.out.2.2.2.2.1;omega
              have hW5':=HW5.out
              have u38:=(qA (hr1.2 Bx hbxbh) 38).trans x38
              have u39:=(qA (hr1.2 Bx hbxbh) 39).trans x39
              have HU40:=lI ((qA (hr1.2 Bx hbxbh) 40).trans x40)
              have HLB:Hid (W1.heap[Bx]? =some (.cells (QJ xu).toArray 136 (0,0))):=lI ((hr1.2 Bx hbxbh).trans hblk)
              have v0:=HBI1.out.c0
              obtain⟨f,hf⟩:∃f,f=xu.d.frm:=⟨_,rfl⟩
              obtain⟨bs,hbs⟩:∃f,f=xu.d.bytes:=⟨_,rfl⟩
              rw[←hf]at u38 hfb
              rw[←hbs]at hvb hfb
              have hrf:=hrg.2.1
              have hrb:=hrg.2.2.1
              rw[←hf]at hrf
              rw[←hbs]at hrb
              obtain⟨ml,hml⟩:∃x:Nat,x=(qN m).mem.length:=⟨_,rfl⟩
              have hml2:ml=m.mem.length:=hml
              rw[←hml2]at hfb
              obtain⟨ab1,cb1,hvbe,hcb1,hcb2,-,hbo⟩:=Ints.open (l:=bs) hvb
              have hmem1:({mc with harts:=mc.harts.set k xu.d.was}:Mach).mem.length=ml:=by rw[hml2];exact hBI.len2.1
              obtain⟨am',cm',hvm',hcm1,hcm2,-,hmo⟩:=HBI1.out.bytes.open
              injection hvm' with e1 e2 e3
              subst e1 e3
              clear e2
              rw[hmem1]at hcm1
              rw[←hml]at v0
              obtain⟨dv,hdv⟩:∃d:Value,d=.slice (if cm=f.toNat then am else Option.map (fun x=>x.add f.toNat) am) (ml-f.toNat) (cm-f.toNat):=⟨_,rfl⟩
              have hinf:(Tryz.prog.info? 5).map (·.size)=some 1:=zE
              have f0:0≤f:=hrf.1
              have hcopy:∃(nv:Value) (W2:World),(Builtin.copy_ #[27,27] 3 #[dv,xu.vb]).run Tryz.prog W1.drew=.ok nv W2∧BI w.heap.size nb bh hc Bs (.slice am (qN m).mem.length cm) w W2 m ⟨Je mc.mem f bs,mc.harts.set k xu.d.was⟩∧W2.heap.size=W1.heap.size∧Below w.heap.size W1 W2∧∀q,(Value.slice am (qN m).mem.length cm).ownBlock≠some q→W2.heap[q]? =W1.heap[q]? :=by
                have hbd1:BI w.heap.size nb bh hc Bs (.slice am (qN m).mem.length cm) w W1.drew m {mc with harts:=mc.harts.set k xu.d.was}:=HBI1.out.keep (fun _ _=>rfl) (sN _) HBI1.out.bel.drew
                by_cases hne:bs=[]
                · refine⟨goInt 0,W1.drew, ?_, ?_,rfl,Below.drew br,fun _ _=>rfl⟩
                  · rw[hdv,hvbe]
                    exact run_copy_none _ _ _ _ 5 _ _ _ _ _ _ Tryz.underlying27 hinf (by rw[hne];simp)
                  · have e:Je mc.mem f bs=mc.mem:=by rw[hne];unfold Je;simp
                    rw[e]
                    exact hbd1
                · have hbl:0<bs.length:=List.length_pos_iff.2 hne
                  have hmne:({mc with harts:=mc.harts.set k xu.d.was}:Mach).mem≠[]:=by
                    intro e
                    rw[e]at hmem1
                    simp at hmem1
                    have:=hrf.1
                    omega
                  obtain⟨mb,off,rfl,hmbl,hmx⟩:=hmo hmne
                  obtain⟨b2,off2,rfl,hb2l,hb2x⟩:=hbo hne
                  have hbd2:BI w.heap.size nb bh hc Bs (.slice (some ⟨mb,off,none⟩) ({mc with harts:=mc.harts.set k xu.d.was}:Mach).mem.length cm) w W1.drew m {mc with harts:=mc.harts.set k xu.d.was}:=by rw[hmem1,hml];exact hbd1
                  obtain⟨k1,k2,k3⟩:=hbd2.copy hrf.1 (by rw[hmem1];exact hfb) hrb hne
                  rw[hmem1,hml]at k1
                  have hsrc:∀j u,(bs.map (Value.int .u8))[j]? =some u→W1.drew.cell? ((⟨b2,off2,none⟩:Addr).add j)=some u:=fun j u hu=>by
                    have hj:j<bs.length:=by have:=(List.getElem?_eq_some_iff.1 hu).1;simpa using this
                    have e3:u=.int .u8 bs[j]:=by
                      rw[List.getElem?_map,sU hj]at hu
                      exact(Option.some.inj hu).symm
                    rw[e3,addr_add']
                    have hbw:Below w.heap.size w W1:=hBI.bel.trans HR1.out.1
                    have h9:=hb2x j hj
                    rw[List.getD_eq_getElem?_getD,sU hj]at h9
                    exact(hbw.cell (p:=⟨b2,off2+j,none⟩) hb2l).trans h9
                  refine⟨goInt (bs.map (Value.int .u8)).length,_, ?_,k1,QK _ _ _ _,qL (by have:=hW5'.2.2.2.2.2.2.2 mb rfl;omega) _ _ _ (Below.drew br),fun q hq=>qT (fun e=>hq xB) _ _ _⟩
                  rw[hdv,hvbe,if_neg om]
                  show(Builtin.copy_ _ _ #[.slice (some (Addr.add ⟨mb,off,none⟩ f.toNat)) _ _,_]).run _ _=_
                  rw[addr_add']
                  refine run_copy_cells _ _ _ _ 5 mb (off+f.toNat) _ _ _ _ _ _ Tryz.underlying27 hinf ?_ hsrc (fun j hj=>k2 j xW) (fun j _=>k3 _) xA
                  rw[sX]
                  have e1:(Nat.min bs.length (ml-f.toNat))=min bs.length (ml-f.toNat):=rfl
                  rw[e1]
                  omega
              obtain⟨nv,W2,hcr,hBI2,hz2,hr2,hk2⟩:=hcopy
              have HDV:=lI hdv
              have HCR:=lI hcr
              have HBI2:=lI hBI2
              have HK2:=lI (And.intro hr2 hk2)
              have f1:0≤f:=hrf.1
              have f2:f≤(ml:Int):=om
              have f3:f≤(cm:Int):=om
              have f4:(ml:Int)≤(cm:Int):=om
              have f5:f%4294967296=f:=by have:=hrf.2;omega
              rw[hvbe]at u39 HCR
              clear hdv hcr hBI2 hr2 hk2 hvbe hbo hmo hvb x0 x1 x38 x39 x40 y0 y1 hth hszh honeh x1' HB1' hr1 hcb1 hcb2
              have HFB:=lI (And.intro hf hbs)
              clear hf hbs
              have HLO:=lI hlo
              have HRG:=lI hrg
              have HML:=lI hml
              obtain⟨al,cl,hvle,hcl1,hcl2,-,hol⟩:=Sl.open (f:=JG) hvl (fun _ _=>rfl) om
              have HLB:Hid (((xu.d.lost.length:Nat):Int)≤9223372036854775807):=lI (by unfold maxLen at hcl2;omega)
              clear hcl1 hcl2
              have HOL:=lI hol
              have HVLE:=lI hvle
              have hbs2:(Value.slice am (qN m).mem.length cm).ownBlock≠some Bs:=fun e=>(hW5'.2.2.2.2.2.2.2 Bs e).2.2 rfl
              have HUK2:Hid (UKp w.heap.size Bs W W2∧∀j,j<W.heap.size→(w5.heap.size≤j∨j=w.heap.size+1)→W2.heap[j]? =W.heap[j]?):=lI ⟨⟨HR1.out.1.trans HK2.out.1,fun v e=>(qA (HK2.out.2 Bs hbs2) 0).trans ((qA (HR1.out.2 Bs g4) 0).trans e)⟩,fun j h1 h2=>(HK2.out.2 j (fun e=>by have:=hW5'.2.2.2.2.2.2.2 j e;omega)).trans (HR1.out.2 j (by have:=hW5'.2.2.2.2.1;have:=hW5'.2.2.2.2.2.1;omega))⟩
              clear hol hvle hbs2
              have HBIW:=lI hBI
              have hbx2:(Value.slice am (qN m).mem.length cm).ownBlock≠some Bx:=fun e=>by have:=(hW5'.2.2.2.2.2.2.2 Bx e).1;omega
              have HBX2:=lI hbx2
              have HZZ:Hid (W1.heap.size=W.heap.size∧W2.heap.size=W1.heap.size∧w5.heap.size≤W.heap.size∧w5.heap.size≤Bx∧Bx<W.heap.size∧bh<w5.heap.size):=lI ⟨hz1,hz2,hsW,hBx,(Array.getElem?_eq_some_iff.1 hblk).1,hW5'.2.2.2.2.1⟩
              have HKK:=lI (And.intro hk (And.intro hl1 (And.intro hml2 hmem1)))
              clear hlo hrg hml hml2 hmem1 hBI hbx2 hz1 hz2 hk hl1 hW5' hsW hBx hblk hfb hrb hwf hvl hinf hkm i0 i1 g1 g2 g3 g4 g5 hk0 hk1 hbxbh hlt
              refine wpIn_seq_k (fun K hK=> ?_)
              refine JN (S:=fun W'=>W'.cell? ⟨nb,0,none⟩=some (.slice am ml cm)∧W'.cell? ⟨Bx,38,none⟩=some (.int .u32 f)∧W'.cell? ⟨Bx,39,none⟩=some (.slice ab1 bs.length cb1)) kr (fun⟨_,_,h⟩=>h) (hd_of zK) ⟨v0,u38,u39⟩ (fun hHeld=> ?_)
              refine tak 0 (.pointer (some ⟨nb,0,none⟩)) ?_
              try simp only[sA,sB,sC,Act.put,sD,sE,sG]
              refine tak 1 (.slice am ml cm) ?_
              try simp only[sA,sB,sC,Act.put,sD,sE,sG]
              refine tak 2 (.pointer (some ⟨Bx,38,none⟩)) ?_
              try simp only[sA,sB,sC,Act.put,sD,sE,sG]
              refine tak 3 (.int .u32 f) ?_
              try simp only[sA,sB,sC,Act.put,sD,sE,sG]
              refine tak 4 (.slice (if cm=f.toNat then am else Option.map (fun x=>x.add f.toNat) am) (ml-f.toNat) (cm-f.toNat)) ?_
              try simp only[sA,sB,sC,Act.put,sD,sE,sG]
              refine tak 5 (.pointer (some ⟨Bx,39,none⟩)) ?_
              try simp only[sA,sB,sC,Act.put,sD,sE,sG]
              refine tak 6 (.slice ab1 bs.length cb1) ?_
              try simp only[sA,sB,sC,Act.put,sD,sE,sG]
              refine wpAnyH_ready (rs:=[7]) kr zC ?_
              refine sS rfl (fun K' hK'=> ?_) AllReadyH.nil
              have HCR2:=HCR.out
              rw[HDV.out]at HCR2
              refine step_copy_runI zK _ _ _ _ zK _ _ zK zK HCR2 ?_
              have w38:=(qA (HK2.out.2 Bx HBX2.out) 38).trans u38
              have w39:=(qA (HK2.out.2 Bx HBX2.out) 39).trans u39
              have w0:=HBI2.out.c0
              rw[←HML.out]at w0
              refine hK'.out _ _ ⟨w0,w38,w39⟩ (fun hHeld2=> ?_)
              clear hK' K'
              refine wpAnyH_done kr ?_ _
              show K _ _
              refine hK _ _ ?_
              rw[←HDV.out]
              clear hK K hHeld hHeld2 w38 w39 w0 u38 u39 v0
              have v40:=(qA (HK2.out.2 Bx HBX2.out) 40).trans HU40.out
              rw[HVLE.out]at v40
              obtain⟨ll,hll⟩:∃x:Nat,x=xu.d.lost.length:=⟨_,rfl⟩
              rw[←hll]at v40
              have HLL:=lI hll
              clear hll
              refine wpIn_seq_k (fun K hK=> ?_)
              refine QZ (fun⟨_,_,h⟩=>h) (hd_of zK) ?_
              go_wp2_with fail
              clear v40
              refine wpIn_block ?_
              gi_loopw [73] (fun i wl=>∃q:Nat,i=.int .i64 q∧q≤ll∧Hid (BI w.heap.size nb bh hc Bs (.slice am (qN m).mem.length cm) w wl m ⟨Je mc.mem f bs,Jl (xu.d.lost.take q) (mc.harts.set k xu.d.was)⟩∧UKp w.heap.size Bs W wl∧(∀j,j<W.heap.size→(w5.heap.size≤j∨j=w.heap.size+1)→wl.heap[j]? =W.heap[j]?)∧W.heap.size≤wl.heap.size)) (fun i _=>ll-(intOf i).toNat)
              case atStart=>exact⟨0,rfl,Nat.zero_le _,lI ⟨HBI2.out,HUK2.out.1,HUK2.out.2,by have:=HZZ.out;omega⟩⟩
              case round=>
                obtain⟨q,rfl,hq,HQ⟩:=hrel
                by_cases hlq:q<ll
                · refine wpIn_seq_k (fun K1 hK1=> ?_)
                  refine QZ (fun⟨_,_,h⟩=>h) (hd_of zK) ?_
                  go_wp2_with fail
                  refine wpIn_seq_k (fun K2 hK2=> ?_)
                  refine wpIn_cond_true zK ?_
                  refine wpIn_skip ?_
                  refine hK2 _ _ ?_
                  clear hK2 K2
                  have hlq2:q<xu.d.lost.length:=by have:=HLL.out;omega
                  obtain⟨b,off,rfl,hbl,hel⟩:=HOL.out (by intro e;rw[e]at hlq2;simp at hlq2)
                  have hat:=(hel q hlq2).below HQ.out.1.bel
                  have d0:=hat.get (j:=0) (v:=.int .i64 xu.d.lost[q].1) rfl
                  have d1:=hat.get (j:=1) (v:=.int .u32 xu.d.lost[q].2) rfl
                  simp only[Nat.add_zero]at d0
                  have hpl:=HLO.out _ (sR hlq2)
                  have hpr:=HRG.out.2.2.2 _ (sR hlq2)
                  have HTK:Hid (xu.d.lost.take (q+1)=xu.d.lost.take q++[xu.d.lost[q]]):=lI (List.take_succ_eq_append_getElem hlq2)
                  obtain⟨p,hpe⟩:∃p,p=xu.d.lost[q]:=⟨_,rfl⟩
                  rw[←hpe]at d0 d1 hpl hpr HTK
                  clear hpe hat hel hlq2
                  obtain⟨pj,pa⟩:=p
                  simp only at d0 d1 hpl hpr
                  obtain⟨j,rfl⟩:=sQ hpl.1
                  obtain⟨rs,hrs⟩:∃x,x=Jl (xu.d.lost.take q) (mc.harts.set k xu.d.was):=⟨_,rfl⟩
                  have HBIQ:Hid (BI w.heap.size nb bh hc Bs (.slice am (qN m).mem.length cm) w wr m ⟨Je mc.mem f bs,rs⟩):=lI (by rw[hrs];exact HQ.out.1)
                  have HRS:=lI hrs
                  have hlen1:rs.length=m.harts.length:=HBIQ.out.len1.1
                  have hj:j<rs.length:=om
                  obtain⟨wl,hwl⟩:∃x,x=wr.alloc (.cells #[.int .i64 j,.int .u32 pa] 142):=⟨_,rfl⟩
                  have hbwl:Below wr.heap.size wr wl:=by rw[hwl];exact Below.alloc br (sN _) _
                  have hzl:wr.heap.size<wl.heap.size:=by rw[hwl];simp
                  have e0:wl.cell? ⟨wr.heap.size,0,none⟩=some (.int .i64 j):=by rw[hwl];go_cell
                  have e1:wl.cell? ⟨wr.heap.size,1,none⟩=some (.int .u32 pa):=by rw[hwl];go_cell
                  have hbhl:=HBIQ.out.hlt
                  have HBIL:Hid (BI w.heap.size nb bh hc Bs (.slice am (qN m).mem.length cm) w wl m ⟨Je mc.mem f bs,rs⟩):=lI (HBIQ.out.keep (fun g hg=>hbwl.block g (by
                    rcases hg with rfl|rfl|h2
                    · have:=HW5.out.2.2.2.1;have:=HZZ.out;have:=HQ.out.2.2.2;omega
                    · exact hbhl
                    · exact(HBIQ.out.beg.lt (.inr h2)).2)) (Nat.le_of_lt hzl) (HBIQ.out.bel.trans (hbwl.mono (by have:=HBIQ.out.geo;omega))))
                  have v1:=HBIL.out.c1
                  have hat37:=jc HBIL.out.harts (fun y hy=>qG (HBIL.out.wf.harts y hy)) hj
                  have wfj:=HBIL.out.wf.harts _ (sR hj)
                  have c33:=hat37.get (jh wfj)
                  have c34:=hat37.get (jl wfj)
                  have q33:=HBIL.out.hfz (j*37+33)
                  have q34:=HBIL.out.hfz (j*37+34)
                  have i0:(0:Int)≤(q:Int):=om
                  have i1:(q:Int)<(ll:Int):=om
                  have j0:(0:Int)≤(j:Int):=om
                  have j1:(j:Int)<(rs.length:Int):=om
                  have HWL:=lI hwl
                  have HBWL:=lI hbwl
                  have hne1:bh≠wr.heap.size:=om
                  have hne2:nb≠bh:=HBIL.out.geo.2.2.1
                  generalize rs[j].held=oh at c33
                  generalize rs[j].heldAt=oa at c34
                  have HC34:=lI c34
                  have HQ34:=lI q34
                  have HPR:=lI hpr.2
                  have HJ:=lI hj
                  clear hwl hbwl hat37 wfj hpl hpr hlen1 hj hrs
                  refine wpIn_seq_k (fun K3 hK3=> ?_)
                  refine wpIn_block ?_
                  refine wpIn_seq_k (fun K4 hK4=> ?_)
                  refine QZ (fun⟨_,_,h⟩=>h) (hd_of zK) ?_
                  go_wp2_with fail
                  rw[←HWL.out]
                  clear d0 d1
                  refine JN (S:=fun W'=>W'.cell? ⟨nb,1,none⟩=some (.slice (some ⟨bh,0,none⟩) rs.length hc)∧W'.cell? ⟨wr.heap.size,0,none⟩=some (.int .i64 j)∧W'.cell? ⟨wr.heap.size,1,none⟩=some (.int .u32 pa)) kr (fun⟨_,_,h⟩=>h) (hd_of zK) ⟨v1,e0,e1⟩ (fun hHeld=> ?_)
                  refine tak 0 (.pointer (some ⟨nb,1,none⟩)) ?_
                  try simp only[sA,sB,sC,Act.put,sD,sE,sG]
                  refine tak 1 (.slice (some ⟨bh,0,none⟩) rs.length hc) ?_
                  try simp only[sA,sB,sC,Act.put,sD,sE,sG]
                  refine tak 2 (.pointer (some ⟨wr.heap.size,0,none⟩)) ?_
                  try simp only[sA,sB,sC,Act.put,sD,sE,sG]
                  refine tak 3 (.int .i64 j) ?_
                  try simp only[sA,sB,sC,Act.put,sD,sE,sG]
                  refine tak 4 (.pointer (some ⟨nb,1,none⟩)) ?_
                  try simp only[sA,sB,sC,Act.put,sD,sE,sG]
                  refine tak 5 (.slice (some ⟨bh,0,none⟩) rs.length hc) ?_
                  try simp only[sA,sB,sC,Act.put,sD,sE,sG]
                  refine tak 6 (.pointer (some ⟨wr.heap.size,0,none⟩)) ?_
                  try simp only[sA,sB,sC,Act.put,sD,sE,sG]
                  refine tak 7 (.int .i64 j) ?_
                  try simp only[sA,sB,sC,Act.put,sD,sE,sG]
                  refine tak 8 (.pointer (some ⟨wr.heap.size,1,none⟩)) ?_
                  try simp only[sA,sB,sC,Act.put,sD,sE,sG]
                  refine tak 9 (.int .u32 pa) ?_
                  try simp only[sA,sB,sC,Act.put,sD,sE,sG]
                  refine tak 10 (.pointer (some ⟨bh,j*37,none⟩)) ?_
                  try simp only[sA,sB,sC,Act.put,sD,sE,sG]
                  refine tak 11 (.pointer (some ⟨bh,j*37+33,none⟩)) ?_
                  try simp only[sA,sB,sC,Act.put,sD,sE,sG]
                  refine wpAnyH_ready (rs:=[12]) kr zC ?_
                  refine sS rfl (fun K' hK'=> ?_) AllReadyH.nil
                  go_simp
                  have s1:∀(o:Nat) (u:Value),(wl.drew.setCell ⟨bh,j*37+33,none⟩ (.bool true)).cell? ⟨nb,o,none⟩=wl.cell? ⟨nb,o,none⟩:=fun o _=>sJ _ _ _ _ xV
                  have s2:∀(o:Nat) (u:Value),(wl.drew.setCell ⟨bh,j*37+33,none⟩ (.bool true)).cell? ⟨wr.heap.size,o,none⟩=wl.cell? ⟨wr.heap.size,o,none⟩:=fun o _=>sJ _ _ _ _ xV
                  refine hK'.out _ _ ⟨(s1 1 undef).trans v1,(s2 0 undef).trans e0,(s2 1 undef).trans e1⟩ (fun hHeld2=> ?_)
                  clear hK' K' c33 q33
                  refine tak 13 (.pointer (some ⟨bh,j*37,none⟩)) ?_
                  try simp only[sA,sB,sC,Act.put,sD,sE,sG]
                  refine tak 14 (.pointer (some ⟨bh,j*37+34,none⟩)) ?_
                  try simp only[sA,sB,sC,Act.put,sD,sE,sG]
                  refine wpAnyH_ready (rs:=[15]) kr zC ?_
                  refine sS rfl (fun K' hK'=> ?_) AllReadyH.nil
                  have d34:(wl.drew.setCell ⟨bh,j*37+33,none⟩ (.bool true)).cell? ⟨bh,j*37+34,none⟩=some (.int .u32 oa):=(sJ _ _ _ _ zD).trans HC34.out
                  have dq34:(wl.drew.setCell ⟨bh,j*37+33,none⟩ (.bool true)).frozen? ⟨bh,j*37+34,none⟩=false:=(sL _ _ _ _).trans HQ34.out
                  go_simp
                  have t1:∀(g o:Nat),g≠bh→((wl.drew.setCell ⟨bh,j*37+33,none⟩ (.bool true)).setCell ⟨bh,j*37+34,none⟩ (.int .u32 pa)).cell? ⟨g,o,none⟩=wl.cell? ⟨g,o,none⟩:=fun g o hg=>(sJ _ _ _ _ xV).trans (sJ _ _ _ _ xV)
                  refine hK'.out _ _ ⟨(t1 nb 1 hne2).trans v1,(t1 _ 0 (Ne.symm hne1)).trans e0,(t1 _ 1 (Ne.symm hne1)).trans e1⟩ (fun hHeld3=> ?_)
                  clear hK' K'
                  refine wpAnyH_done kr ?_ _
                  obtain⟨wz,hwz⟩:∃x,x=((wl.setCell ⟨bh,j*37+33,none⟩ (.bool true)).setCell ⟨bh,j*37+34,none⟩ (.int .u32 pa)).drew:=⟨_,rfl⟩
                  have hbiz:BI w.heap.size nb bh hc Bs (.slice am (qN m).mem.length cm) w wz m ⟨Je mc.mem f bs,reset1 ((j:Int),pa) rs⟩:=by
                    have h9:=HBIL.out.reset HPR.out HJ.out
                    rw[hwz]
                    exact h9.keep (fun _ _=>rfl) (sN _) h9.bel.drew
                  have hkz:∀g,g≠bh→wz.heap[g]? =wl.heap[g]? :=fun g hg=>by rw[hwz];exact(sT _ _ _ _ (by show g≠bh;exact hg)).trans (sT _ _ _ _ (by show g≠bh;exact hg))
                  have hzz:wz.heap.size=wl.heap.size:=by rw[hwz];show((wl.setCell _ _).setCell _ _).heap.size=_;simp[World.setCell]
                  have hbz:Below w.heap.size wr wz:=by
                    rw[hwz]
                    exact((((HBWL.out.mono (by have:=HBIQ.out.geo;omega))).setCell (p:=⟨bh,_,none⟩) HBIQ.out.geo.1 _).setCell (p:=⟨bh,_,none⟩) HBIQ.out.geo.1 _).drew
                  rw[←hwz]
                  have HEND2:Hid (BI w.heap.size nb bh hc Bs (.slice am (qN m).mem.length cm) w wz m ⟨Je mc.mem f bs,Jl (xu.d.lost.take (q+1)) (mc.harts.set k xu.d.was)⟩∧UKp w.heap.size Bs W wz∧(∀j,j<W.heap.size→(w5.heap.size≤j∨j=w.heap.size+1)→wz.heap[j]? =W.heap[j]?)∧W.heap.size≤wz.heap.size):=lI ⟨by
                    rw[HTK.out,resets_append,←HRS.out]
                    exact hbiz,⟨HQ.out.2.1.1.trans hbz,fun v e=>(qA (hkz Bs HBIQ.out.geo.2.2.2.1) 0).trans ((HBWL.out.cell (qD (HQ.out.2.1.2 v e))).trans (HQ.out.2.1.2 v e))⟩,fun g h1 h2=>((hkz g (by have:=HZZ.out;have:=HW5.out.2.2.2.2.2.1;omega)).trans (HBWL.out.block g (by have:=HQ.out.2.2.2;omega))).trans (HQ.out.2.2.1 g h1 h2),by have:=HQ.out.2.2.2;omega⟩
                  clear hwz hbiz hkz hzz hbz s1 s2 t1 d34 dq34 hHeld hHeld2 hHeld3 e0 e1 v1
                  simp only[Exit.then,Exit.inBlock]
                  refine hK3 _ _ ?_
                  clear hK3 K3
                  refine QZ (fun⟨_,_,h⟩=>h) (hd_of zK) ?_
                  go_wp2_with fail
                  rw[wrap_succ hlq (by rw[HLL.out];exact HLB.out)]
                  exact⟨⟨q+1,rfl,hlq,HEND2⟩,meas_lt hlq⟩
                · obtain rfl:q=ll:=om
                  refine wpIn_seq_k (fun K1 hK1=> ?_)
                  refine QZ (fun⟨_,_,h⟩=>h) (hd_of zK) ?_
                  go_wp2_with fail
                  refine wpIn_seq_k (fun K2 hK2=> ?_)
                  refine wpIn_cond_false zK ?_
                  refine wpIn_exit ?_
                  simp only[Exit.then,Exit.inBlock,if_true]
                  refine⟨⟨HQ.out.2.2.2,fun j o h1 h2 _=>(HQ.out.2.2.1 j (Array.getElem?_eq_some_iff.1 h2).1 (.inl h1)).trans h2⟩,HQ.out.2.1, ?_,by have:=HQ.out.2.2.2;have:=HZZ.out;omega,(HQ.out.2.2.1 _ (Array.getElem?_eq_some_iff.1 HZB.out).1 (.inr rfl)).trans HZB.out⟩
                  rw[HNXT.out]
                  have:=HQ.out.1
                  rw[show xu.d.lost.take q=xu.d.lost by rw[HLL.out,List.take_length]]at this
                  have e:Ua xu.d mc=⟨Je mc.mem f bs,Jl xu.d.lost (mc.harts.set k xu.d.was)⟩:=by
                    unfold Ua
                    rw[HKK.out.1,sV,←HFB.out.1,←HFB.out.2]
                  rw[e]
                  exact this
            case done=>
              intro D ys W hD hS hI hK
              obtain⟨hBI,hsW,hzb⟩:=hI
              have hbf:backF ys=backL ((us.map (·.d)).drop (us.length-s)) m:=by
                unfold backF backL
                have e:(ys.map (·.1.2)).foldl (fun mc x=>Ua x.d mc) m=ys.foldl (fun mc x=>Ua x.1.2.d mc) m:=List.foldl_map
                rw[←e,hS,List.foldl_reverse,←List.map_drop,List.foldr_map]
              rw[hbf]at hBI
              obtain⟨mF,hmF⟩:∃x,x=backL ((us.map (·.d)).drop (us.length-s)) m:=⟨_,rfl⟩
              rw[←hmF]at hBI
              have hRF:R=(mF,0):=by rw[HE0.out,hmF]
              have y0:=hBI.c0
              have y1:=hBI.c1
              have ht:W.there (w.heap.size+1) 0 2:=qt hzb rfl
              have hszF:(Tryz.prog.info? 30).map (·.size)=some (#[.slice am (qN m).mem.length cm,.slice (some ⟨bh,0,none⟩) mF.harts.length hc]:Array Value).size:=yQ
              have hallF:(#[.slice am (qN m).mem.length cm,.slice (some ⟨bh,0,none⟩) mF.harts.length hc]:Array Value).all (·.oneCell')=true:=zT
              have htF:W.there (w.heap.size+1) 0 (#[.slice am (qN m).mem.length cm,.slice (some ⟨bh,0,none⟩) mF.harts.length hc]:Array Value).size:=ht
              have hDz:D≠w.heap.size+1:=by have:=HW5.out.2.2.1;omega
              have HKD:=lI hK
              have HBF:=lI hBI
              have HRF:=lI hRF
              have HTF:=lI htF
              clear hbf hmF hRF hS hK hBI hzb
              simp only[Exit.inBlock,Exit.then]
              go_wp2_with (first|(refine wpList_store_mid rfl 30 _ _ rfl (w.heap.size+1) 0 #[.slice am (qN m).mem.length cm,.slice (some ⟨bh,0,none⟩) mF.harts.length hc] rfl rfl htF hszF hallF ?_))
              obtain⟨WF,hWF⟩:∃x,x=W.setCells (w.heap.size+1) 0 [.slice am (qN m).mem.length cm,.slice (some ⟨bh,0,none⟩) mF.harts.length hc]:=⟨_,rfl⟩
              rw[←hWF]
              have hKF:WF.heap[D]? =some (.deferred (some [])):=by rw[hWF];exact(qT hDz _ _ _).trans HKD.out
              refine⟨by simp,.inl ⟨_,_,rfl,run_takeDeferred hKF, ?_⟩⟩
              have hatF:At WF (w.heap.size+1) 0 [.slice am (qN m).mem.length cm,.slice (some ⟨bh,0,none⟩) mF.harts.length hc]:=by rw[hWF];exact qv HTF.out
              have hgF:=grownBy_putObj' WF D (.deferred none)
              have hrF:∀r,some D=some r→∃o:Obj,WF.heap[r]? =some o∧o.isCells=false:=fun r e=>by cases e;exact⟨_,hKF,rfl⟩
              have hatG:At (WF.putObj D (.deferred none)) (w.heap.size+1) 0 (#[.slice am (qN m).mem.length cm,.slice (some ⟨bh,0,none⟩) mF.harts.length hc]:Array Value).toList:=fun j hj=>cell_kept (hatF j hj) hgF hrF
              have hW5':=HW5.out
              have hbiF:BI w.heap.size nb bh hc Bs (.slice am (qN m).mem.length cm) w WF m mF:=HBF.out.keep (fun g hg=>by
                rw[hWF]
                refine qT ?_ _ _ _
                rcases hg with rfl|rfl|h2
                · omega
                · omega
                · have:=hW5'.2.2.2.2.2.2.2 _ h2;omega) (by rw[hWF,QK];exact sN _) (by rw[hWF];exact qL om _ _ _ HBF.out.bel)
              have hbiG:=hbiF.own (B':=w5.heap.size) HW5.out.2.1 hgF (fun r e=>by cases e;exact⟨hD,_,hKF,rfl⟩)
              refine⟨_,QI zK _ zK (QL (P:=Tryz.prog) _ (w.heap.size+1) 0 30 _ _ hatG Tryz.underlying30 rfl hszF), ?_⟩
              rw[HRF.out]
              have hlh:∀l:List Hart,(∀x∈l,x.Wf)→(l.flatMap qJ).length=l.length*37:=fun l=>by
                induction l with
                |nil=>intro _;rfl
                | cons x r ih =>
                  intro hx
                  rw[List.flatMap_cons,sW,qG (hx x zC),ih (fun y hy=>hx y (by simp[hy])),List.length_cons]
                  omega
              have hsl:=Sl.mk hbiG.harts (hlh mF.harts hbiG.wf.harts) hbiG.hcap.1 hbiG.hcap.2
              exact⟨⟨_,_,rfl,⟨hbiG.bytes,hsl⟩,(hbiG.beg.own hbiG.bytes hsl).1,(hbiG.beg.own hbiG.bytes hsl).2,hbiG.wf,Nat.le_of_eq hbiG.len2.1,Nat.le_of_eq hbiG.len1.1⟩,hbiG.bel⟩
  · obtain⟨qq,hqq⟩:∃q,q=qj m []:=⟨_,rfl⟩
    rw[←hqq]at hq ⊢
    have he:R=(⟨[],[]⟩,2):=by rw[HR.out];unfold ja;rw[←hqq,if_neg hq]
    obtain⟨ht,hld,hpost⟩:=HEND.out w2 2 hb2 he
    have HP:=lI hpost
    clear hpost he hb2 c0 c1
    exact dU
end Go.Proofs.YtlfnddmncbkjaabGreatDoor.W
