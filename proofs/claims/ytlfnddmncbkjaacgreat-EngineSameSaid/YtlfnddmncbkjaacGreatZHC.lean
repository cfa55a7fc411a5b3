import Derived.Test.YtlfnddmncbkjaacGreatZGO
set_option linter.unusedVariables false
set_option linter.unusedSimpArgs false
set_option maxRecDepth 100000
set_option maxHeartbeats 4000000
namespace Go.Proofs.YtlfnddmncbkjaacGreat.W
open Go.RowKit Fb
theorem info_harts:(Tryz.prog.info? 46).map (fun i=>(i.zero,i.size,i.bytes))=some (some (.agg (qL JS)),37,160):=by kernel_rfl
theorem clone_harts(v:Value)(n:Nat)(xs:List Value)(w:World)(hv:Sl w v 37 n xs)(h1c:∀u∈xs,u.oneCell'=true)(hr:n*160≤140737488355328):
    Calls Tryz.prog 22 #[v] w fun e w'=>(∃v',e=.returned v'∧w'.ownsRow w.heap.size 46 37 v' n xs∧(v'=.slice none 0 0→v=.slice none 0 0))∧Below w.heap.size w w':=by
  obtain⟨hlen,ao,cap,rfl,hnc,hcm,hnone,hat⟩:=hv
  have heq:=fun(W:World) (m c:Nat)=>Lib.run_eql_slice_nil (P:=Tryz.prog) W 23 46 ao m c 0 0 Tryz.underlying23
  unfold maxLen at hcm
  cases ao with
  | none =>
    obtain rfl:cap=0:=hnone rfl
    obtain rfl:n=0:=om
    obtain rfl:xs=[]:=List.eq_nil_of_length_eq_zero (by simpa using hlen)
    clear hnone hat
    go_enter Tryz.func22,Tryz.ntmps22
    go_wp2
    go_ret
    exact⟨⟨_,rfl,World.ownsRow_nil _ _ _ _,by simp⟩,Below.refl _ _⟩
  | some a =>
    obtain⟨i0,hi,hz0,hz1,hz2⟩:=info_parts info_harts
    clear hnone
    have HAT:=lI hat
    have HL:=lI hlen
    have HC:=lI h1c
    clear hat hlen h1c
    go_enter Tryz.func22,Tryz.ntmps22
    go_wp2_with (at_builtin;refine wpList_append_own _ rfl _ _ 23 rfl w.heap.size 46 i0 (.agg (qL JS)) 37 160 Tryz.underlying23 hi hz0 hz1 hz2 rfl zL _ 0 [] rfl ?_ a n cap xs rfl HL.out ?_ HC.out ?_ ?_ ?_ ?_)
    rotate_right
    · intro v' w1 hown hgrow hnil
      go_wp2
      go_ret
      refine⟨⟨_,rfl, ?_, ?_⟩, ?_⟩
      · simpa using hown
      · intro h
        exact(hnil h).elim
      · exact(Below.alloc br (sO _) _).grown hgrow zG xE
    all_goals(first|(unfold maxLen;omega)|omega|(simp;done)|skip)
    · exact jm _ _ _ _ (sO _)
    · intro j u hu
      have hj:j<xs.length:=(List.getElem?_eq_some_iff.1 hu).1
      have hne:xs≠[]:=xY
      have h3:=(HAT.out a rfl hne)
      have h4:=h3.2 j hj
      have hu2:u=xs[j]:=by rw[sZ hj]at hu;exact(Option.some.inj hu).symm
      rw[hu2,JJ a h3.1,sI _ _ _ (qH h4)]
      exact h4
theorem begin_any(vm0 vh0:Value)(m:Mach)(wf:m.Wf)(w:World)(hm:jp w vm0 vh0 m)(h1:1≤m.harts.length)(h4:m.harts.length≤4)(hl:m.mem.length≤4096):
    Calls Tryz.prog 13 #[.agg #[vm0,vh0]] w fun e w'=>(∃bp bh hc vm,e=.returned (.pointer (some ⟨bp,0,none⟩))∧Bd bp bh hc vm (.slice none 0 0) 43 w' (qo m)∧w.heap.size≤bh∧(∀k,vm.ownBlock=some k→w.heap.size≤k))∧Below w.heap.size w w':=by
  have HM:=lI hm
  obtain⟨aom,capm,rfl,hcm,hmm,_,_⟩:=hm.1.open
  obtain⟨aoh,caph,rfl,hch,hmh,_,_⟩:=hm.2.open (fun h hh=>qO (wf.harts h hh)) om
  have HC1:=lI (fun W hW=>clone_bytes (.slice aom m.mem.length capm) m.mem.length (m.mem.map (Value.int .u8)) W hW (by intro u hu;obtain⟨a,_,rfl⟩:=List.mem_map.1 hu;rfl) om)
  have HC2:=lI (fun W hW=>clone_harts (.slice aoh m.harts.length caph) m.harts.length (m.harts.flatMap qJ) W hW (by intro u hu;obtain⟨h,_,hu⟩:=List.mem_flatMap.1 hu;exact ut h u (by simpa[qL]using hu)) om)
  obtain⟨w1,hw1⟩:∃w1,w1=w.alloc (.cells #[.slice aom m.mem.length capm,.slice aoh m.harts.length caph] 25):=⟨_,rfl⟩
  have hb1:Below w.heap.size w w1:=zK
  have hs1:w1.heap.size=w.heap.size+1:=yD
  have c0:w1.cell? ⟨w.heap.size,0,none⟩=some (.slice aom m.mem.length capm):=zA
  have c1:w1.cell? ⟨w.heap.size,1,none⟩=some (.slice aoh m.harts.length caph):=zA
  have l1:w.heap.size<w1.heap.size:=om
  have KP:Hid (∀w',Below w1.heap.size w1 w'→Below w1.heap.size w1 w'∧w'.cell? ⟨w.heap.size,0,none⟩=some (.slice aom m.mem.length capm)∧w'.cell? ⟨w.heap.size,1,none⟩=some (.slice aoh m.harts.length caph)):=
    lI (fun w' h=>⟨h,(h.cell (p:=⟨w.heap.size,0,none⟩) l1).trans c0,(h.cell (p:=⟨w.heap.size,1,none⟩) l1).trans c1⟩)
  have HM1:=lI (HM.out.below hb1)
  have HW1:=lI hw1
  have HB1:=lI hb1
  have HS1:=lI hs1
  clear hm hw1 hb1 hs1 c0 c1 l1
  go_enter Tryz.func13,Tryz.ntmps13
  go_upto_region 1 with(fail)
  rw[←HW1.out]
  go_region_held3 (fun w'=>Below w1.heap.size w1 w'∧w'.cell? ⟨w.heap.size,0,none⟩=some (.slice aom m.mem.length capm)∧w'.cell? ⟨w.heap.size,1,none⟩=some (.slice aoh m.harts.length caph))
    ((refine KP.out _ ?_;(repeat(first|with_reducible exact Below.refl _ _|with_reducible exact hK|with_reducible refine qC ?_ _|with_reducible refine Below.drew ?_|((with_reducible refine Below.alloc ?_ ?hq _);(case hq=>(first|(simp;done)|(simp;omega)|exact hK.size)))))))
    ((first
      |(go_at_call 21;refine(HC1.out _ (HM1.out.1.below ?hB)).mono ?_;(case hB=>(repeat(first|with_reducible exact Below.refl _ _|with_reducible exact hK|with_reducible refine qC ?_ _|with_reducible refine Below.drew ?_)));rintro e wx ⟨⟨vm,rfl,hown1,_⟩,hbm⟩;obtain⟨ax,cx,rfl⟩:=qb hown1;(have HO1:=lI hown1);clear hown1;have hK:Below w1.heap.size w1 wx:=(Below.trans (by(repeat(first|with_reducible exact Below.refl _ _|with_reducible exact hK|with_reducible refine qC ?_ _|with_reducible refine Below.drew ?_))) (hbm.mono (by first|exact hK.size|(simp;done)))))
      |(go_at_call 22;refine(HC2.out _ (HM1.out.2.below ?hB)).mono ?_;(case hB=>(repeat(first|with_reducible exact Below.refl _ _|with_reducible exact hK|with_reducible refine qC ?_ _|with_reducible refine Below.drew ?_)));rintro e wy ⟨⟨vh,rfl,hown2,_⟩,hbh⟩;obtain⟨ay,cy,rfl⟩:=qb hown2;(have HO2:=lI hown2);clear hown2;have hK:Below w1.heap.size w1 wy:=(Below.trans (by(repeat(first|with_reducible exact Below.refl _ _|with_reducible exact hK|with_reducible refine qC ?_ _|with_reducible refine Below.drew ?_))) (hbh.mono (by first|exact hK.size|(simp;done)))))))
  all_goals
    go_wp2_with fail
    go_ret
    have hne:∀k,(Value.slice ax m.mem.length cx).ownBlock=some k→(Value.slice ay m.harts.length cy).ownBlock≠some k:=fun k e1 e2=>by
      have h1:=HO1.out.lt k e1
      have h2:=HO2.out.lt k e2
      omega
    have hs1:=HS1.out
    have h0:w.heap.size≤w1.drew.heap.size:=by show w.heap.size≤w1.heap.size;omega
    first
    | (have o1 := qy HO1.out hbh
       have hz:=hbm.size
       have hK:Below w1.heap.size w1 wy:=(Below.trans (Below.drew br) hbm).trans (hbh.mono hz)
       obtain⟨bh,hc',e,hB2,hbd⟩:=Bd.begin (w:=wy) (tB:=59) (ty:=43) o1 HO2.out hne h1
       exact⟨⟨_,bh,hc',_,rfl,hbd,om,fun k e=>by have:=HO1.out.lt k e;omega⟩,HB1.out.trans ((Below.alloc hK (by have:=hK.size;omega) _).mono om)⟩)
    | (have o2 := qy HO2.out hbm
       have hz:=hbh.size
       have hK:Below w1.heap.size w1 wx:=(Below.trans (Below.drew br) hbh).trans (hbm.mono hz)
       obtain⟨bh,hc',e,hB2,hbd⟩:=Bd.begin (w:=wx) (tB:=59) (ty:=43) HO1.out o2 hne h1
       exact⟨⟨_,bh,hc',_,rfl,hbd,om,fun k e=>by have:=HO1.out.lt k e;omega⟩,HB1.out.trans ((Below.alloc hK (by have:=hK.size;omega) _).mono om)⟩)
theorem box_hart(h:Hart)(w:World)(t:TypeId):At (w.alloc (.cells (qL h) t)) w.heap.size 0 (qJ h):=Qf w (qJ h) t (0,0)
theorem gpmay_any1:(∀(h:Hart) (wf:h.Wf) (w:World),Calls Tryz.prog 20 #[.agg (qL h)] w fun e w'=>e=.returned (.bool h.ok)∧Below w.heap.size w w')∧(∀(h:Hart) (wf:h.Wf) (w:World),Calls Tryz.prog 10 #[.agg (qL h)] w fun e w'=>e=.returned (.bool h.ok)∧Below w.heap.size w w'):=by
 refine⟨fun h wf w=> ?_,fun h wf w=> ?_⟩
 all_goals
  have hb:=box_hart h w 46
  have c0:(w.alloc (.cells (qL h) 46)).cell? ⟨w.heap.size,0,none⟩=some (.int .u32 (h.regs.getD 0 0)):=hb.get (j:=0) (qV wf 0 om)
  have c33:(w.alloc (.cells (qL h) 46)).cell? ⟨w.heap.size,33,none⟩=some (.bool h.held):=by simpa using hb.get (Jk wf)
  have c34:(w.alloc (.cells (qL h) 46)).cell? ⟨w.heap.size,34,none⟩=some (.int .u32 h.heldAt):=by simpa using hb.get (JX wf)
  have c35:(w.alloc (.cells (qL h) 46)).cell? ⟨w.heap.size,35,none⟩=some (.int .i64 h.state):=by simpa using hb.get (JR wf)
  have c36:(w.alloc (.cells (qL h) 46)).cell? ⟨w.heap.size,36,none⟩=some (.int .i64 h.cause):=by simpa using hb.get (hlist_cause wf)
  have HOK:=lI (show h.ok=((h.regs.getD 0 0==0)&&(h.held||h.heldAt==0)&&((h.state==2&&decide (1≤h.cause)&&decide (h.cause≤6))||((h.state==0||h.state==1)&&h.cause==0)))from rfl)
  generalize h.ok=ok at *
  generalize h.regs.getD 0 0=r0 at *
  generalize h.held=hd at *
  generalize h.heldAt=ha at *
  generalize h.state=st at *
  generalize h.cause=ca at *
  clear hb
 · go_enter Tryz.func20,Tryz.ntmps20
   go_wp2
   all_goals go_ret
   all_goals refine⟨QS ?_,by go_grown⟩
   all_goals rw[HOK.out]
   all_goals clear HOK c0 c33 c34 c35 c36
   all_goals(try simp only[beq_iff_eq,sH,ne_eq]at *)
   all_goals first|(simp[*];done)|(simp[*];omega)|(rw[Bool.eq_iff_iff];simp[*];omega)|(simp_all;done)|(simp_all;omega)
 · go_enter Tryz.func10,Tryz.ntmps10
   go_wp2
   all_goals go_ret
   all_goals refine⟨QS ?_,by go_grown⟩
   all_goals rw[HOK.out]
   all_goals clear HOK c0 c33 c34 c35 c36
   all_goals(try simp only[beq_iff_eq,sH,ne_eq]at *)
   all_goals first|(simp[*];done)|(simp[*];omega)|(rw[Bool.eq_iff_iff];simp[*];omega)|(simp_all;done)|(simp_all;omega)
abbrev may_any:=gpmay_any1.1
abbrev may4_any:=gpmay_any1.2
theorem machmay_any(vm vh vs:Value)(m:Mach)(wf:m.Wf)(script:List (Int × Int))(w:World)(hm:jp w vm vh m)(hs:Picks w vs script)(hp:∀p∈script,QW p.1∧QW p.2):
    Calls Tryz.prog 11 #[.agg #[vm,vh],vs] w fun e w'=>e=.returned (.int .i64 (QQ m script))∧Below w.heap.size w w':=by
  obtain⟨aom,capm,rfl,hcm,hmm,_,_⟩:=hm.1.open
  obtain⟨aoh,caph,rfl,hch,hmh,_,hoh⟩:=hm.2.open (fun h hh=>qO (wf.harts h hh)) om
  obtain⟨aos,caps,rfl,hcs,hms,_,hos⟩:=hs.open (fun _ _=>rfl) om
  unfold maxLen at hmm hmh hms
  by_cases c1:4096<m.mem.length
  · have W:QQ m script=2:=by simp[QQ,c1]
    go_enter Tryz.func11,Tryz.ntmps11
    go_wp2
    all_goals go_ret
    all_goals exact⟨by first|rfl|(rw[W];rfl),by go_grown⟩
  by_cases c2:m.harts.length<1
  · have W:QQ m script=2:=by simp[QQ,c2]
    go_enter Tryz.func11,Tryz.ntmps11
    go_wp2
    all_goals go_ret
    all_goals exact⟨by first|rfl|(rw[W];rfl),by go_grown⟩
  by_cases c3:4<m.harts.length
  · have W:QQ m script=2:=by simp[QQ,c3]
    go_enter Tryz.func11,Tryz.ntmps11
    go_wp2
    all_goals go_ret
    all_goals exact⟨by first|rfl|(rw[W];rfl),by go_grown⟩
  go_enter Tryz.func11,Tryz.ntmps11
  go_wp2_with fail
  have hc0:(w.alloc (.cells #[.slice aom m.mem.length capm,.slice aoh m.harts.length caph] 25)).cell? ⟨w.heap.size,1,none⟩=some (.slice aoh m.harts.length caph):=yN
  have hb0:Below w.heap.size w (w.alloc (.cells #[.slice aom m.mem.length capm,.slice aoh m.harts.length caph] 25)):=by go_grown
  have hs0:(w.alloc (.cells #[.slice aom m.mem.length capm,.slice aoh m.harts.length caph] 25)).heap.size=w.heap.size+1:=zG
  generalize w.alloc (.cells #[.slice aom m.mem.length capm,.slice aoh m.harts.length caph] 25)=w1 at *
  have HO:=lI hoh
  have HS:=lI hos
  clear hoh hos
  go_loopw [28] (fun i wr=>∃k:Nat,i=.int .i64 k∧k≤m.harts.length∧Hid (∀j (h:j<m.harts.length),j<k→m.harts[j].ok=true)∧∃w2,wr=w2∧Below w1.heap.size w1 w2) (fun i _=>m.harts.length-(intOf i).toNat)
  case atStart=>exact⟨0,rfl,om,lI (by intro j h hj;omega),_,rfl,Below.refl _ _⟩
  case round=>
    obtain⟨k,rfl,hk,hok,w2,rfl,hbr⟩:=hrel
    have hb2:=hb0.trans (hbr.mono om)
    by_cases hlt:k<m.harts.length
    · obtain⟨b,off,rfl,hbl,hel⟩:=HO.out zR
      have hat:At wr b (off+k*37) (qJ m.harts[k]):=(hel k hlt).below hb2
      clear hel
      have wfk:m.harts[k].Wf:=wf.harts _ (sU hlt)
      have hsz:(Tryz.prog.info? 46).map (·.size)=some (qL m.harts[k]).size:=by rw[jt wfk];kernel_rfl
      have hbox:=box_hart m.harts[k] wr 46
      go_wp2_with (first|(refine qI rfl 46 _ rfl b (off+k*37) rfl (qL m.harts[k]) _ hat Tryz.underlying46 rfl hsz ?_)|(refine Qw rfl 46 _ _ rfl wr _ (qL m.harts[k]) rfl rfl rfl hsz (by rw[jt wfk];rfl) (ut _) ?_)|(refine qI rfl 46 _ rfl wr.heap.size 0 rfl (qL m.harts[k]) _ hbox Tryz.underlying46 rfl hsz ?_))
      refine(may_any m.harts[k] wfk _).mono ?_
      rintro e w3 ⟨rfl,hb3⟩
      have hb4:Below w1.heap.size w1 w3:=hbr.trans (Below.trans (Below.alloc br hbr.size _) (hb3.mono (by simp;have:=hbr.size;omega)))
      cases hko:m.harts[k].ok with
      | false =>
        have W:QQ m script=2:=by
          have:m.harts.any (fun h=> !h.ok)=true:=List.any_eq_true.2 ⟨m.harts[k],sU hlt,by simp[hko]⟩
          simp[QQ,c1,c2,c3,this]
        clear hok HO HS hat hbox hsz hm hs
        go_wp2
        go_ret
        exact⟨by first|rfl|(rw[W];rfl),hb0.trans (hb4.mono om)⟩
      | true =>
        have hok2:Hid (∀j (h:j<m.harts.length),j<k+1→m.harts[j].ok=true):=lI (fun j h hj=>if e:j=k then by subst e;exact hko else hok.out j h om)
        clear hok HO HS hat hbox hsz hm hs
        go_wp2
        go_roundw
        case rel=>exact⟨k+1,by go_num,om,hok2,_,rfl,hb4⟩
        case measure=>simp[intOf];omega
    · have hall:m.harts.any (fun h=> !h.ok)=false:=by
        rw[List.any_eq_false]
        intro h hh
        obtain⟨j,hj,rfl⟩:=List.getElem_of_mem hh
        simp[hok.out j hj om]
      have hkn:k=m.harts.length:=om
      subst hkn
      have hcm1:=(hbr.cell (p:=⟨w.heap.size,1,none⟩) zT).trans hc0
      have hb5:=hb0.trans (hbr.mono om)
      have hsz5:=hbr.size
      clear hok HO hm hc0 hb2
      by_cases c4:300<script.length
      · have W:QQ m script=1:=by simp[QQ,c1,c2,c3,hall,c4]
        clear HS hs
        go_wp2
        go_ret
        exact⟨by first|rfl|(rw[W];rfl),hb5⟩
      go_wp2_with fail
      obtain⟨wo,rfl⟩:∃wo:World,wo=wr:=⟨_,rfl⟩
      have hlt5:w.heap.size<wo.heap.size:=om
      go_loopw [41] (fun i wx=>∃k:Nat,i=.int .i64 k∧k≤script.length∧Hid (∀j (h:j<script.length),j<k→Qp m.harts.length script[j]=false)∧∃w2,wx=w2∧Below wo.heap.size wo w2) (fun i _=>script.length-(intOf i).toNat)
      case atStart=>exact⟨0,rfl,om,lI (by intro j h hj;omega),_,rfl,Below.refl _ _⟩
      case round=>
        obtain⟨k,rfl,hk,hok,wq,hwq,hbq⟩:=hrel
        subst hwq
        have hcq:=(hbq.cell (p:=⟨w.heap.size,1,none⟩) hlt5).trans hcm1
        have hb6:=hb5.trans (hbq.mono hb5.size)
        have hsz6:wo.heap.size≤wr.heap.size:=hbq.size
        have hlt6:w.heap.size<wr.heap.size:=om
        clear hcm1
        by_cases hlt:k<script.length
        · obtain⟨b,off,rfl,hbl,hel⟩:=HS.out zR
          have hat:=(hel k hlt).below hb6
          have d0:=hat.get (j:=0) (v:=.int .i64 script[k].1) rfl
          have d1:=hat.get (j:=1) (v:=.int .i64 script[k].2) rfl
          simp only[sN]at d0
          obtain⟨⟨q1,q2⟩,q3,q4⟩:=hp _ (sU hlt)
          have HB:Hid (Qp m.harts.length script[k]=(decide (script[k].1<0)||decide ((m.harts.length:Int)≤script[k].1)||decide (script[k].2<0)||decide (400<script[k].2))):=lI rfl
          have hok2:Hid (Qp m.harts.length script[k]=false→∀j (h:j<script.length),j<k+1→Qp m.harts.length script[j]=false):=lI (fun hf j h hj=>if e:j=k then by subst e;exact hf else hok.out j h om)
          have W:Hid (Qp m.harts.length script[k]=true→QQ m script=3):=lI (fun hf=>by
            have:script.any (Qp m.harts.length)=true:=List.any_eq_true.2 ⟨script[k],sU hlt,hf⟩
            simp[QQ,c1,c2,c3,hall,c4,this])
          clear hel hok HS hs hp hat
          generalize Qp m.harts.length script[k]=bad at *
          generalize script[k].1=x at *
          generalize script[k].2=y at *
          go_wp2
          all_goals first
            | (go_ret
               refine⟨?_,hb6.trans (by go_grown)⟩
               have hbt:bad=true:=by rw[HB.out];clear HB W;simp[*];try omega
               have hw:=W.out hbt
               first|rfl|(rw[hw];rfl))
            | (go_roundw
               case rel=>
                have hbt:bad=false:=by rw[HB.out];clear HB W;simp;omega
                exact⟨k+1,by go_num,om,lI (hok2.out hbt),_,rfl,hbq.trans (by go_grown)⟩
               case measure=>simp[intOf];omega)
        · have hall2:script.any (Qp m.harts.length)=false:=by
            rw[List.any_eq_false]
            intro h hh
            obtain⟨j,hj,rfl⟩:=List.getElem_of_mem hh
            simp[hok.out j hj om]
          have W:QQ m script=0:=by simp[QQ,c1,c2,c3,hall,c4,hall2]
          clear hok HS hs
          go_wp2
          go_ret
          exact⟨by first|rfl|(rw[W];rfl),hb6⟩
end Go.Proofs.YtlfnddmncbkjaacGreat.W
