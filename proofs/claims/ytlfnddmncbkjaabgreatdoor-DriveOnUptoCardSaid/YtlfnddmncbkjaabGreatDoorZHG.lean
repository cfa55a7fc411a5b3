import Derived.Test.YtlfnddmncbkjaabGreatDoorZGO
set_option linter.unusedVariables false
set_option linter.unusedSimpArgs false
set_option maxRecDepth 100000
set_option maxHeartbeats 4000000
namespace Go.Proofs.YtlfnddmncbkjaabGreatDoor.W
open Go.RowKit Fb
theorem dT{p:Prop}(h:p:=by
 rw[e]
 go_enter Tryz.func98,Tryz.ntmps98
 go_wp2
 go_ret
 exact⟨rfl,rfl⟩):p:=h
theorem fits1_any(k:Int)(mb n c:Nat)(ao:Option Addr)(w:World)(hc:w.cell? ⟨mb,1,none⟩=some (.slice ao n c))(hk:QY k):
    Calls Tryz.prog 98 #[.int .i64 k,.pointer (some ⟨mb,0,none⟩)] w fun e w'=>e=.returned (.bool (decide (0≤k)&&decide (k<(n:Int))))∧w'=w:=by
  obtain⟨h1,h2⟩:=hk
  by_cases c0:0≤k
  · by_cases c1:k<(n:Int)
    · have e:(decide (0≤k)&&decide (k<(n:Int)))=true:=by simp[c0,c1]
      exact dT
    · have e:(decide (0≤k)&&decide (k<(n:Int)))=false:=by simp[c1]
      exact dT
  · have e:(decide (0≤k)&&decide (k<(n:Int)))=false:=by simp[c0]
    exact dT
theorem fits_any(vm vh:Value)(m:Mach)(x:UndD)(w:World)(hm:jw w vm vh m)(hl:Sl w x.vl 2 x.d.lost.length (x.d.lost.flatMap JG))(hb:Sl w x.vb 1 x.d.bytes.length (x.d.bytes.map (Value.int .u8)))(wf:x.d.was.Wf)(hr:QY x.d.hart∧U32 x.d.frm∧jC x.d.bytes∧∀p∈x.d.lost,QY p.1∧U32 p.2)(wfm:∀h∈m.harts,h.Wf):
    Calls Tryz.prog 62 #[.agg #[vm,vh],.agg (QJ x).toArray] w fun e w'=>e=.returned (.bool (uL m x.d))∧Below w.heap.size w w':=by
  obtain⟨aom,capm,rfl,hcm,hmm,_,_⟩:=hm.1.open
  obtain⟨aoh,caph,rfl,hch,hmh,_,_⟩:=hm.2.open (fun h hh=>qG (wfm h hh)) om
  obtain⟨aob,capb,hvb,hcb,hmb,_,_⟩:=Ints.open (l:=x.d.bytes) hb
  obtain⟨aol,capl,hvl,hcl,hml,_,hol⟩:=Sl.open hl (fun _ _=>rfl) om
  unfold maxLen at hmm hmh hmb hml
  obtain⟨w1,hw1⟩:∃w1,w1=(w.alloc (.cells #[.slice aom m.mem.length capm,.slice aoh m.harts.length caph] 30)).alloc (.cells (QJ x).toArray 136):=⟨_,rfl⟩
  have hb1:Below w.heap.size w w1:=by rw[hw1];exact(Below.alloc br (sN _) _).alloc zC _
  have hs1:w1.heap.size=w.heap.size+2:=zO
  have c0:w1.cell? ⟨w.heap.size,0,none⟩=some (.slice aom m.mem.length capm):=zA
  have c1:w1.cell? ⟨w.heap.size,1,none⟩=some (.slice aoh m.harts.length caph):=zA
  have hux:=ulist_at wf.len (show At w1 (w.heap.size+1) 0 (QJ x)from by
    rw[hw1]
    have:=QN (w.alloc (.cells #[.slice aom m.mem.length capm,.slice aoh m.harts.length caph] 30)) (QJ x) 136 (0,0)
    rwa [World.size_alloc]at this)
  simp only[sM]at hux
  obtain⟨x0,x1,x38,x39,x40⟩:=hux
  rw[hvb]at x39
  rw[hvl]at x40
  obtain⟨ll,hll⟩:∃q:Nat,q=x.d.lost.length:=⟨_,rfl⟩
  obtain⟨bl,hbl⟩:∃q:Nat,q=x.d.bytes.length:=⟨_,rfl⟩
  obtain⟨f,hf⟩:∃q:Int,q=x.d.frm:=⟨_,rfl⟩
  obtain⟨k,hk⟩:∃q:Int,q=x.d.hart:=⟨_,rfl⟩
  have hrf:=hr.2.1
  have hrk:=hr.1
  rw[←hf]at hrf x38
  rw[←hk]at hrk x0
  rw[←hll]at x40
  rw[←hbl]at x39 hcb
  have HR:=lI hr.2.2.2
  have HOL:=lI hol
  have HLL:=lI hll
  have HBL:=lI hbl
  have HF:=lI hf
  have HK:=lI hk
  have HW1:=lI hw1
  have HB1:=lI hb1
  have HWF:=lI wf
  have HIS:=lI (fun q W hW hq=>fits1_any q w.heap.size m.harts.length caph aoh W hW hq)
  have HFIT:Hid (uL m x.d=(x.d.lost.all (fun p=>decide (0≤p.1)&&decide (p.1<(m.harts.length:Int)))&&((decide (0≤k)&&decide (k<(m.harts.length:Int)))&&x.d.was.ok&&decide (f+(bl:Int)≤(m.mem.length:Int))))):=lI (by rw[hf,hk,hbl];rfl)
  obtain⟨ft,hft⟩:∃b,b=uL m x.d:=⟨_,rfl⟩
  rw[←hft]at HFIT ⊢
  clear hft hw1 hb1 hf hk hll hbl hm hl hb hr wf hol hvb hvl
  go_enter Tryz.func62,Tryz.ntmps62
  go_upto_region 1 with(fail)
  rw[←HW1.out]
  go_wp2_with fail
  go_loopw [12] (fun i wr=>∃q:Nat,i=.int .i64 q∧q≤ll∧Hid (Below w1.heap.size w1 wr∧(x.d.lost.take q).all (fun p=>decide (0≤p.1)&&decide (p.1<(m.harts.length:Int)))=true)) (fun i _=>ll-(intOf i).toNat)
  case atStart=>exact⟨0,rfl,om,lI ⟨Below.refl _ _,rfl⟩⟩
  case round=>
    obtain⟨q,rfl,hq,HQ⟩:=hrel
    have hsr:=HQ.out.1.size
    by_cases hlq:q<ll
    · have hlq2:q<x.d.lost.length:=by have:=HLL.out;omega
      obtain⟨b,off,rfl,hbl,hel⟩:=HOL.out (by intro e;rw[e]at hlq2;simp at hlq2)
      have hat:At wr b (off+q*2) (JG x.d.lost[q]):=(hel q hlq2).below (HB1.out.trans (HQ.out.1.mono HB1.out.size))
      have d0:=hat.get (j:=0) (v:=.int .i64 x.d.lost[q].1) rfl
      have d1:=hat.get (j:=1) (v:=.int .u32 x.d.lost[q].2) rfl
      simp only[Nat.add_zero]at d0
      have hp:=HR.out _ (sR hlq2)
      have HTK:Hid (x.d.lost.take (q+1)=x.d.lost.take q++[x.d.lost[q]]):=lI (List.take_succ_eq_append_getElem hlq2)
      have HMEM:Hid (x.d.lost[q]∈x.d.lost):=lI (sR hlq2)
      obtain⟨p,hpe⟩:∃p,p=x.d.lost[q]:=⟨_,rfl⟩
      rw[←hpe]at d0 d1 hp HTK HMEM
      clear hpe hat hel
      obtain⟨pj,pa⟩:=p
      simp only at d0 d1 hp
      obtain⟨w2,hw2⟩:∃x,x=wr.alloc (.cells #[.int .i64 pj,.int .u32 pa] 142):=⟨_,rfl⟩
      have hb2:Below wr.heap.size wr w2:=by rw[hw2];exact Below.alloc br (sN _) _
      have e0:w2.cell? ⟨wr.heap.size,0,none⟩=some (.int .i64 pj):=zM
      have HB2:=lI (HQ.out.1.trans (hb2.mono hsr))
      have e1:=(HB2.out.cell (p:=⟨w.heap.size,1,none⟩) zN).trans c1
      have i0:(0:Int)≤(q:Int):=om
      have i1:(q:Int)<(ll:Int):=om
      have HI2:=lI (HIS.out pj w2 e1 hp.1)
      have HW2:=lI hw2
      clear hb2 hw2 e1
      go_upto_region 5 with(fail)
      rw[←HW2.out]
      go_wp2_with fail
      refine HI2.out.mono ?_
      rintro e w3 ⟨rfl,rfl⟩
      cases hd:(decide (0≤pj)&&decide (pj<(m.harts.length:Int)))with
      | true =>
        have HD:=lI hd
        clear hd
        go_wp2_with fail
        go_roundw
        case rel=>exact⟨q+1,by simp,hlq,lI ⟨HB2.out,by rw[HTK.out,List.all_append,HQ.out.2,Bool.true_and];simp only[List.all_cons,List.all_nil,Bool.and_true];exact HD.out⟩⟩
        case measure=>simp[intOf];omega
      | false =>
        have hfalse:ft=false:=by
          rw[HFIT.out]
          have:x.d.lost.all (fun p=>decide (0≤p.1)&&decide (p.1<(m.harts.length:Int)))=false:=by
            rw[List.all_eq_false]
            exact⟨(pj,pa),HMEM.out,by rw[hd];simp⟩
          rw[this,Bool.false_and]
        subst hfalse
        have HD:=lI hd
        clear hd
        go_wp2_with fail
        go_ret
        exact⟨rfl,HB1.out.trans (HB2.out.mono HB1.out.size)⟩
    · obtain rfl:q=ll:=om
      have hall:=HQ.out.2
      rw[show x.d.lost.take q=x.d.lost by rw[HLL.out,List.take_length]]at hall
      have HFI2:Hid (ft=((decide (0≤k)&&decide (k<(m.harts.length:Int)))&&x.d.was.ok&&decide (f+(bl:Int)≤(m.mem.length:Int)))):=lI (by rw[HFIT.out,hall,Bool.true_and])
      have hb3:=HQ.out.1
      have y0:=(hb3.cell (p:=⟨w.heap.size,0,none⟩) zN).trans c0
      have y1:=(hb3.cell (p:=⟨w.heap.size,1,none⟩) zN).trans c1
      have z0:=(hb3.cell (p:=⟨w.heap.size+1,0,none⟩) zV).trans x0
      have z38:=(hb3.cell (p:=⟨w.heap.size+1,38,none⟩) zV).trans x38
      have z39:=(hb3.cell (p:=⟨w.heap.size+1,39,none⟩) zV).trans x39
      have z1:At wr (w.heap.size+1) 1 (qQ x.d.was).toList:=by
        have:=x1.of_lt hb3 om
        simpa[qQ]using this
      have HB3:=lI (HB1.out.trans (hb3.mono HB1.out.size))
      have HMY:=lI (may_any x.d.was HWF.out wr)
      have hszh:(Tryz.prog.info? 43).map (·.size)=some (qQ x.d.was).size:=by rw[Ql HWF.out];kernel_rfl
      have HI3:=lI (HIS.out k wr y1 hrk)
      clear c0 c1 x0 x1 x38 x39 x40 hall hb3 HFIT
      go_wp2_with fail
      refine HI3.out.mono ?_
      rintro e w3 ⟨rfl,rfl⟩
      cases hd:(decide (0≤k)&&decide (k<(m.harts.length:Int)))with
      | false =>
        have hfalse:ft=false:=by rw[HFI2.out,hd,Bool.false_and,Bool.false_and]
        subst hfalse
        clear hd
        go_wp2_with fail
        go_ret
        exact⟨rfl,HB3.out⟩
      | true =>
        have HFI3:Hid (ft=(x.d.was.ok&&decide (f+(bl:Int)≤(m.mem.length:Int)))):=lI (by rw[HFI2.out,hd,Bool.true_and])
        clear hd HFI2
        go_wp2_with (first|(refine wpList_load_g zK 43 _ rfl (w.heap.size+1) 1 rfl (qQ x.d.was) _ z1 Tryz.underlying43 rfl hszh ?_))
        refine HMY.out.mono ?_
        rintro e w4 ⟨rfl,hb4⟩
        have u0:=(hb4.cell (p:=⟨w.heap.size,0,none⟩) (qD y0)).trans y0
        have u38:=(hb4.cell (p:=⟨w.heap.size+1,38,none⟩) (qD z38)).trans z38
        have u39:=(hb4.cell (p:=⟨w.heap.size+1,39,none⟩) (qD z39)).trans z39
        have HB4:=lI (HB3.out.trans (hb4.mono HB3.out.size))
        clear hb4 y0 y1 z0 z38 z39 z1
        cases hok:x.d.was.ok with
        | false =>
          have hfalse:ft=false:=by rw[HFI3.out,hok,Bool.false_and]
          subst hfalse
          clear hok
          go_wp2_with fail
          go_ret
          exact⟨rfl,HB4.out⟩
        | true =>
          have HFI4:Hid (ft=decide (f+(bl:Int)≤(m.mem.length:Int))):=lI (by rw[HFI3.out,hok,Bool.true_and])
          clear hok HFI3
          have v1:IntKind.u64.wrap f=f:=by
            have:=hrf.1
            have:=hrf.2
            simp[IntKind.wrap,IntKind.bits,IntKind.signed];omega
          have v2:IntKind.u64.wrap (f+(bl:Int))=f+(bl:Int):=by
            have:=hrf.1
            have:=hrf.2
            simp[IntKind.wrap,IntKind.bits,IntKind.signed];omega
          have HV:=lI (And.intro v1 v2)
          clear v1 v2
          go_wp2_with fail
          go_ret
          refine⟨?_,HB4.out⟩
          rw[HFI4.out,←HV.out.2]
          conv=>rhs;rw[←HV.out.1]
          rfl
open Go.RowKit Go.Shelf Fb
attribute [local go_sem] Oper.semAt_some
def UOk(m:Mach)(w0:World)(x:UndD):Prop:=x.d.was.Wf∧Sl w0 x.vb 1 x.d.bytes.length (x.d.bytes.map (Value.int .u8))∧Sl w0 x.vl 2 x.d.lost.length (x.d.lost.flatMap JG)∧(QY x.d.hart∧U32 x.d.frm∧jC x.d.bytes∧∀p∈x.d.lost,QY p.1∧U32 p.2)∧uL m x.d=true
abbrev UA (m:Mach) (w0:World):={p:Nat × UndD // UOk m w0 p.2}
def uenc{m:Mach}{w0:World}(p:UA m w0):Array Value:=#[.int .i64 (p.1.1:Int),.agg (QJ p.1.2).toArray]
def UKp(n₀ Bs:Nat)(A B:World):Prop:=Below n₀ A B∧∀v,A.cell? ⟨Bs,0,none⟩=some v→B.cell? ⟨Bs,0,none⟩=some v
theorem back1_in(n:Nat)(hn:1≤n)(l Bs n₀:Nat)(ab:Option Addr)(cap:Nat)(m:Mach)(w0:World)(xs:List UndD)(hxs:∀x∈xs,UOk m w0 x)(hl:xs.length≤140737488355328)(J Jx:List (UA m w0)→World→Prop)
    (hY:∀pre x W,J pre W→pre.length<xs.length→YieldAt Fence.wide (n-1) Tryz.prog l (uenc x) W fun e W'=>
      (e=.returned (.bool true)∧J (pre++[x]) W'∧UKp n₀ Bs W W')∨(e=.returned (.bool false)∧Jx (pre++[x]) W'))
    (W:World) (hBs:W.cell? ⟨Bs,0,none⟩=some (.slice ab xs.length cap)) (hat:xs≠[]→∃b off,ab=some ⟨b,off,none⟩∧b<n₀∧∀k (h:k<xs.length),At W b (off+k*41) (QJ xs[k])) (hn0:n₀≤W.heap.size) (h0:J [] W):
    CallsIn Fence.wide n Tryz.prog 99 #[.func (.yield l) #[] #[],.pointer (some ⟨Bs,0,none⟩)] W fun e W'=>(∃v,e=.returned v)∧
      ((∃ys:List (UA m w0),ys.map (·.1.2)=xs.reverse∧J ys W')∨(∃pre,True∧Jx pre W')):=by
  refine callsIn_of_wp Tryz.func99 rfl trivial ?_ rfl
  simp only[Tryz.ntmps99,List.size_toArray,List.length_cons,List.length_nil,Nat.reduceAdd,Nat.reduceSub,Array.replicate_succ,Array.replicate_zero,List.push_toArray,List.append_toArray,List.nil_append,List.cons_append]
  gi_wp2
  gi_loopw [3] (fun i wr=>∃(k:Nat) (pre:List (UA m w0)),k≤xs.length∧i=.int .i64 ((xs.length:Int)-1-(k:Int))∧pre.length=k∧Hid (pre.map (·.1.2)=xs.reverse.take k∧J pre wr∧UKp n₀ Bs W wr))
    (fun i _=>(intOf i+1).toNat)
  case atStart=>exact⟨0,[],Nat.zero_le _,by simp,rfl,lI ⟨rfl,h0,Below.refl _ _,fun _ h=>h⟩⟩
  case round=>
    obtain⟨k,pre,hk,hi,hpl,HR⟩:=hrel
    have hbs:=HR.out.2.2.2 _ hBs
    by_cases hlt:k<xs.length
    · obtain⟨q,hq⟩:=sQ (show 0≤(xs.length:Int)-1-(k:Int) by omega)
      rw[hq]at hi
      subst hi
      have hql:q<xs.length:=om
      obtain⟨b,off,rfl,hb,hel⟩:=hat zQ
      have hatx:At wr b (off+q*41) (QJ xs[q]).toArray.toList:=(hel q hql).of_lt HR.out.2.2.1 hb
      have hx:=hxs xs[q] (sR hql)
      have HTK:Hid (xs.reverse.take (k+1)=xs.reverse.take k++[xs[q]]):=lI (by
        rw[List.take_succ_eq_append_getElem (by rw[List.length_reverse];exact hlt),List.getElem_reverse]
        congr 2
        congr 1
        omega)
      obtain⟨x,hxe⟩:∃x,x=xs[q]:=⟨_,rfl⟩
      rw[←hxe]at hatx hx HTK
      obtain⟨fn,tmps,assign,body,hy,hR⟩:=hY pre ⟨(q,x),hx⟩ wr HR.out.2.1 om
      have hx41:(QJ x).toArray.size=41:=by rw[List.size_toArray,uT hx.1.len]
      have hszx:(Tryz.prog.info? 136).map (·.size)=some (QJ x).toArray.size:=by rw[hx41];kernel_rfl
      dsimp only[uenc]at hy
      have i0:(0:Int)≤(q:Int):=om
      have i1:(q:Int)<(xs.length:Int):=om
      have HQ:=lI hq
      clear hel hq hxe hat
      gi_wp2_with (first|(refine wpListIn_load_at0 rfl 136 _ rfl b (off+q*41) rfl (QJ x).toArray _ hatx Tryz.underlying136 rfl hszx ?_))
      refine hR.mono ?_
      rintro e W3 (⟨rfl,hJ3,hk3⟩|⟨rfl,hJx3⟩)
      · gi_wp2
        go_roundw
        case rel=>exact⟨k+1,pre++[⟨(q,x),hx⟩],hlt,by have:=HQ.out;congr 1;omega,by simp[hpl],lI ⟨by rw[List.map_append,HR.out.1,HTK.out];rfl,hJ3,HR.out.2.2.1.trans hk3.1,fun v h=>hk3.2 v (HR.out.2.2.2 v h)⟩⟩
        case measure=>(simp[intOf])<;>omega
      · gi_wp2
        refine sO (results_none rfl _ _ _) rfl ?_
        exact⟨⟨_,rfl⟩,.inr ⟨_,trivial,hJx3⟩⟩
    · obtain rfl:k=xs.length:=om
      have hi2:u3=.int .i64 (-1):=by rw[hi];congr 1;omega
      subst hi2
      have HP:=lI (show pre.map (·.1.2)=xs.reverse by rw[HR.out.1,←List.length_reverse,List.take_length])
      clear hi
      gi_wp2
      go_end0
      exact⟨⟨_,rfl⟩,.inl ⟨_,HP.out,HR.out.2.1⟩⟩
theorem backward_any(a:Option Addr)(len cap:Nat)(w:World):
    Calls Tryz.prog 63 #[.slice a len cap] w fun e w'=>e=.returned (.func (.func 99) #[] #[.pointer (some ⟨w.heap.size,0,none⟩)])∧w'=w.alloc (.cells #[.slice a len cap] 32):=by
  go_enter Tryz.func63,Tryz.ntmps63
  go_wp2
  go_ret
  exact⟨rfl,rfl⟩
theorem back_stops(n:Nat)(hn:1≤n)(Bs n₀:Nat)(ab:Option Addr)(cap:Nat)(m:Mach)(w0:World)(xs:List UndD)(hxs:∀x∈xs,UOk m w0 x)(hl:xs.length≤140737488355328)(w:World)(hBl:Bs<w.heap.size)(hn0:n₀≤w.heap.size)
    (hBs:w.cell? ⟨Bs,0,none⟩=some (.slice ab xs.length cap)) (hat:xs≠[]→∃b off,ab=some ⟨b,off,none⟩∧b<n₀∧∀k (h:k<xs.length),At w b (off+k*41) (QJ xs[k])):
    SeqStopsK Fence.wide n Tryz.prog 99 #[.pointer (some ⟨Bs,0,none⟩)] (uenc (m:=m) (w0:=w0)) (UKp n₀ Bs) (fun ys=>ys.map (·.1.2)=xs.reverse) (fun _=>True) xs.length w:=fun l J Jx W hW _ _ hY h0=>
  back1_in n hn l Bs n₀ ab cap m w0 xs hxs hl J Jx hY W ((hW.cell hBl).trans hBs) (fun hne=>by
    obtain⟨b,off,h1,h2,h3⟩:=hat hne
    exact⟨b,off,h1,h2,fun k h=>(h3 k h).of_lt hW om⟩) (Nat.le_trans hn0 hW.size) h0
theorem ukp_t{n₀ Bs:Nat}{A B C:World}(h:UKp n₀ Bs A B)(k:UKp n₀ Bs B C):UKp n₀ Bs A C:=⟨h.1.trans k.1,fun v e=>k.2 v (h.2 v e)⟩
theorem ukp_b{n₀ Bs:Nat}{w:World}(hn:n₀≤w.heap.size)(W:World)(l:Nat)(o o':Obj)(hl:w.heap.size≤l)(h:W.heap[l]? =some o)(hc:o.isCells=false)(hw:o.isWalk=false):UKp n₀ Bs W (W.putObj l o'):=
  ⟨belowK_b hn W l o o' hl h hc hw,fun v e=>cell_kept e (grownBy_putObj' W l o') (fun r e2=>by cases e2;exact⟨o,h,hc⟩)⟩
end Go.Proofs.YtlfnddmncbkjaabGreatDoor.W
namespace Go.Proofs.YtlfnddmncbkjaabGreatDoor.Fb
open Go.RowKit
theorem Beg.cells{B bh hc:Nat}{tb th:TypeId}{vm:Value}{w:World}(h:Beg B tb th bh hc vm w){q:Nat}(hq:q=bh∨vm.ownBlock=some q):∃cs t f,w.heap[q]? =some (.cells cs t f):=by
  obtain⟨wb,nm,nh,ms,hs',h1,h2,h3⟩:=h
  have h4:=h3 q hq
  rcases hq with rfl|e
  · obtain⟨cs,f,e2⟩:=Qj h2 rfl
    obtain⟨cs',e3,-⟩:=h4 cs _ f e2
    exact⟨cs',_,_,e3⟩
  · obtain⟨cs,f,e2⟩:=Qj h1 e
    obtain⟨cs',e3,-⟩:=h4 cs _ f e2
    exact⟨cs',_,_,e3⟩
theorem UJ(b k:Nat):∀(vs:List Value) (o:Nat) (w:World),QH (w.setCells b o vs).heap[k]? w.heap[k]?
  |[],_,_=>QH.refl _
  |v::r,o,w=>(UJ b k r (o+1) (w.setCell ⟨b,o,none⟩ v)).trans (Qd w ⟨b,o,none⟩ v k)
end Go.Proofs.YtlfnddmncbkjaabGreatDoor.Fb
namespace Go.Proofs.YtlfnddmncbkjaabGreatDoor.W
open Go.RowKit Go.Shelf Fb
attribute [local go_sem] Oper.semAt_some
structure BI (B nb bh hc Bs:Nat) (vm:Value) (w0 W:World) (m mc:Mach):Prop where
  c0:W.cell? ⟨nb,0,none⟩=some vm
  c1:W.cell? ⟨nb,1,none⟩=some (.slice (some ⟨bh,0,none⟩) mc.harts.length hc)
  harts:At W bh 0 (mc.harts.flatMap qJ)
  hfz:∀o,W.frozen? ⟨bh,o,none⟩=false
  bytes:Ints .u8 W vm mc.mem
  mfz:mc.mem≠[]→∀q,vm.ownBlock=some q→(B≤q∧q≠nb∧q≠bh∧q≠Bs)∧∀o,W.frozen? ⟨q,o,none⟩=false
  geo:B≤bh∧B≤nb∧nb≠bh∧Bs≠bh∧Bs≠nb
  hlt:bh<W.heap.size
  len1:mc.harts.length=m.harts.length∧1≤m.harts.length∧m.harts.length≤4
  len2:mc.mem.length=m.mem.length∧m.mem.length≤4096
  wf:mc.Wf
  hcap:mc.harts.length≤hc∧hc≤maxLen
  bel:Below B w0 W
  beg:Beg B 5 43 bh hc vm W
theorem BI.keep{B nb bh hc Bs:Nat}{vm:Value}{w0 W C:World}{m mc:Mach}(h:BI B nb bh hc Bs vm w0 W m mc)(hk:∀q,(q=nb∨q=bh∨vm.ownBlock=some q)→C.heap[q]? =W.heap[q]?)(hs:W.heap.size≤C.heap.size)(hb:Below B w0 C):BI B nb bh hc Bs vm w0 C m mc:=
  ⟨(qA (hk nb (.inl rfl)) _).trans h.c0, (qA (hk nb (.inl rfl)) _).trans h.c1, fun j hj => (qA (hk bh (.inr (.inl rfl))) _).trans (h.harts j hj), fun o => (qK (hk bh (.inr (.inl rfl))) o).trans (h.hfz o), jI h.bytes (fun hne q e => hk q (.inr (.inr e))),
    fun hne q e=>⟨(h.mfz hne q e).1,fun o=>(qK (hk q (.inr (.inr e))) o).trans ((h.mfz hne q e).2 o)⟩,h.geo,Nat.lt_of_lt_of_le h.hlt hs,h.len1,h.len2,h.wf,h.hcap,hb,h.beg.on (fun q hq=>QH.of_eq (hk q (.inr hq)))⟩
theorem BI.ne{B nb bh hc Bs:Nat}{vm:Value}{w0 W:World}{m mc:Mach}(h:BI B nb bh hc Bs vm w0 W m mc):mc.harts.flatMap qJ≠[]:=by
  have h1:=h.len1
  cases e:mc.harts with
  |nil=>rw[e]at h1;simp at h1;omega
  | cons x r =>
    intro e2
    have:=congrArg List.length e2
    rw[List.flatMap_cons,sW,qG (h.wf.harts x (by rw[e];simp))]at this
    simp at this
theorem BI.own{B nb bh hc Bs B':Nat}{vm:Value}{w0 A C:World}{m mc:Mach}{row:Option Nat}(h:BI B nb bh hc Bs vm w0 A m mc)(hB:B≤B')(hg:A.grownBy C row)(hr:∀r,row=some r→B'≤r∧∃o:Obj,A.heap[r]? =some o∧o.isCells=false):BI B nb bh hc Bs vm w0 C m mc:=by
  have hr2:=fun r e=>(hr r e).2
  refine h.keep (fun q hq=> ?_) hg.size (h.bel.grown hg (by have:=h.hlt;have:=h.geo;omega) (fun k e=>Nat.le_trans hB (hr k e).1))
  rcases hq with rfl|rfl|e
  · exact heap_kept h.c0 hg hr2
  · exact heap_kept (h.harts 0 (List.length_pos_iff.2 h.ne)) hg hr2
  · obtain⟨cs,t,f,e2⟩:=h.beg.cells (.inr e)
    exact hg.block q (qR e2) (fun e3=>by
      obtain⟨o,e4,e5⟩:=hr2 q e3.symm
      rw[e2]at e4
      cases e4
      cases e5)
theorem JL{b o:Nat}:∀(vs:List Value) (i:Nat),(o<i∨i+vs.length≤o)→∀(W:World),(W.setCells b i vs).cell? ⟨b,o,none⟩=W.cell? ⟨b,o,none⟩
  |[],_,_,_=>rfl
  | v :: r, i, h, W => by
    rw[List.length_cons]at h
    show((W.setCell ⟨b,i,none⟩ v).setCells b (i+1) r).cell? _=_
    rw[JL r (i+1) om _]
    exact sJ _ _ _ _ zD
theorem BI.hartTo{B nb bh hc Bs:Nat}{vm:Value}{w0 W C:World}{m mc:Mach}(h:BI B nb bh hc Bs vm w0 W m mc){k:Nat}{x:Hart}(hx:x.Wf)(hk:∀q,q≠bh→C.heap[q]? =W.heap[q]?)(hs:C.heap.size=W.heap.size)(hat:At C bh (k*37) (qJ x))(hc':∀o,(o<k*37∨k*37+37≤o)→C.cell? ⟨bh,o,none⟩=W.cell? ⟨bh,o,none⟩)(hf:∀o,C.frozen? ⟨bh,o,none⟩=false)(hsh:QH C.heap[bh]? W.heap[bh]?)(hb:Below B w0 C):
    BI B nb bh hc Bs vm w0 C m {mc with harts:=mc.harts.set k x}:=by
  obtain⟨g1,g2,g3,g4,g5⟩:=h.geo
  have hnb:=hk nb g3
  refine⟨(qA hnb _).trans h.c0,by show _=some (Value.slice _ (mc.harts.set k x).length hc);rw[List.length_set];exact(qA hnb _).trans h.c1,jn h.harts (fun y hy=>qG (h.wf.harts y hy)) (qG hx) hat hc',hf,jI h.bytes (fun hne q e=>hk q (h.mfz hne q e).1.2.2.1),
    fun hne q e=>⟨(h.mfz hne q e).1,fun o=>(qK (hk q (h.mfz hne q e).1.2.2.1) o).trans ((h.mfz hne q e).2 o)⟩,h.geo,by rw[hs];exact h.hlt,by show(mc.harts.set k x).length=_∧_;rw[List.length_set];exact h.len1,h.len2,⟨h.wf.mem,fun y hy=> ?_⟩,by show(mc.harts.set k x).length≤_∧_;rw[List.length_set];exact h.hcap,hb,h.beg.on (fun q _=>by
    by_cases e:q=bh
    · subst e;exact hsh
    · exact QH.of_eq (hk q e))⟩
  rcases List.mem_or_eq_of_mem_set hy with hy|rfl
  · exact h.wf.harts y hy
  · exact hx
theorem BI.hart{B nb bh hc Bs:Nat}{vm:Value}{w0 W:World}{m mc:Mach}(h:BI B nb bh hc Bs vm w0 W m mc){k:Nat}{x:Hart}(hx:x.Wf)(hk:k<mc.harts.length):
    BI B nb bh hc Bs vm w0 (W.setCells bh (k*37) (qQ x).toList) m {mc with harts:=mc.harts.set k x}∧W.there bh (k*37) (qQ x).size:=by
  have hat0:=jc h.harts (fun y hy=>qG (h.wf.harts y hy)) hk
  have hl:(qJ mc.harts[k]).length=37:=qG (h.wf.harts _ (sR hk))
  have hth:W.there bh (k*37) 37:=there_at hat0 hl h.hfz
  have h37:(qQ x).toList.length=37:=by simp[qQ,qG hx]
  have hz:(qQ x).size=37:=Ql hx
  refine⟨h.hartTo hx (fun q hq=>qT hq _ _ _) (QK _ _ _ _) ?_ (fun o ho=> ?_) (fun o=>by rw[World.frozen?_setCells];exact h.hfz o) (UJ _ _ _ _ _) (qL h.geo.1 _ _ _ h.bel),by rw[hz];exact hth⟩
  · have:=qv (w:=W) (b:=bh) (o:=k*37) (vs:=(qQ x).toList) (by rw[h37];exact hth)
    simpa[qQ]using this
  · exact JL (qQ x).toList _ (by rw[h37];exact ho) W
theorem BI.reset{B nb bh hc Bs:Nat}{vm:Value}{w0 W:World}{m mc:Mach}(h:BI B nb bh hc Bs vm w0 W m mc){k:Nat}{a:Int}(ha:U32 a)(hk:k<mc.harts.length):
    BI B nb bh hc Bs vm w0 ((W.setCell ⟨bh,k*37+33,none⟩ (.bool true)).setCell ⟨bh,k*37+34,none⟩ (.int .u32 a)) m {mc with harts:=reset1 ((k:Int),a) mc.harts}:=by
  have hat0:=jc h.harts (fun y hy=>qG (h.wf.harts y hy)) hk
  have wf:=h.wf.harts _ (sR hk)
  have hl:(qJ mc.harts[k]).length=37:=qG wf
  have e:reset1 ((k:Int),a) mc.harts=mc.harts.set k {mc.harts[k]with held:=true,heldAt:=a}:=by
    unfold reset1
    simp only[sV]
    rw[List.getD_eq_getElem?_getD,sU hk]
    rfl
  rw[e]
  refine h.hartTo ⟨wf.len,wf.regs,wf.pc,ha,wf.state,wf.cause⟩ (fun q hq=>(sT _ _ _ _ (by show q≠bh;exact hq)).trans (sT _ _ _ _ (by show q≠bh;exact hq))) (by simp[World.setCell]) ?_ (fun o ho=> ?_) (fun o=>(sL _ _ _ _).trans ((sL _ _ _ _).trans (h.hfz o))) ((Qd _ _ _ _).trans (Qd _ _ _ _)) ((h.bel.setCell (p:=⟨bh,k*37+33,none⟩) h.geo.1 _).setCell (p:=⟨bh,k*37+34,none⟩) h.geo.1 _)
  · have h1:=(hat0.set 33 om (.bool true)).set 34 (by rw[List.length_set];omega) (.int .u32 a)
    rw[←jX wf.len,←Qv (h:={mc.harts[k]with held:=true}) wf.len]at h1
    exact h1
  · exact(sJ _ _ _ _ zD).trans (sJ _ _ _ _ zD)
theorem BI.copy{B nb bh hc Bs mb off cap:Nat}{w0 W:World}{m mc:Mach}(h:BI B nb bh hc Bs (.slice (some ⟨mb,off,none⟩) mc.mem.length cap) w0 W m mc){f:Int}{bs:List Int}(h0:0≤f)(hf:f+bs.length≤mc.mem.length)(hbs:jC bs)(hne:bs≠[]):
    BI B nb bh hc Bs (.slice (some ⟨mb,off,none⟩) mc.mem.length cap) w0 (W.setCells mb (off+f.toNat) (bs.map (Value.int .u8))) m {mc with mem:=Je mc.mem f bs}∧(∀j,j<bs.length→(W.cell? ⟨mb,off+f.toNat+j,none⟩).isSome=true)∧∀o,W.frozen? ⟨mb,o,none⟩=false:=by
  have hl:0<bs.length:=List.length_pos_iff.2 hne
  have hm:mc.mem≠[]:=by intro e;rw[e]at hf;simp at hf;omega
  obtain⟨⟨q1,q2,q3,q4⟩,q5⟩:=h.mfz hm mb rfl
  obtain⟨n1,ao,c',e1,n2,n3,n4,n5⟩:=h.bytes
  injection e1 with e2 e3 e4
  subst e2 e4
  have hat:=(n5 _ rfl (by intro e;exact hm (List.map_eq_nil_iff.1 e))).2
  simp only at hat
  have hpl:=patch_len h0 hf
  obtain⟨k,rfl⟩:=sQ h0
  have hk:k+bs.length≤mc.mem.length:=om
  rw[sV]
  have hcl:∀j,j<bs.length→(W.cell? ⟨mb,off+k+j,none⟩).isSome=true:=fun j hj=>by
    rw[Nat.add_assoc,hat (k+j) yR];rfl
  have hth:W.there mb (off+k) (bs.map (Value.int .u8)).length:=fun j hj=>⟨hcl j (by rw[sX]at hj;exact hj),q5 _⟩
  have hout:∀o,(o<off+k∨off+k+bs.length≤o)→(W.setCells mb (off+k) (bs.map (Value.int .u8))).cell? ⟨mb,o,none⟩=W.cell? ⟨mb,o,none⟩:=fun o ho=>JL _ _ (by rw[sX];exact ho) W
  have hmid:At (W.setCells mb (off+k) (bs.map (Value.int .u8))) mb (off+k) (bs.map (Value.int .u8)):=qv hth
  have hbk:∀q,q≠mb→(W.setCells mb (off+k) (bs.map (Value.int .u8))).heap[q]? =W.heap[q]? :=fun q hq=>qT hq _ _ _
  have hnew:At (W.setCells mb (off+k) (bs.map (Value.int .u8))) mb off ((Je mc.mem (k:Int) bs).map (Value.int .u8)):=by
    unfold Je
    rw[sV,List.map_append,List.map_append]
    have htk:(mc.mem.take k).length=k:=by rw[List.length_take];omega
    refine At.append (At.append (fun j hj=> ?_) ?_) (fun j hj=> ?_)
    · rw[sX,htk]at hj
      rw[hout _ om,hat j yR]
      simp
    · rw[sX,htk];exact hmid
    · rw[sW,sX,sX,htk]
      rw[sX,List.length_drop]at hj
      rw[hout _ om,show off+(k+bs.length)+j=off+(k+bs.length+j) by omega,hat _ yR]
      simp
  refine⟨⟨(qA (hbk nb (Ne.symm q2)) _).trans h.c0,(qA (hbk nb (Ne.symm q2)) _).trans h.c1,fun j hj=>(qA (hbk bh (Ne.symm q3)) _).trans (h.harts j hj),fun o=>(qK (hbk bh (Ne.symm q3)) o).trans (h.hfz o), ?_,fun _ q e=> ?_,h.geo,by rw[QK];exact h.hlt,h.len1,⟨hpl.trans h.len2.1,h.len2.2⟩,⟨?_,h.wf.harts⟩,h.hcap,qL q1 _ _ _ h.bel,h.beg.on (fun q _=>UJ _ _ _ _ _)⟩,hcl,q5⟩
  · refine⟨by simp,_,cap,by rw[hpl],by rw[hpl];exact n2,n3,xH,fun a ha _=> ?_⟩
    cases ha
    exact⟨rfl,hnew⟩
  · obtain rfl:mb=q:=by cases e;rfl
    exact⟨⟨q1,q2,q3,q4⟩,fun o=>by rw[World.frozen?_setCells];exact q5 o⟩
  · intro x hx
    unfold Je at hx
    rcases List.mem_append.1 hx with hx|hx
    · rcases List.mem_append.1 hx with hx|hx
      · exact h.wf.mem x (List.mem_of_mem_take hx)
      · exact hbs x hx
    · exact h.wf.mem x (List.mem_of_mem_drop hx)
end Go.Proofs.YtlfnddmncbkjaabGreatDoor.W
