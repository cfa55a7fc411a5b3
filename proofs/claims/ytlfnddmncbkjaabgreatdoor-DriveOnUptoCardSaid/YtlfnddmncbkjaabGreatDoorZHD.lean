import Derived.Test.YtlfnddmncbkjaabGreatDoorZWRun8e
set_option linter.unusedVariables false
set_option linter.unusedSimpArgs false
set_option maxRecDepth 100000
set_option maxHeartbeats 4000000
namespace Go.Proofs.YtlfnddmncbkjaabGreatDoor.Fb
open Go.RowKit
theorem call_steps(d:RunD):d.call.steps=d.steps:=by
  unfold RunD.call
  repeat' (refine uG (P:=fun x:RunD=>x.steps=d.steps) (fun _=> ?_) (fun _=> ?_))
  all_goals rfl
theorem atom_steps(d:RunD)(op:Int)(kd ka kb:Nat):(d.atom op kd ka kb).steps=d.steps:=by
  unfold RunD.atom
  repeat' (refine uG (P:=fun x:RunD=>x.steps=d.steps) (fun _=> ?_) (fun _=> ?_))
  all_goals first
    |rfl
    |exact(put_same _ _ _).1
theorem one_left(d:RunD)(m:MicD)(st:Int)(h:0≤st-d.steps):0≤st-(d.one m st).steps:=by
  by_cases c:m.op=1
  · by_cases q:d.steps=st
    · have e:d.one m st=d.stop m.n:=by unfold RunD.one;rw[if_pos c,if_pos (by simp[q])]
      rw[e];exact h
    · have:=(r7near_one d m st).s1
      omega
  · have e:(d.one m st).steps=d.steps:=by
      unfold RunD.one
      rw[if_neg c]
      repeat' (refine uG (P:=fun x:RunD=>x.steps=d.steps) (fun _=> ?_) (fun _=> ?_))
      all_goals first
        |rfl
        |exact(put_same _ _ _).1
        |exact call_steps d
        |exact atom_steps d _ _ _ _
    rw[e];exact h
def RunD.begin(d:RunD):RunD:={d with here:=d.h.pc}
end Go.Proofs.YtlfnddmncbkjaabGreatDoor.Fb
namespace Go.Proofs.YtlfnddmncbkjaabGreatDoor.W
open Go.RowKit Fb
section
variable {rp cp hb po : Nat} {vm : Value} {w : World} {d : RunD} {vs : Value} {steps fr tw : Int}
theorem do8_any(h:R8 rp cp hb po vm 40 165 170 w d vs steps fr tw)(vc:Value)(code:List MicD)(hc:Sl w vc 5 code.length (code.flatMap jo))(hfar:∀b off n c,vc=.slice (some ⟨b,off,none⟩) n c→code≠[]→b<w.heap.size∧b≠hb∧vm.ownBlock≠some b∧(b<cp∨(cp<b∧b<rp∧∀cs f,w.heap[b]? ≠some (.cells cs 40 f))))(hmay:mayL code=true)(hok:∀x∈code,x.Ok)
    (hst:QY steps) (hds:0≤d.steps∧d.steps≤50000) (hle:0≤steps-d.steps) (hsl:d.stores.length≤50000) (hol:d.out.length≤50000) (hov:d.over=false) (d':RunD) (hd':d'=(runL steps code d.begin).fin):
    Calls Tryz.prog 88 #[.pointer (some ⟨rp,0,none⟩),vc] w fun e w'=>e=.returned (.tuple #[])∧∃vs',R8 rp cp hb po vm 40 165 170 w' d' vs' steps 0 0∧G8 rp 40 cp hb po vm w w':=by
  obtain⟨ac,cc,rfl,hcc,hcm,-,ho⟩:=hc.open (fun _ _=>rfl) om
  unfold maxLen at hcm
  have hcl:code.length≤200:=by unfold mayL at hmay;rw[Bool.and_eq_true,decide_eq_true_eq]at hmay;exact hmay.1
  have HO:=lI ho
  have HFAR:=lI hfar
  have HMAY:=lI hmay
  have HOK:=lI hok
  have HC:=lI hc
  have g0:=h.at_.get (QO 0 om)
  have g10:=h.at_.get (Jb h.wf.tlen 0)
  have p0:w.cell? ⟨cp,0,none⟩=some (.pointer (some ⟨hb,po,none⟩)):=h.core.ptr
  have p3:w.cell? ⟨cp,3,none⟩=some (.int .u32 fr):=h.core.fr
  have p4:w.cell? ⟨cp,4,none⟩=some (.int .u32 tw):=h.core.tw
  have hpc:=h.core.hart.get (QM h.wf.h)
  have f3:=h.core.frz 3
  have f4:=h.core.frz 4
  have f10:=h.frz 10
  have hlt:=h.rlt
  have hcr:=h.lt
  have hhc:=h.core.hbl
  have hne1:hb≠cp:=om
  have hne2:hb≠rp:=om
  have hne3:cp≠rp:=om
  simp only[sM,Nat.reduceAdd]at g0 g10 hpc
  obtain⟨pc,hpcd⟩:∃pc,pc=d.h.pc:=⟨_,rfl⟩
  have hpc':w.cell? ⟨hb,po+32,none⟩=some (.int .u32 pc):=by rw[hpcd];exact hpc
  have HB:=lI (fun n=>by
    have H1:=(h.below (w':=w.drewN n) (qB br _)).setFrTo tyR tyS
    have H2:=H1.1.setCell (d':=d.begin) tyR 10 om (.int .u32 pc) (r8_setEnd (d:=d) (d':=d.begin) (j:=0) h.wf.tlen rfl rfl rfl rfl (by rw[hpcd];rfl)) rfl rfl rfl rfl {h.wf with here:=h.wf.h.pc}
    exact And.intro H2 (((G8.below (rp:=rp) (TU:=40) (cp:=cp) (hb:=hb) (po:=po) (vm:=vm) (qB (Below.refl _ w) n) h.clt).trans H1.2).trans (G8.set h.lts 10 (.int .u32 pc))))
  obtain⟨d1,hd1⟩:∃d1,d1=d.begin:=⟨_,rfl⟩
  rw[←hd1]at HB hd'
  have HS1:Hid (0≤d1.steps∧d1.steps≤50000∧0≤steps-d1.steps∧d1.stores.length≤50000∧d1.out.length≤50000∧d1.over=false):=lI (by rw[hd1];exact⟨hds.1,hds.2,hle,hsl,hol,hov⟩)
  have HD:=lI hd'
  clear h ho hfar hmay hok hc hpc hpcd hd1 hd' hds hle hsl hol hov
  go_enter Tryz.func88,Tryz.ntmps88
  go_upto_region 0 with(fail)
  go_region
  obtain⟨w1,hw1⟩:∃w1,w1=(((w.setCell ⟨cp,3,none⟩ (.int .u32 0)).setCell ⟨cp,4,none⟩ (.int .u32 0)).setCell ⟨rp,10,none⟩ (.int .u32 pc)).drew:=⟨_,rfl⟩
  have HI1:Hid (R8 rp cp hb po vm 40 165 170 w1 d1 vs steps 0 0∧G8 rp 40 cp hb po vm w w1):=lI (by rw[hw1];exact HB.out 1)
  rw[←hw1]
  clear hw1 HB g0 g10 p0 p3 p4 hpc' f3 f4 f10
  go_wp2_with fail
  go_loopw [33] (fun i wr=>∃k:Nat,i=.int .i64 k∧k≤code.length∧∃(e:RunD) (us:Value),Hid (R8 rp cp hb po vm 40 165 170 wr e us steps 0 0∧G8 rp 40 cp hb po vm w wr∧runL steps (code.drop k) e=runL steps code d1∧e.over=false∧0≤e.steps∧e.steps≤50000+(k:Int)∧0≤steps-e.steps∧e.stores.length≤50000+k∧e.out.length≤50000+k)) (fun i _=>code.length-(intOf i).toNat)
  case atStart=>exact⟨0,rfl,om,d1,vs,lI ⟨HI1.out.1,HI1.out.2,by simp,HS1.out.2.2.2.2.2,HS1.out.1,by have:=HS1.out.2.1;omega,HS1.out.2.2.1,by have:=HS1.out.2.2.2.1;omega,by have:=HS1.out.2.2.2.2.1;omega⟩⟩
  case round=>
    obtain⟨k,rfl,hk,e,us,HI⟩:=hrel
    by_cases hlt:k<code.length
    · have i1:(k:Int)<(code.length:Int):=om
      have i0:(0:Int)≤(k:Int):=om
      obtain⟨b,off,rfl,hbl,hel⟩:=HO.out zQ
      obtain⟨q1,q2,q3,q4⟩:=HFAR.out b off _ _ rfl zQ
      have hbk:=HI.out.2.1.block b q1 q2 q3 q4
      have hat:At wr b (off+k*5) (jo code[k]):=fun j hj=>(qA hbk _).trans (hel k hlt j hj)
      have hmm:mayM code[k]=true:=by
        have:=HMAY.out
        unfold mayL at this
        rw[Bool.and_eq_true,List.all_eq_true]at this
        exact this.2 _ (sR hlt)
      have hmk:=(HOK.out code[k] (sR hlt)).n
      have hrl:runL steps (code.drop k) e=runL steps (code.drop (k+1)) (e.one code[k] steps):=by
        rw[List.drop_eq_getElem_cons hlt,runL,if_neg (by rw[HI.out.2.2.2.1];simp)]
      have hnr:=r7near_one e code[k] steps
      have hol1:=one_left e code[k] steps HI.out.2.2.2.2.2.2.1
      obtain⟨mm,hmmd⟩:∃mm,mm=code[k]:=⟨_,rfl⟩
      rw[←hmmd]at hat hmm hmk hrl hnr hol1
      clear hmmd hel q2 q3 q4 hbk
      obtain⟨op,kd,ka,kb,n⟩:=mm
      have HON:=lI (fun W (hW:Below wr.heap.size wr W)=>one8_any (HI.out.1.below hW) ⟨op,kd,ka,kb,n⟩ hmm hmk hst ⟨HI.out.2.2.2.2.1,by have:=HI.out.2.2.2.2.2.1;omega⟩ HI.out.2.2.2.2.2.2.1 (by have:=HI.out.2.2.2.2.2.2.2.1;omega) (by have:=HI.out.2.2.2.2.2.2.2.2;omega) HI.out.2.2.2.1)
      have HON':Hid (∀W,Below wr.heap.size wr W→Calls Tryz.prog 121 #[.pointer (some ⟨rp,0,none⟩),.agg #[.int .i64 op,.int .i64 kd,.int .i64 ka,.int .i64 kb,.int .u32 n]] W fun x w'=>x=.returned (.bool (!(e.one ⟨op,kd,ka,kb,n⟩ steps).over))∧∃vs',R8 rp cp hb po vm 40 165 170 w' (e.one ⟨op,kd,ka,kb,n⟩ steps) vs' steps 0 0∧G8 rp 40 cp hb po vm W w'):=lI HON.out
      have e0:=hat.get (j:=0) (v:=.int .i64 op) rfl
      have e1:=hat.get (j:=1) (v:=.int .i64 kd) rfl
      have e2:=hat.get (j:=2) (v:=.int .i64 ka) rfl
      have e3:=hat.get (j:=3) (v:=.int .i64 kb) rfl
      have e4:=hat.get (j:=4) (v:=.int .u32 n) rfl
      simp only[Nat.add_zero]at e0
      have HNR:=lI (And.intro hnr hol1)
      have HRL:=lI hrl
      obtain⟨w5,hw5⟩:∃w5,w5=wr.alloc (.cells #[.int .i64 op,.int .i64 kd,.int .i64 ka,.int .i64 kb,.int .u32 n] 211):=⟨_,rfl⟩
      have HB5:Hid (Below wr.heap.size wr w5):=lI (by rw[hw5];exact Fb.blw)
      have HW5:=lI hw5
      have hclt:=HI.out.1.clt
      obtain⟨ov,hov⟩:∃ov,ov=(e.one ⟨op,kd,ka,kb,n⟩ steps).over:=⟨_,rfl⟩
      rw[←hov]at HON'
      have HOV:=lI hov
      clear HON hat hmm hmk hrl hnr hw5 hol1 hov
      go_upto_region 4 with(fail)
      rw[←HW5.out]
      have g0:(w5).cell? ⟨wr.heap.size,0,none⟩=some (.int .i64 op):=by rw[HW5.out];go_cell
      have g1:(w5).cell? ⟨wr.heap.size,1,none⟩=some (.int .i64 kd):=by rw[HW5.out];go_cell
      have g2:(w5).cell? ⟨wr.heap.size,2,none⟩=some (.int .i64 ka):=by rw[HW5.out];go_cell
      have g3:(w5).cell? ⟨wr.heap.size,3,none⟩=some (.int .i64 kb):=by rw[HW5.out];go_cell
      have g4:(w5).cell? ⟨wr.heap.size,4,none⟩=some (.int .u32 n):=by rw[HW5.out];go_cell
      go_wp2_with fail
      refine(HON'.out w5 HB5.out).mono ?_
      rintro x w9 ⟨rfl,vs',h9,g9⟩
      have HN:=lI (And.intro h9 (HI.out.2.1.trans ((G8.below HB5.out hclt).trans g9)))
      clear h9 g9 g0 g1 g2 g3 g4 e0 e1 e2 e3 e4
      cases ov with
      | true =>
        go_wp2_with fail
        refine sO (results_none zK _ _ _) rfl ?_
        have e1:runL steps code d1=e.one ⟨op,kd,ka,kb,n⟩ steps:=by
          rw[←HI.out.2.2.1,HRL.out,uW HOV.out.symm]
        have e2:d'=e.one ⟨op,kd,ka,kb,n⟩ steps:=by
          rw[HD.out,e1]
          unfold RunD.fin
          rw[if_neg (by rw[←HOV.out];simp)]
        rw[e2]
        first
          |exact⟨rfl,vs',HN.out.1,HN.out.2⟩
          |exact⟨rfl,⟨vs',HN.out.1⟩,HN.out.2⟩
      | false =>
        have HN9:Hid (R8 rp cp hb po vm 40 165 170 w9 (e.one ⟨op,kd,ka,kb,n⟩ steps) vs' steps 0 0∧G8 rp 40 cp hb po vm w w9∧runL steps (code.drop (k+1)) (e.one ⟨op,kd,ka,kb,n⟩ steps)=runL steps code d1∧(e.one ⟨op,kd,ka,kb,n⟩ steps).over=false∧0≤(e.one ⟨op,kd,ka,kb,n⟩ steps).steps∧(e.one ⟨op,kd,ka,kb,n⟩ steps).steps≤50000+((k+1:Nat):Int)∧0≤steps-(e.one ⟨op,kd,ka,kb,n⟩ steps).steps∧(e.one ⟨op,kd,ka,kb,n⟩ steps).stores.length≤50000+(k+1)∧(e.one ⟨op,kd,ka,kb,n⟩ steps).out.length≤50000+(k+1)):=lI ⟨HN.out.1,HN.out.2,by rw[←HRL.out];exact HI.out.2.2.1,HOV.out.symm,by have:=HNR.out.1.s0;have:=HI.out.2.2.2.2.1;omega,by have:=HNR.out.1.s1;have:=HI.out.2.2.2.2.2.1;omega,HNR.out.2,by have:=HNR.out.1.st;have:=HI.out.2.2.2.2.2.2.2.1;omega,by have:=HNR.out.1.ou;have:=HI.out.2.2.2.2.2.2.2.2;omega⟩
        go_wp2_with fail
        go_roundw
        case rel=>exact⟨k+1,by simp,om,_,_,HN9⟩
        case measure=>simp[intOf];omega
    · have i1:¬(k:Int)<(code.length:Int):=om
      have hfin:runL steps code d1=e:=by
        rw[←HI.out.2.2.1,List.drop_of_length_le om];rfl
      have h5:=HI.out.1
      have k4:=h5.at_.get (QO 4 om)
      have k0:=h5.at_.get (QO 0 om)
      have k10:=h5.at_.get (Jb h5.wf.tlen 0)
      have p0:wr.cell? ⟨cp,0,none⟩=some (.pointer (some ⟨hb,po,none⟩)):=h5.core.ptr
      have hpc:=h5.core.hart.get (QM h5.wf.h)
      have f32:=h5.core.hfz (po+32)
      simp only[sM,Nat.reduceAdd]at k0 k4 k10 hpc
      obtain⟨ds,hds⟩:∃ds,ds=e.steps:=⟨_,rfl⟩
      have k4':wr.cell? ⟨rp,4,none⟩=some (.int .i64 ds):=by rw[hds];exact k4
      have k10':wr.cell? ⟨rp,10,none⟩=some (.int .u32 e.here):=k10
      by_cases hpos:0<e.steps
      · have hp1:decide (0<ds)=true:=by rw[hds];exact decide_eq_true hpos
        have hp2:0<ds:=by rw[hds];exact hpos
        have he2:d'={e with h:=e.h.setPc (Fb.u32 (e.here+4))}:=by rw[HD.out,hfin];unfold RunD.fin;rw[if_pos ⟨HI.out.2.2.2.1,hpos⟩]
        obtain⟨np,hnp⟩:∃np,np=(e.here+4)%4294967296:=⟨_,rfl⟩
        have hunp:U32 np:=by rw[hnp];exact Qp _
        have HS:=lI (fun n=>by
          have H2:=Jm (h5.below (w':=wr.drewN n) (qB br _)) 32 om (.int .u32 np) (e.h.setPc np) (QG h5.wf.h.len np) {h5.wf.h with pc:=hunp}
          exact And.intro H2.1 ((HI.out.2.1.trans (G8.below (qB (Below.refl _ wr) n) h5.clt)).trans H2.2))
        have HE:Hid (d'={e with h:=e.h.setPc np}):=lI (by rw[he2,hnp];rfl)
        have HNP:=lI hnp
        clear hfin hds hpos he2 hnp hunp h5 k4 k10 HO HFAR HMAY HOK HC
        go_upto_region 7 with(fail)
        go_region
        all_goals
          rw[←HNP.out]
          go_wp2_with fail
          go_end0
          first
            |exact⟨rfl,us,by rw[HE.out];exact(HS.out 1).1,(HS.out 1).2⟩
            |exact⟨rfl,⟨us,by rw[HE.out];exact(HS.out 1).1⟩,(HS.out 1).2⟩
      · have hp1:decide (0<ds)=false:=by rw[hds];exact decide_eq_false hpos
        have hp2:¬0<ds:=by rw[hds];exact hpos
        have HE:Hid (d'=e):=lI (by rw[HD.out,hfin];unfold RunD.fin;rw[if_neg (fun x=>hpos x.2)])
        clear hfin hds hpos h5 k4 k10
        go_wp2_with fail
        go_end0
        first
          |exact⟨rfl,us,by rw[HE.out];exact HI.out.1,HI.out.2.1⟩
          |exact⟨rfl,⟨us,by rw[HE.out];exact HI.out.1⟩,HI.out.2.1⟩
end
theorem bbytes_any(pc:Int)(ai:Option Addr)(n ci:Nat)(w:World)(h0:0≤pc)(h1:pc+4*(n:Int)≤4096):
    Calls Tryz.prog 87 #[.agg #[.int .u32 pc,.slice ai n ci]] w fun e w'=>e=.returned (.agg #[.int .u32 pc,.int .u32 (Fb.u32 (pc+4*(n:Int)))])∧Below w.heap.size w w':=by
  have e1:(n:Int)%4294967296=n:=om
  have e2:(4*(n:Int))%4294967296=4*n:=om
  have e3:(pc+4*(n:Int))%4294967296=pc+4*n:=om
  have e4:Fb.u32 (pc+4*(n:Int))=pc+4*n:=e3
  rw[e4]
  obtain⟨q,hq⟩:∃q,q=pc+4*(n:Int):=⟨_,rfl⟩
  go_enter Tryz.func87,Tryz.ntmps87
  go_wp2_with fail
  exact sO (UN zK _ (by first|rfl|(simp;done)) (load_new (w.alloc (.cells #[.int .u32 pc,.slice ai n ci] 62)) _ _ Tryz.underlying165 rfl kr)) rfl ⟨rfl,Fb.blw⟩
structure Eg (ep mp bp bh hc cp k:Nat) (vm vo:Value) (room:Int) (o0 o:List Int) (w:World) (s:St) (pu st:Int) (v:Value) (zs:List BlkD) (n:Nat):Prop where
  wk:Wk bp bh hc cp k vm vo 40 o0 o 0 0 w s
  b:EnB (fun q=>ep<q∧q≠cp) 84 62 91 ep mp bp w room pu st v zs
  c:EnC (fun q=>ep<q∧q≠cp) Tryz.prog 40 211 ep mp w zs n
  tot:(zs.length:Int)+pu+st=n∧0≤pu∧0≤st
  ok:jU s.mem room zs
  good:s.Good
  out:s.out=o0++o
  geo:bp<ep∧ep<cp∧mp≠bp∧mp≠bh∧vm.ownBlock≠some mp
  vlo:∀q,vo.ownBlock=some q→q≠ep∧q≠mp
theorem Eg.below{ep mp bp bh hc cp k:Nat}{vm vo:Value}{room:Int}{o0 o:List Int}{w w':World}{s:St}{pu st:Int}{v:Value}{zs:List BlkD}{n:Nat}(h:Eg ep mp bp bh hc cp k vm vo room o0 o w s pu st v zs n)(hb:Below w.heap.size w w'):Eg ep mp bp bh hc cp k vm vo room o0 o w' s pu st v zs n:=
  ⟨h.wk.below hb,h.b.below hb,h.c.below hb,h.tot,h.ok,h.good,h.out,h.geo,h.vlo⟩
def EngS(ep mp bp bh cp:Nat)(vm:Value)(j:Nat):Prop:=j=ep∨j=mp∨j=bp∨j=bh∨vm.ownBlock=some j∨cp≤j
def StepsPost(ep mp bp bh hc cp k:Nat)(vm vo:Value)(room:Int)(o0:List Int)(left:Nat)(s1:St)(pu:Int)(n:Nat)(w:World)(e:Ending)(w':World):Prop:=
  ∃(j:Nat) (o':List Int) (v':Value) (zs':List BlkD) (st':Int),1≤j∧j≤left∧e=.returned (.int .i64 j)∧Eg ep mp bp bh hc cp k vm vo room o0 o' w' (qk k j s1) pu st' v' zs' n∧Fr (EngS ep mp bp bh cp vm) w w'∧Sh bh vm w w'
theorem row3_not{w:World}{q:Nat}(h:Row3 62 91 211 w q):(∀cs f,w.heap[q]? ≠some (.cells cs 40 f))∧(∀cs f,w.heap[q]? ≠some (.cells cs 170 f)):=by
  obtain⟨cs,f,h|h|h⟩:=h
  all_goals(constructor<;>(intro cs2 f2 e;rw[h]at e;cases e))
theorem esteps_any{ep mp bp bh hc cp k:Nat}{vm vo:Value}{room:Int}{o0 o:List Int}{w:World}{s1:St}{pu st:Int}{v:Value}{zs:List BlkD}{n:Nat}(hE:Eg ep mp bp bh hc cp k vm vo room o0 o w s1 pu st v zs n)(hst:(s1.hart k).state=0)(h4:s1.harts.length≤4)(hn:n≤1000000)(hss:s1.steps≤1000000)(hol:o.length≤40000)
    (pc:Int) (hpc:pc=(s1.hart k).pc) (vi vc:Value) (l:List InsD) (K:Kept s1.mem pc l) (hb:jS w vi l) (hcs:Sl w vc 5 (mkM pc l).length ((mkM pc l).flatMap jo)) (hct:∀q,vc.ownBlock=some q→(ep<q∧q≠cp)∧∃cs f,w.heap[q]? =some (.cells cs 211 f)) (left:Nat) (hl0:1≤left) (hl1:left≤400):
    Calls Tryz.prog 53 #[.pointer (some ⟨ep,0,none⟩),.int .i64 k,.pointer (some ⟨cp,0,none⟩),.agg #[.int .u32 pc,vi],vc,.int .i64 left] w fun e w'=>StepsPost ep mp bp bh hc cp k vm vo room o0 left s1 pu n w e w':=by
  obtain⟨ai,ci,rfl,-⟩:=hb.open (fun _ _=>rfl) om
  obtain⟨ac,cc,rfl,-⟩:=hcs.open (fun _ _=>rfl) om
  have hgeo:=hE.geo
  obtain⟨g1,g2,g3,g4,g5⟩:=hgeo
  have hcp:=hE.wk.clt
  have hbb:=hE.wk.b1
  have hkl:=hE.wk.kl
  have hml:=hE.good.wf.mlen
  obtain⟨w1,hw1⟩:∃w1,w1=w.alloc (.cells #[.int .u32 pc,.slice ai l.length ci] 62):=⟨_,rfl⟩
  have hb1:Below w.heap.size w w1:=zI
  have hs1:w1.heap.size=w.heap.size+1:=zO
  have r0:(w1).cell? ⟨w.heap.size,0,none⟩=some (.int .u32 pc):=zA
  have r1:(w1).cell? ⟨w.heap.size,1,none⟩=some (.slice ai l.length ci):=zA
  have HBY:=lI (bbytes_any pc ai l.length ci w1 K.pos (by have:=K.fits;omega))
  have HX:=fun X hX=>block_turn hE.good hkl hst (l:=l) (by rw[←hpc];exact K) (left:=left) om hE.out X hX
  rw[←hpc]at HX
  have hbt:U32 (Fb.u32 (pc+4*(l.length:Int))):=Qp _
  have hpu:U32 pc:=by rw[hpc];exact(hE.good.wf.hart k).pc
  obtain⟨bt,hbtq⟩:∃bt,bt=Fb.u32 (pc+4*(l.length:Int)):=⟨_,rfl⟩
  rw[←hbtq]at HBY HX hbt
  obtain⟨X,hX⟩:∃X,X=(runL left (mkM pc l) (runB (s1.hart k) s1.mem o pc bt)).fin:=⟨_,rfl⟩
  obtain⟨j,hj,hj1,hj2,hpk,hsto,hen,hxm⟩:=HX X hX
  clear HX
  have HW1:=lI hw1
  have HE1:=lI (hE.below hb1)
  have HB1:=lI hb1
  have HCS1:=lI (Sl.below hcs hb1)
  have HCT1:Hid (∀q,(Value.slice ac (mkM pc l).length cc).ownBlock=some q→(ep<q∧q≠cp)∧∃cs f,w1.heap[q]? =some (.cells cs 211 f)):=lI (fun q hq=>by
    obtain⟨h1,cs,f,h2⟩:=hct q hq
    exact⟨h1,cs,f,(hb1.block q (qR h2)).trans h2⟩)
  have HXX:=lI hX
  have HPK:=lI hpk
  have HSTO:=lI hsto
  have HEN:=lI hen
  have HXM:=lI hxm
  have HST:=lI hst
  have HPCQ:=lI hpc
  have HPU:=lI hpu
  have HBT:=lI hbt
  have HJ:=lI hj
  clear hw1 hE hb1 hcs hct hX hpk hsto hen hxm hst hpc hpu hbt hj hbtq K hb
  go_enter Tryz.func53,Tryz.ntmps53
  go_upto_region 1 with(fail)
  rw[←HW1.out]
  go_wp2_with fail
  refine HBY.out.mono ?_
  rintro e w2 ⟨rfl,hb2⟩
  have hs2:=hb2.size
  have HE2:=lI (HE1.out.below hb2)
  have HB2:=lI (HB1.out.trans (hb2.mono om))
  have HCS2:=lI (Sl.below HCS1.out hb2)
  have HCT2:Hid (∀q,(Value.slice ac (mkM pc l).length cc).ownBlock=some q→(ep<q∧q≠cp)∧∃cs f,w2.heap[q]? =some (.cells cs 211 f)):=lI (fun q hq=>by
    obtain⟨h1,cs,f,h2⟩:=HCT1.out q hq
    exact⟨h1,cs,f,(hb2.block q (qR h2)).trans h2⟩)
  obtain⟨rl,hrl⟩:∃rl,rl=(QD (runE (s1.hart k) s1.mem o pc bt) cp (.slice none 0 0) left).toArray:=⟨_,rfl⟩
  have hrl':rl=#[.pointer (some ⟨cp,0,none⟩),.int .u32 pc,.int .u32 bt,.int .i64 left,.int .i64 0,.slice none 0 0,.int .u32 0,.int .u32 0,.int .u32 0,.int .u32 0,.int .u32 0,.bool false]:=by
    rw[hrl];simp[QD,runE,run0]
  obtain⟨w3,hw3⟩:∃w3,w3=w2.alloc (.cells rl 170):=⟨_,rfl⟩
  have hb3:Below w2.heap.size w2 w3:=by rw[hw3];exact Below.alloc br (sN _) _
  have hs3:w3.heap.size=w2.heap.size+1:=by rw[hw3];simp
  have HR3:Hid (R8 w2.heap.size cp bh (k*37) vm 40 165 170 w3 (runE (s1.hart k) s1.mem o pc bt) (.slice none 0 0) left 0 0):=lI (
    R8.initE (TS:=165) (TR:=170) (steps:=left) HE2.out.wk.core (HE2.out.good.wf.hart k) HE2.out.good.wf.mem hml (fun x hx=>HE2.out.good.wf.out x (by rw[HE2.out.out];exact List.mem_append_right _ hx)) om HPU.out HBT.out (by rw[hw3,hrl]))
  have HE3:=lI (HE2.out.below hb3)
  have HB3:=lI (HB2.out.trans (hb3.mono om))
  have HRP:Hid (∃cs f,w3.heap[w2.heap.size]? =some (.cells cs 170 f)):=lI ⟨_,_,by rw[hw3];exact sP _ _⟩
  have HFAR:Hid (∀b off n c,(Value.slice ac (mkM pc l).length cc)=.slice (some ⟨b,off,none⟩) n c→mkM pc l≠[]→b<w3.heap.size∧b≠bh∧vm.ownBlock≠some b∧(b<cp∨(cp<b∧b<w2.heap.size∧∀cs f,w3.heap[b]? ≠some (.cells cs 40 f)))):=lI (fun b off n c e _=>by
    obtain⟨h1,cs,f,h2⟩:=HCT2.out b xB
    have hlt:=qR h2
    have h3:=(hb3.block b hlt).trans h2
    have hm:=HE2.out.wk.mlt
    refine⟨om,om,fun e2=>by have:=hm b e2;omega, ?_⟩
    by_cases h5:b<cp
    · exact .inl h5
    · exact .inr ⟨om,hlt,fun cs2 f2 e3=>by rw[h3]at e3;cases e3⟩)
  have HDO:=lI (do8_any HR3.out (.slice ac (mkM pc l).length cc) (mkM pc l) (Sl.below HCS2.out hb3) HFAR.out (mkM_may pc l) (mkM_ok pc l) ⟨om,om⟩ ⟨Int.le_refl 0,by show(0:Int)≤50000;omega⟩ (by show 0≤(left:Int)-0;omega) (Nat.zero_le _) (by show o.length≤50000;omega) rfl X (by rw[HXX.out];rfl))
  have HW3:=lI hw3
  have HRL:=lI hrl'
  clear hw3 hrl hrl' hb2 hb3 HE1 HE2 HB1 HB2 HCS1 HCS2 HCT1 HCT2 HFAR HR3 HBY r0 r1
  go_upto_region 2 with(fail)
  rw[←HRL.out,←HW3.out]
  go_wp2_with fail
  refine HDO.out.mono ?_
  rintro e w4 ⟨rfl,vs',h8,g8⟩
  have hs4:w3.heap.size≤w4.heap.size:=g8.size
  have hmlt:=HE3.out.wk.mlt
  have hwk4:Wk bp bh hc cp k vm vo 40 o0 X.out 0 0 w4 ⟨s1.harts.set k X.h,X.m,s1.out,s1.steps⟩:=HE3.out.wk.go8 (d:=X.core 0 0) HE3.out.good.wf h8.wf.h h8.core g8
  have hkeep:∀q,q<w3.heap.size→(q=ep∨q=mp∨(ep<q∧q≠cp∧Row3 62 91 211 w3 q))→w4.heap[q]? =w3.heap[q]? :=fun q hq h=>by
    have hmp:=HE3.out.c.1
    rcases h with h|h|⟨h1,h2,h3⟩
    · exact g8.block q hq om (fun e=>by have:=hmlt q e;omega) (.inl om)
    · exact g8.block q hq om (fun e=>g5 (by rw[e,h])) (.inl om)
    · obtain⟨n1,n2⟩:=row3_not h3
      refine g8.block q hq om (fun e=>by have:=hmlt q e;omega) ?_
      by_cases h5:q<cp
      · exact .inl h5
      · refine .inr ⟨om, ?_,n1⟩
        obtain⟨cs,f,h6⟩:=HRP.out
        have:q≠w2.heap.size:=fun e=>by rw[e]at n2;exact n2 _ _ h6
        omega
  have B4:EnB (fun q=>ep<q∧q≠cp) 84 62 91 ep mp bp w4 room pu st v zs:=HE3.out.b.keep (TM:=211) (fun q h=>h.1) (fun q h1 h2=>hkeep q h1 (h2.imp id (fun h=>.inr ⟨h.1,h.2.1.2,h.2.2⟩)))
  have C4:EnC (fun q=>ep<q∧q≠cp) Tryz.prog 40 211 ep mp w4 zs n:=HE3.out.c.keep (TB:=62) (TI:=91) (fun q h=>h.1) (fun q h1 h2=>hkeep q h1 (h2.elim (fun h=>.inr (.inl h)) (fun h=>.inr (.inr ⟨h.1,h.2.1.2,h.2.2⟩))))
  have F34:Fr (EngS ep mp bp bh cp vm) w3 w4:=⟨g8.os,g8.tape,g8.output,g8.size,fun q hq hn=>g8.block q hq (fun e=>hn (.inr (.inr (.inr (.inl e))))) (fun e=>hn (.inr (.inr (.inr (.inr (.inl e)))))) (.inl (Nat.lt_of_not_le (fun h=>hn (.inr (.inr (.inr (.inr (.inr h))))))))⟩
  have F4:Fr (EngS ep mp bp bh cp vm) w w4:=(Fr.of_below HB3.out (fun q h1 h2=>om)).trans (S:=EngS ep mp bp bh cp vm) F34 (fun _ _ h=>h)
  have hlt0:∀q,(q=bh∨vm.ownBlock=some q)→q<bp:=fun q hq=>by rcases hq with rfl|e;exact hbb;exact(hmlt q e).1
  have HL0:=lI hlt0
  have HS4:Hid (Sh bh vm w w4):=lI ((Sh.of_below HB3.out (fun q hq=>by have:=hlt0 q hq;omega)).trans (fun q hq=>g8.shape q (by have:=hlt0 q hq;omega) (by have:=hlt0 q hq;omega)))
  clear hlt0
  have k4:=h8.at_.get (QO 4 om)
  have k5:=h8.at_.get (QO 5 om)
  simp only[sM]at k4 k5
  have k4':w4.cell? ⟨w2.heap.size,4,none⟩=some (.int .i64 j):=by rw[←HJ.out];exact k4
  have k5':w4.cell? ⟨w2.heap.size,5,none⟩=some vs':=k5
  have hvl:∀q,vs'.ownBlock=some q→w2.heap.size<q:=fun q e=>by have:=(h8.sto.lt q e).1;omega
  have hrl4:=qD k4'
  obtain⟨as',cs',rfl,hcs1,hcs2,-,hos⟩:=(ql h8.sto).open (fun _ _=>rfl) om
  unfold maxLen at hcs2
  have HOS:=lI hos
  have HVL:=lI hvl
  have HWK4:=lI hwk4
  have HB4:=lI B4
  have HC4:=lI C4
  have HF4:=lI F4
  have HTOT:=lI HE3.out.tot
  have HZ:=lI HE3.out.ok
  have HGOOD:=lI HE3.out.good
  have HVLO:=lI HE3.out.vlo
  have HXW:=lI (And.intro h8.wf.h h8.wf.m)
  have HMLT:=lI hmlt
  have HSTL:Hid (∀p∈X.stores,U32 p.1∧U32 p.2):=lI (fun p hp=>by have:=HSTO.out p hp;unfold U32;omega)
  clear hos hvl hwk4 B4 C4 F4 F34 hkeep h8 g8 k4 k5 hmlt HE3 HDO HB3
  have k5:=k5'
  clear k5'
  go_wp2_with fail
  go_loopw [30] (fun i wr=>∃(q:Nat) (v':Value) (zs':List BlkD) (st':Int),i=.int .i64 q∧q≤X.stores.length∧w4.heap.size≤wr.heap.size∧Hid (Wk bp bh hc cp k vm vo 40 o0 X.out 0 0 wr ⟨qm k (X.stores.take q) (s1.harts.set k X.h),X.m,s1.out,s1.steps⟩∧EnB (fun q=>ep<q∧q≠cp) 84 62 91 ep mp bp wr room pu st' v' zs'∧EnC (fun q=>ep<q∧q≠cp) Tryz.prog 40 211 ep mp wr zs' n∧((zs'.length:Int)+pu+st'=n∧0≤pu∧0≤st')∧zs'.map BlkD.abs=(Qw (X.stores.take q) zs).map BlkD.abs∧Fr (fun j=>j=ep∨j=bh) w4 wr)∧Hid (Sh bh vm w4 wr)) (fun i _=>X.stores.length-(intOf i).toNat)
  case atStart=>exact⟨0,v,zs,st,rfl,om,om,lI ⟨HWK4.out,HB4.out,HC4.out,HTOT.out,rfl,Fr.refl _ _⟩,lI (Sh.refl _ _ _)⟩
  case round=>
    obtain⟨q,v',zs',st',rfl,hq,hsz,HR,HSR⟩:=hrel
    by_cases hlt:q<X.stores.length
    · obtain⟨b,off,rfl,hbl,hel⟩:=HOS.out zQ
      have hbv:w2.heap.size<b:=HVL.out b rfl
      have hsame:∀g,w2.heap.size≤g→g<w4.heap.size→wr.heap[g]? =w4.heap[g]? :=fun g h1 h2=>HR.out.2.2.2.2.2.block g h2 (by show ¬(g=ep∨g=bh);omega)
      have hat:At wr b (off+q*2) (rg X.stores[q]):=fun i hi=>(qA (hsame b om hbl) _).trans (hel q hlt i hi)
      obtain⟨pf,pt⟩:∃p,p=X.stores[q]:=⟨_,rfl⟩
      obtain⟨p,hp⟩:∃p,p=X.stores[q]:=⟨_,rfl⟩
      have hpm:p∈X.stores:=by rw[hp];exact sR hlt
      rw[←hp]at hat
      obtain⟨p1,p2⟩:=p
      have c0:=hat.get (j:=0) (v:=.int .u32 p1) rfl
      have c1:=hat.get (j:=1) (v:=.int .u32 p2) rfl
      simp only[Nat.add_zero]at c0
      have hu:=HSTL.out _ hpm
      have HTK:Hid (X.stores.take (q+1)=X.stores.take q++[(p1,p2)]):=lI (by rw[hp];exact List.take_succ_eq_append_getElem hlt)
      obtain⟨w5,hw5⟩:∃w5,w5=wr.alloc (.cells #[.int .u32 p1,.int .u32 p2] 165):=⟨_,rfl⟩
      have hb5:Below wr.heap.size wr w5:=by rw[hw5];exact Below.alloc br (sN _) _
      have hs5:wr.heap.size≤w5.heap.size:=hb5.size
      have u0:(w5).cell? ⟨wr.heap.size,0,none⟩=some (.int .u32 p1):=by rw[hw5];go_cell
      have u1:(w5).cell? ⟨wr.heap.size,1,none⟩=some (.int .u32 p2):=by rw[hw5];go_cell
      have HWK5:=lI (HR.out.1.below hb5)
      have HB5:=lI (HR.out.2.1.below hb5)
      have HC5:=lI (HR.out.2.2.1.below hb5)
      have HF5:Hid (Fr (fun j=>j=ep∨j=bh) w4 w5):=lI (HR.out.2.2.2.2.2.trans (S:=fun j=>j=ep∨j=bh) (S':=fun j=>j=ep∨j=bh) (Fr.of_below hb5 (fun j h1 h2=>om)) (fun _ _ h=>h))
      have HS5:Hid (Sh bh vm w4 w5):=lI (HSR.out.trans (Sh.of_below hb5 (fun g hg=>by have:=HL0.out g hg;omega)))
      have HT5:=lI HR.out.2.2.2.1
      have HA5:=lI HR.out.2.2.2.2.1
      have hzl:zs'.length≤zs.length:=by rw[len_abs HA5.out];exact(UE _ _).length_le
      have hz64:zs.length≤64:=by have:=HZ.out.len;have:=HZ.out.room1;omega
      have hins:∀x∈zs',x.ins.length≤16:=ins_abs HA5.out (fun x hx=>HZ.out.ins x (UF _ _ x hx).1)
      have hlen:(qm k (X.stores.take q) (s1.harts.set k X.h)).length=s1.harts.length:=by rw[JA,List.length_set]
      have hwf5:∀h∈qm k (X.stores.take q) (s1.harts.set k X.h),h.Wf:=loseAll_mem k (fun _ _ _ h=>uE h) _ _ (fun h hh=>by
        rcases List.mem_or_eq_of_mem_set hh with h1|h1
        · exact HGOOD.out.wf.harts h h1
        · rw[h1];exact HXW.out.1)
      have HWF5:=lI hwf5
      have HLN:=lI hlen
      have HSD:=lI (estored_any (A:=fun q=>ep<q∧q≠cp) (fun _ h=>h.1) (fun g hg=>om) HB5.out HC5.out HT5.out hins om hn k p1 p2 _ g1 hbb g4 HWK5.out.c1 HWK5.out.harts HWK5.out.core.hfz hwf5 (by show(qm k _ _).length≤4;omega) HWK5.out.hcap hu.1 hu.2)
      have HW5:=lI hw5
      have HAT2:=lI hsame
      clear hel hat hp hpm hw5 hb5 hsame hwf5 hlen hins HR hu pf pt
      go_upto_region 6 with(fail)
      rw[←HW5.out]
      clear c0 c1
      go_wp2_with fail
      refine HSD.out.mono ?_
      rintro e w6 ⟨rfl,w6a,hat6,hg6,hf6,v6,zs6,st6,B6,C6,T6,A6⟩
      have hk0:k<(qm k (X.stores.take q) (s1.harts.set k X.h)).length:=by rw[HLN.out];exact hkl
      have hwk6a:=HWK5.out.lost (hs:=QA k p1 p2 (qm k (X.stores.take q) (s1.harts.set k X.h)).length (qm k (X.stores.take q) (s1.harts.set k X.h))) (ju (P:=Hart.Wf) HWF5.out (fun _=>uE)) (QF _ _ _ _ _) (fun h'=>by
        rw[QT _ _ _ _ _ _ hk0,if_neg om];exact(St.hart_at (s:=⟨qm k (X.stores.take q) (s1.harts.set k X.h),X.m,s1.out,s1.steps⟩) hk0).symm) hat6 hg6
      have hwk6:=hwk6a.other hf6 (by show ¬bp=ep;omega) (by show ¬bh=ep;omega) (fun g hg=>by show ¬g=ep;omega) (fun g hg=>by have:=HMLT.out g hg;show ¬g=ep;omega) (fun g hg=>by have:=HVLO.out g hg;show ¬g=ep;omega)
      have hf46:Fr (fun j=>j=ep∨j=bh) w4 w6:=(HF5.out.trans (S:=fun j=>j=ep∨j=bh) (S':=fun j=>j=ep∨j=bh) (Fr.of_chg hg6 (fun j o h=>.inr h)) (fun _ _ h=>h)).trans (S:=fun j=>j=ep∨j=bh) (S':=fun j=>j=ep∨j=bh) (hf6.mono (fun _ _ h=>.inl h)) (fun _ _ h=>h)
      have HN:Hid (Wk bp bh hc cp k vm vo 40 o0 X.out 0 0 w6 ⟨qm k (X.stores.take (q+1)) (s1.harts.set k X.h),X.m,s1.out,s1.steps⟩∧EnB (fun q=>ep<q∧q≠cp) 84 62 91 ep mp bp w6 room pu st6 v6 zs6∧EnC (fun q=>ep<q∧q≠cp) Tryz.prog 40 211 ep mp w6 zs6 n∧((zs6.length:Int)+pu+st6=n∧0≤pu∧0≤st6)∧zs6.map BlkD.abs=(Qw (X.stores.take (q+1)) zs).map BlkD.abs∧Fr (fun j=>j=ep∨j=bh) w4 w6):=lI ⟨by rw[HTK.out,loseAll_snoc];exact hwk6,B6,C6,T6,by rw[A6,HTK.out,staleAll_snoc];exact estale_abs HA5.out,hf46⟩
      have HS6:Hid (Sh bh vm w4 w6):=lI ((HS5.out.trans (fun g hg=>hg6.shape g (by have:=HL0.out g hg;omega))).trans (Sh.of_fr hf6 (fun g hg=>⟨by have:=HL0.out g hg;have:=hg6.size;omega,by have:=HL0.out g hg;show ¬g=ep;omega⟩)))
      have hs6:=hf46.size
      clear hwk6 hwk6a hf46 B6 C6 T6 A6 hat6 hg6 hf6 HSD HWK5 HB5 HC5 HF5 HT5 HA5 hk0
      go_wp2_with fail
      go_roundw
      case rel=>exact⟨q+1,v6,zs6,st6,by simp,om,om,HN,HS6⟩
      case measure=>simp[intOf];omega
    · obtain rfl:q=X.stores.length:=om
      rw[List.take_length]at HR
      have hrp:∀g,w2.heap.size≤g→g<w4.heap.size→wr.heap[g]? =w4.heap[g]? :=fun g h1 h2=>HR.out.2.2.2.2.2.block g h2 (by show ¬(g=ep∨g=bh);omega)
      have r4:=(qA (hrp _ (sN _) hrl4) 4).trans k4'
      have e0:=HR.out.2.1.at_.get (j:=0) rfl
      simp only[sM]at e0
      have b3:=HR.out.1.c3
      have f3:=HR.out.1.frz 3
      have hwj:wrap64 ((s1.steps:Int)+(j:Int))=((s1.steps+j:Nat):Int):=yU
      obtain⟨sj,hsj⟩:∃x,x=((s1.steps+j:Nat):Int):=⟨_,rfl⟩
      obtain⟨ss,hs'⟩:∃x,x=(s1.steps:Int):=⟨_,rfl⟩
      obtain⟨jj,hjj⟩:∃x,x=(j:Int):=⟨_,rfl⟩
      simp only at b3
      rw[←hsj,←hs',←hjj]at hwj
      rw[←hs']at b3
      rw[←hjj]at r4
      have HSJ:=lI hsj
      have HJJ:=lI hjj
      have HR9:=lI HR.out
      clear hsj hjj hs' HR hrp k4' k5
      go_wp2_with fail
      go_region
      go_wp2_with fail
      go_ret
      obtain⟨x1,x2,x3,x4,x5,x6⟩:=HR9.out
      obtain⟨w9,hw9⟩:∃w9,w9=(wr.setCell ⟨bp,3,none⟩ (.int .i64 sj)).drew:=⟨_,rfl⟩
      have hpk:=HPK.out
      have hbd:Below wr.heap.size (wr.setCell ⟨bp,3,none⟩ (.int .i64 sj)) w9:=by rw[hw9];exact Below.drew br
      have hF9:Fr (fun g=>g=bp) wr w9:=by rw[hw9];exact Fr.drew ((Fr.refl _ _).setCell ⟨bp,3,none⟩ _ rfl)
      have hwk9:Wk bp bh hc cp k vm vo 40 o0 X.out 0 0 w9 (qk k j s1):=by
        have:=(x1.tick (s1.steps+j)).out (o0++X.out)
        rw[←hpk,hw9]
        have e:((s1.steps+j:Nat):Int)=sj:=HSJ.out.symm
        rw[e]at this
        exact this.below (Below.drew br)
      have hb9:EnB (fun q=>ep<q∧q≠cp) 84 62 91 ep mp bp w9 room pu st' v' zs':=x2.keep (TM:=211) (fun q h=>h.1) (fun q h1 h2=>hF9.block q h1 (by show q≠bp;omega))
      have hc9:EnC (fun q=>ep<q∧q≠cp) Tryz.prog 40 211 ep mp w9 zs' n:=x3.keep (TB:=62) (TI:=91) (fun q h=>h.1) (fun q h1 h2=>hF9.block q h1 (by show q≠bp;omega))
      have hfin:Fr (EngS ep mp bp bh cp vm) w w9:=(HF4.out.trans (S:=EngS ep mp bp bh cp vm) (x6.mono (fun g _ h=>(show EngS ep mp bp bh cp vm g from h.elim (fun h=>.inl h) (fun h=>.inr (.inr (.inr (.inl h))))))) (fun _ _ h=>h)).trans (S:=EngS ep mp bp bh cp vm) (hF9.mono (fun g _ h=>(show EngS ep mp bp bh cp vm g from .inr (.inr (.inl h))))) (fun _ _ h=>h)
      have hsf:Sh bh vm w w9:=(HS4.out.trans HSR.out).trans (Sh.of_fr hF9 (fun g hg=>⟨by have:=HL0.out g hg;omega,by have:=HL0.out g hg;show ¬g=bp;omega⟩))
      have hok9:jU (qk k j s1).mem room zs':=by
        rw[←hpk]
        exact(HEN.out room zs HZ.out).abs x5
      exact⟨j,X.out,v',zs',st',hj1,hj2,by rw[HJJ.out];rfl,⟨by rw[←hw9];exact hwk9,by rw[←hw9];exact hb9,by rw[←hw9];exact hc9,x4,hok9,US _ HGOOD.out,by rw[←hpk],⟨g1,g2,g3,g4,g5⟩,HVLO.out⟩,by rw[←hw9];exact hfin,by rw[←hw9];exact hsf⟩
end Go.Proofs.YtlfnddmncbkjaabGreatDoor.W
