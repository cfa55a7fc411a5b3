import Derived.Test.YtlfnddmncbkjaacGreatZGD
set_option linter.unusedVariables false
set_option linter.unusedSimpArgs false
set_option maxRecDepth 100000
set_option maxHeartbeats 4000000
namespace Go.Proofs.YtlfnddmncbkjaacGreat.Fb
open Go.RowKit
def Mem8(m:List Int)(c:qD):Prop:=c.m=m∨∃op a x,qU m op a=true∧0≤a∧c.m=qn m op a x∧c.fr=a∧c.tw=(a+qM op)%4294967296
theorem put_mem8(d:qD)(op a x:Int)(ha:0≤a):Mem8 d.m (d.put op a x):=by
  unfold qD.put
  by_cases c:qU d.m op a=true
  · rw[if_pos c];exact .inr ⟨op,a,x,c,ha,rfl,rfl,rfl⟩
  · rw[if_neg c];exact .inl rfl
theorem ite_mem8{m:List Int}{c:Prop}[Decidable c]{a b:qD}(h1:c→Mem8 m a)(h2:¬c→Mem8 m b):Mem8 m (if c then a else b):=by split;exact h1 ‹_›;exact h2 ‹_›
theorem atomS_mem8(d:qD)(op a b:Int)(ha:0≤a):Mem8 d.m (qY d op a b).1:=by
  unfold qY
  split
  · split
    · exact .inl rfl
    · split
      · split
        · exact put_mem8 d 18 a b ha
        · exact .inl rfl
      · exact put_mem8 d 18 a _ ha
  · exact .inl rfl
theorem callS_m(d:qD):(qz d).1.m=d.m:=by
  unfold qz
  split
  · rfl
  · split<;>rfl
theorem doS_mem8(d:qD)(hr:∀k,0≤d.h.reg k)(i:InsD):Mem8 d.m (doS i d):=by
  unfold doS
  dsimp only
  repeat' (with_reducible refine ite_mem8 (fun _=> ?_) (fun _=> ?_))
  all_goals first
    |exact .inl rfl
    |exact put_mem8 d i.op _ _ (Int.emod_nonneg _ zL)
    |exact atomS_mem8 d i.op (d.h.reg i.rs1) (d.h.reg i.rs2) (hr _)
    |exact .inl (callS_m d)
theorem mLoad_apart{m:List Int}{op a x:Int}(ha:0≤a){q:Int}(hq:0≤q)(h:q+4≤a∨a+qM op≤q)(hs:qU m op a=true):qa (qn m op a x) 13 q=qa m 13 q∧qN (qn m op a x) 13 q=qN m 13 q:=by
  obtain⟨h1,h2,h3⟩:=jl hs
  obtain⟨k,rfl⟩:=sS ha
  obtain⟨j,rfl⟩:=sS hq
  have e:qN (qn m op k x) 13 j=qN m 13 j:=by unfold qN;rw[Qv]
  refine⟨?_,e⟩
  by_cases c:qN m 13 j=true
  · rw[uo c,uo (by rw[e];exact c)]
    unfold qn
    rw[if_pos hs,uq _ _ _ _ _ om,uq _ _ _ _ _ om,uq _ _ _ _ _ om,uq _ _ _ _ _ om]
  · unfold qa
    rw[if_neg (by rw[e];exact c),if_neg c]
theorem fetch_apart{m:List Int}{op a x:Int}(ha:0≤a){q:Int}(hq:0≤q)(h:q+4≤a∨a+qM op≤q)(hs:qU m op a=true):qm (qn m op a x) q=qm m q:=by
  obtain⟨e1,e2⟩:=mLoad_apart (x:=x) ha hq h hs
  unfold qm
  rw[e1,e2]
def Blk8(m:List Int):Int→List InsD→Prop
  |_,[]=>True
  |p,i::r=>qm m p=(i,0)∧(r=[]∨lastB i.op=false)∧Blk8 m (u32 (p+4)) r
theorem blk8_keep{m m':List Int}:∀(l:List InsD) (p:Int),0≤p→p+4*l.length≤4096→(∀q,p≤q→q+4≤p+4*l.length→qm m' q=qm m q)→Blk8 m p l→Blk8 m' p l
  |[],_,_,_,_,_=>trivial
  | i :: r, p, h0, h1, hk, ⟨b1, b2, b3⟩ => by
    simp only[List.length_cons]at h1 hk
    have e:u32 (p+4)=p+4:=by unfold u32;omega
    refine⟨(hk p om om).trans b1,b2, ?_⟩
    rw[e]at b3 ⊢
    exact blk8_keep r (p+4) om om (fun q h3 h4=>hk q om om) b3
theorem rowS_blk8(m:List Int)(hm:m.length≤4096):∀(n:Nat) (p:Int),U32 p→Blk8 m p (rowS m n p)∧(rowS m n p≠[]→p+4*(rowS m n p).length≤m.length)
  |0,_,_=>⟨trivial,fun h=>absurd rfl h⟩
  | n + 1, p, hp => by
    rw[row_step]
    by_cases c:(qm m p).2=0
    · rw[if_pos c]
      have hok:p+4≤m.length:=by
        by_cases q:qN m 13 p=true
        · unfold qN there at q
          simp only[Bool.and_eq_true,decide_eq_true_eq]at q
          exact q.2.2
        · unfold qm at c
          rw[if_neg q]at c
          exact absurd c zL
      have hp0:=hp.1
      by_cases hb:lastB (qm m p).1.op=true
      · rw[if_pos hb]
        exact⟨⟨Prod.ext rfl c,.inl rfl,trivial⟩,fun _=>by simp only[List.length_cons,List.length_nil];omega⟩
      · rw[if_neg hb]
        obtain⟨i1,i2⟩:=rowS_blk8 m hm n ((p+4)%4294967296) (jG _)
        refine⟨⟨Prod.ext rfl c,.inr (by simpa using hb),i1⟩,fun _=> ?_⟩
        by_cases hr:rowS m n ((p+4)%4294967296)=[]
        · rw[hr];simp only[List.length_cons,List.length_nil];omega
        · have:=i2 hr
          simp only[List.length_cons]
          omega
    · rw[if_neg c]
      exact⟨trivial,fun h=>absurd rfl h⟩
structure Eq8 (a b:RunD):Prop where
  h:a.h=b.h
  m:a.m=b.m
  out:a.out=b.out
  steps:a.steps=b.steps
  stores:a.stores=b.stores
theorem setPc_self{h:Hart}{p:Int}(e:h.pc=p):h.setPc p=h:=by subst e;rfl
theorem pl8_next{pc:Int}(h0:0≤pc){k:Nat}(h1:pc+4*(k:Int)≤4096):pl8 pc k=pc+4*k∧pl8 pc (k+1)=u32 (pl8 pc k+4):=by
  unfold pl8 u32;omega
theorem steps8_go(pc last st:Int)(h0:0≤pc)(hlast:last≤4096):∀(l:List InsD) (k:Nat) (d X:RunD),
    X.h=d.h.setPc (pl8 pc k)→X.m=d.m→X.out=d.out→X.steps=d.steps→X.stores=d.stores→d.over=false→d.own=false→d.temps.length=4→d.bf=pc→d.bt=last→X.core0.Wf→X.m.length≤4096→
    X.h.ok=true→X.h.state=0→(d.steps=0∧d.h.pc=pl8 pc k∨0<d.steps∧u32 (d.here+4)=pl8 pc k)→0≤d.steps→d.steps≤st→Blk8 X.m (pl8 pc k) l→pc+4*k+4*l.length=last→(∀i∈l,isS i=true∧I32 i.imm)→
    Eq8 (JH pc last st l.length k X) (runL st (rowM pc k l) d).fin
  | [], k, d, X, e1, e2, e3, e4, e5, ho, hw, ht, b1, b2, wf, hl, hz, hs, hp, hn, hle, hb, hlen, hi => by
    have key:(runL st (rowM pc k []) d).fin=d.fin:=rfl
    rw[key]
    show Eq8 X d.fin
    unfold RunD.fin
    rcases hp with⟨p1,p2⟩|⟨p1,p2⟩
    · rw[if_neg om]
      exact⟨by rw[e1];exact setPc_self p2,e2,e3,e4,e5⟩
    · rw[if_pos ⟨ho,p1⟩,p2]
      exact⟨e1,e2,e3,e4,e5⟩
  | i :: r, k, d, X, e1, e2, e3, e4, e5, ho, hw, ht, b1, b2, wf, hl, hz, hs, hp, hn, hle, hb, hlen, hi => by
    have hok:=hz
    replace hz:X.h.regs.getD 0 0=0:=((uG hs).1 hok).1
    simp only[List.length_cons]at hlen
    obtain⟨f1,f2,f3⟩:=hb
    have hkl:pc+4*(k:Int)≤4096:=om
    obtain⟨q1,q2⟩:=pl8_next h0 hkl
    rw[←q2]at f3
    obtain⟨p,hpd⟩:∃p,p=pl8 pc k:=⟨_,rfl⟩
    have erow:rowM pc k (i::r)=⟨1,0,0,0,p⟩::(jZ i p++rowM pc (k+1) r):=by rw[hpd];rfl
    rw[erow,uf _ _ ho]
    rw[←hpd]at e1 hp f1 q1 q2
    have elen:(i::r).length=r.length+1:=rfl
    rw[elen,JH]
    by_cases c:d.steps=st
    · have eone:d.one ⟨1,0,0,0,p⟩ st=d.stop p:=by
        unfold RunD.one
        rw[if_pos rfl,if_pos (by rw[c];simp)]
      rw[eone,ue rfl,if_neg om]
      have:(d.stop p).fin=d.stop p:=by unfold RunD.fin;rw[if_neg (fun h=>by have:=h.1;exact absurd this (by show ¬true=false;decide))]
      rw[this]
      exact⟨e1,e2,e3,e4,e5⟩
    · have eone:d.one ⟨1,0,0,0,p⟩ st={d with steps:=d.steps+1,here:=p}:=by
        unfold RunD.one
        rw[if_pos rfl,if_neg (by rw[hw];simpa using c)]
      rw[eone,if_pos om,runL_append]
      obtain⟨d1,hd1⟩:∃d1,d1={d with steps:=d.steps+1,here:=p}:=⟨_,rfl⟩
      rw[←hd1]
      have hXh:X.h=d1.h.setPc p:=by rw[hd1];exact e1
      have hc0:X.core0=QA d1 p:=by
        unfold RunD.core0 QA
        rw[hXh,e2,hd1]
      have hregs:d.h.regs=X.h.regs:=by rw[e1];rfl
      have a:At8 d1 p:=by
        rw[hd1]
        refine⟨ho,rfl,ht, ?_, ?_, ?_, ?_,by rw[←e2];exact hl, ?_⟩
        · have:=hs;rw[e1]at this;exact this
        · show d.h.regs.getD 0 0=0
          rw[hregs];exact hz
        · show d.h.regs.length=32
          rw[hregs];exact wf.h.len
        · show ∀x∈d.h.regs,U32 x
          rw[hregs];exact wf.h.regs
        · show d.bf<d.bt
          rw[b1,b2];omega
      have hi0:=hi i (List.mem_cons_self ..)
      obtain⟨r1,r2,r3,r4⟩:=isS_regs hi0.1
      have D:=body8 a i hi0.1 r1 r2 r3 r4 st
      have hgo:goS X.core0=doS i (QA d1 p):=by
        have hpc:X.core0.h.pc=p:=by rw[hc0];rfl
        have hm:X.core0.m=X.m:=rfl
        unfold goS
        rw[hpc,hm,f1]
        rw[if_pos rfl]
        have:X.core0.none=QA d1 p:=by rw[hc0];rfl
        rw[this]
      have hN:jU X={X with h:=(doS i (QA d1 p)).h,m:=(doS i (QA d1 p)).m,out:=X.out++(doS i (QA d1 p)).out,steps:=X.steps+1,stores:=if(doS i (QA d1 p)).fr<(doS i (QA d1 p)).tw then X.stores++[((doS i (QA d1 p)).fr,(doS i (QA d1 p)).tw)]else X.stores}:=by unfold jU;rw[hgo]
      have hMem:Mem8 X.m (doS i (QA d1 p)):=by
        have:=doS_mem8 (QA d1 p) (fun k=>by rw[←hc0];exact(reg_u wf.h k).1) i
        rw[←hc0]at this ⊢
        exact this
      rw[hgo]
      have hWf:(goS X.core0).Wf:=goS_wf wf (by show([]:List Int).length<_;simp)
      have hFin:Fin0 X.core0 (goS X.core0):=goS_fin X.h X.m hok hs
      rw[hgo]at hWf hFin
      obtain⟨e,he⟩:∃e,e=runL st (jZ i p) d1:=⟨_,rfl⟩
      rw[←he]at D ⊢
      generalize doS i (QA d1 p)=cc at *
      have E1:Eq8 (jU X) {e with h:=cc.h}:=by
        rw[hN]
        refine⟨rfl,D.m.symm, ?_, ?_, ?_⟩
        · show X.out++cc.out=e.out
          rw[D.out,hd1,e3]
        · show X.steps+1=e.steps
          rw[D.steps,hd1,e4]
        · show(if cc.fr<cc.tw then _ else _)=e.stores
          rw[D.stores,hd1,e5]
      have hst:e.steps=d.steps+1:=by rw[D.steps,hd1]
      by_cases co:e.over=true
      · obtain⟨y1,y2⟩:=D.yes co
        rw[ue co]
        have hfin:e.fin=e:=by unfold RunD.fin;rw[if_neg (fun h=>by rw[co]at h;exact absurd h.1 zL)]
        rw[hfin]
        have E2:Eq8 (jU X) e:=⟨E1.h.trans y1.symm,E1.m,E1.out,E1.steps,E1.stores⟩
        by_cases cb:brk8 pc last (pl8 pc (k+1)) cc=true
        · rw[if_pos cb];exact E2
        · rw[if_neg cb]
          have hr:r=[]:=by
            rcases f2 with h|h
            · exact h
            · rcases y2 with h2|h2
              · exact absurd (by unfold brk8;rw[show(cc.h.state !=0)=true by simpa using h2];rfl) cb
              · rw[h]at h2;cases h2
          subst hr
          exact E2
      · have co':e.over=false:=by simpa using co
        obtain⟨n1,n2⟩:=D.no co'
        have hpcc:cc.h.pc=pl8 pc (k+1):=by rw[←n1,q2];rfl
        have ebrk:brk8 pc last (pl8 pc (k+1)) cc=own8 pc last cc:=by
          unfold brk8
          rw[n2,hpcc]
          simp
        rw[ebrk]
        have eown:e.own=own8 pc last cc:=by rw[D.own,hd1];show(d.own||own8 d.bf d.bt cc)=_;rw[hw,b1,b2,Bool.false_or]
        rw[←q2]at n1
        by_cases cw:own8 pc last cc=true
        · rw[if_pos cw]
          rw[cw]at eown
          have E2:∀f:RunD,f.h=cc.h→f.m=e.m→f.out=e.out→f.steps=e.steps→f.stores=e.stores→Eq8 (jU X) f:=fun f g1 g2 g3 g4 g5=>⟨E1.h.trans g1.symm,E1.m.trans g2.symm,E1.out.trans g3.symm,E1.steps.trans g4.symm,E1.stores.trans g5.symm⟩
          cases r with
          | nil =>
            have ef:(runL st (rowM pc (k+1) []) e).fin={e with h:=e.h.setPc (u32 (e.here+4))}:=by
              show e.fin=_
              unfold RunD.fin
              rw[if_pos ⟨co',om⟩]
            rw[ef]
            refine E2 _ ?_ rfl rfl rfl rfl
            show e.h.setPc (u32 (e.here+4))=cc.h
            rw[D.here,←q2];exact n1
          | cons i' r' =>
            have ef:runL st (rowM pc (k+1) (i'::r')) e=e.stop (pl8 pc (k+1)):=by
              have er:rowM pc (k+1) (i'::r')=⟨1,0,0,0,pl8 pc (k+1)⟩::(jZ i' (pl8 pc (k+1))++rowM pc (k+1+1) r'):=rfl
              rw[er,uf _ _ co']
              have eo:e.one ⟨1,0,0,0,pl8 pc (k+1)⟩ st=e.stop (pl8 pc (k+1)):=by
                unfold RunD.one
                rw[if_pos rfl,if_pos (by rw[eown];simp)]
              rw[eo,ue rfl]
            rw[ef]
            have:(e.stop (pl8 pc (k+1))).fin=e.stop (pl8 pc (k+1)):=by unfold RunD.fin;rw[if_neg (fun h=>by have:=h.1;exact absurd this (by show ¬true=false;decide))]
            rw[this]
            exact E2 _ n1 rfl rfl rfl rfl
        · rw[if_neg cw]
          have cw':own8 pc last cc=false:=by simpa using cw
          rw[cw']at eown
          have hok2:=hFin.ok
          refine steps8_go pc last st h0 hlast r (k+1) e (jU X) ?_ E1.m E1.out E1.steps E1.stores co' eown D.tl (by rw[D.bf,hd1];exact b1) (by rw[D.bt,hd1];exact b2) ?_ ?_ ?_ ?_ (.inr ⟨om,by rw[D.here,←q2]⟩) om om ?_ (by push_cast;omega) (fun j hj=>hi j (List.mem_cons_of_mem _ hj))
          · rw[E1.h];exact n1.symm
          · rw[hN]
            exact⟨hWf.h,hWf.m,yZ,JF,JF,hWf.mlen,by show([]:List Int).length≤_;simp⟩
          · rw[hN];show cc.m.length≤4096
            rw[hFin.ml];exact hl
          · rw[hN];exact hok2
          · rw[hN];exact n2
          · rw[hN]
            show Blk8 cc.m (pl8 pc (k+1)) r
            have epn:pl8 pc (k+1)=pc+4*k+4:=by rw[q2,q1];unfold u32;omega
            refine blk8_keep r _ om om (fun q g1 g2=> ?_) f3
            rcases hMem with g3|⟨op,a',x,g3,g4,g5,g6,g7⟩
            · rw[g3]
            · rw[g5]
              obtain⟨t1,t2,t3⟩:=jl g3
              refine fetch_apart g4 om ?_ g3
              unfold own8 at cw'
              rw[g6,g7,Int.emod_eq_of_lt om om,sW om,sV,Bool.and_eq_false_iff,decide_eq_false_iff_not,decide_eq_false_iff_not]at cw'
              omega
structure Kept (m:List Int) (pc:Int) (l:List InsD):Prop where
  ne:l≠[]
  len:l.length≤16
  pos:0≤pc
  fits:pc+4*l.length≤m.length
  blk:Blk8 m pc l
  is:∀i∈l,isS i=true∧I32 i.imm
theorem kept_make{m:List Int}(hm:m.length≤4096){pc:Int}(hp:U32 pc)(hne:(jD m pc).2≠[]):Kept m pc (jD m pc).2:=by
  have hi:=makeS_is m pc
  have e:(jD m pc).2=rowS m 16 pc:=by unfold jD;rw[if_neg om]
  obtain⟨h1,h2⟩:=rowS_blk8 m hm 16 pc hp
  rw[e]at hne hi ⊢
  exact⟨hne,rowS_len m 16 pc,hp.1,h2 hne,h1,hi⟩
theorem Kept.store{m:List Int}(hm:m.length≤4096){pc:Int}{l:List InsD}(h:Kept m pc l){op a x:Int}(ha:0≤a)(hs:qU m op a=true)(hf:pc+4*l.length≤a∨a+qM op≤pc):Kept (qn m op a x) pc l:=by
  have h1:=h.pos
  have h2:=h.fits
  exact⟨h.ne,h.len,h.pos,by rw[Qv];exact h.fits,blk8_keep l pc h.pos om (fun q g1 g2=>fetch_apart ha om om hs) h.blk,h.is⟩
def qx(k:Nat):List (Int × Int)→List Hart→List Hart
  |[],hs=>hs
  |p::r,hs=>qx k r (qp k p.1 p.2 hs.length hs)
theorem loseTo_set(k:Nat)(fr tw:Int)(hs:List Hart)(h:Hart):qp k fr tw (hs.set k h).length (hs.set k h)=(qp k fr tw hs.length hs).set k h:=by
  apply List.ext_getElem
  · simp[QO]
  · intro i h1 h2
    have hi:i<hs.length:=by rw[QO,List.length_set]at h1;exact h1
    rw[Qh _ _ _ _ _ _ (by rw[List.length_set];exact hi),List.getElem_set,List.getElem_set]
    by_cases e:k=i
    · subst e;rw[if_neg (fun h=>h.2 rfl),if_pos rfl,if_pos rfl]
    · rw[if_neg e,if_neg e,Qh _ _ _ _ _ _ hi]
      simp only[List.length_set]
theorem loseAll_set(k:Nat)(h:Hart):∀(l:List (Int × Int)) (hs:List Hart),qx k l (hs.set k h)=(qx k l hs).set k h
  |[],_=>rfl
  | p :: r, hs => by
    rw[qx,qx,loseTo_set,loseAll_set k h r]
theorem JQ(k:Nat):∀(l:List (Int × Int)) (hs:List Hart),(qx k l hs).length=hs.length
  |[],_=>rfl
  |p::r,hs=>by rw[qx,JQ k r,QO]
theorem uH(k:Nat):∀(a b:List (Int × Int)) (hs:List Hart),qx k (a++b) hs=qx k b (qx k a hs)
  |[],_,_=>rfl
  |p::r,b,hs=>by rw[List.cons_append,qx,qx,uH k r b]
theorem loseAll_mem(k:Nat){P:Hart→Prop}(hl:∀fr tw h,P h→P (lose fr tw h)):∀(l:List (Int × Int)) (hs:List Hart),(∀h∈hs,P h)→∀h∈qx k l hs,P h
  |[],_,hp=>hp
  | p :: r, hs, hp => loseAll_mem k hl r _ (fun h hh => by
    obtain⟨i,hi,rfl⟩:=List.getElem_of_mem hh
    have hi':i<hs.length:=by rw[QO]at hi;exact hi
    rw[Qh _ _ _ _ _ _ hi']
    split
    · exact hl _ _ _ (hp _ (sU hi'))
    · exact hp _ (sU hi'))
theorem lose_none{h:Hart}(wf:h.Wf):lose 0 0 h=h:=by
  unfold lose
  have:=wf.heldAt.1
  rw[decide_eq_false (show ¬h.heldAt<0 by omega)]
  simp
theorem loseTo_none(k:Nat)(hs:List Hart)(wf:∀h∈hs,h.Wf):qp k 0 0 hs.length hs=hs:=by
  apply List.ext_getElem
  · exact QO _ _ _ _ _
  · intro i h1 h2
    rw[Qh _ _ _ _ _ _ h2]
    split
    · exact lose_none (wf _ (sU h2))
    · rfl
def Jp(s:St)(k:Nat)(X:RunD):St:=⟨qx k X.stores (s.harts.set k X.h),X.m,s.out++X.out,s.steps+X.steps.toNat⟩
theorem outSt_hart{s:St}{k:Nat}(hk:k<s.harts.length)(X:RunD):(Jp s k X).hart k=X.h:=by
  have e:qx k X.stores (s.harts.set k X.h)=(qx k X.stores s.harts).set k X.h:=loseAll_set k X.h _ _
  have hl:k<(Jp s k X).harts.length:=by
    show k<(qx k X.stores (s.harts.set k X.h)).length
    rw[JQ,List.length_set];exact hk
  rw[St.hart_at hl]
  show(qx k X.stores (s.harts.set k X.h))[k]'hl=X.h
  simp only[e,List.getElem_set_self]
theorem outSt_go{s:St}(wf:s.Wf){k:Nat}(hk:k<s.harts.length){X:RunD}(wx:X.core0.Wf)(hm:X.m.length≤4096)(h0:0≤X.steps):goM k (Jp s k X)=Jp s k (jU X):=by
  have hX:=outSt_hart hk X
  have hrg:Rng (goS X.core0):=goS_rng X.h wx.h X.m hm
  unfold goM
  rw[hX]
  have e0:(⟨X.h,(Jp s k X).mem,[],0,0⟩:qD)=X.core0:=rfl
  rw[e0]
  unfold Jp jU
  dsimp only
  rw[←loseAll_set k (goS X.core0).h,List.set_set,List.append_assoc]
  have es:s.steps+X.steps.toNat+1=s.steps+(X.steps+1).toNat:=om
  rw[es]
  congr 1
  have hw:∀h∈qx k X.stores (s.harts.set k (goS X.core0).h),h.Wf:=loseAll_mem k (fun _ _ _ h=>uP h) _ _ (fun h hh=>by
    rcases List.mem_or_eq_of_mem_set hh with h1|h1
    · exact wf.harts h h1
    · rw[h1];exact(goS_wf wx (by show([]:List Int).length<_;simp)).h)
  by_cases c:(goS X.core0).fr<(goS X.core0).tw
  · rw[if_pos c,uH]
    show qp k _ _ (qx k X.stores (s.harts.set k X.h)).length _=qx k [_] _
    rw[qx,qx,JQ,JQ,List.length_set,List.length_set]
  · rw[if_neg c]
    have e1:(goS X.core0).fr=0∧(goS X.core0).tw=0:=by
      rcases hrg with⟨h1,h2⟩|⟨h1,h2,h3⟩
      · exact⟨h1,h2⟩
      · exact absurd h2 c
    rw[e1.1,e1.2]
    have:=loseTo_none k _ hw
    rw[JQ,List.length_set]at this ⊢
    exact this
theorem next8_wf{X:RunD}(wx:X.core0.Wf):(jU X).core0.Wf:=by
  have h2:(goS X.core0).Wf:=goS_wf wx (by show([]:List Int).length<_;simp)
  exact⟨h2.h,h2.m,yZ,JF,JF,h2.mlen,by show([]:List Int).length≤_;simp⟩
theorem uk(X:RunD):(jU X).m.length=X.m.length:=goS_ml X.core0
theorem outSt_loop{s:St}(wf:s.Wf){k:Nat}(hk:k<s.harts.length)(bf bt left:Int):∀(n kk:Nat) (X:RunD),X.core0.Wf→X.m.length≤4096→0≤X.steps→X.h.state=0→
    qv k (left.toNat-X.steps.toNat) (Jp s k X)=qv k (left.toNat-(JH bf bt left n kk X).steps.toNat) (Jp s k (JH bf bt left n kk X))∧(JH bf bt left n kk X).core0.Wf∧(JH bf bt left n kk X).m.length≤4096∧X.steps≤(JH bf bt left n kk X).steps∧(0<n→X.steps<left→X.steps<(JH bf bt left n kk X).steps)∧(X.steps≤left→(JH bf bt left n kk X).steps≤left)
  |0,kk,X,wx,hm,h0,_=>⟨rfl,wx,hm,Int.le_refl _,fun h=>absurd h om,fun h=>h⟩
  | n + 1, kk, X, wx, hm, h0, hs => by
    unfold JH
    by_cases c:X.steps<left
    · rw[if_pos c]
      have hh:=outSt_hart hk X
      have hg:=outSt_go wf hk wx hm h0
      have hst:(jU X).steps=X.steps+1:=rfl
      have e1:left.toNat-X.steps.toNat=(left.toNat-(jU X).steps.toNat)+1:=by rw[hst];omega
      have e2:qv k (left.toNat-X.steps.toNat) (Jp s k X)=qv k (left.toNat-(jU X).steps.toNat) (Jp s k (jU X)):=by
        rw[e1,qv,hh,if_pos hs,hg]
      by_cases b:brk8 bf bt (pl8 bf (kk+1)) (goS X.core0)=true
      · rw[if_pos b]
        exact⟨e2,next8_wf wx,by rw[uk];exact hm,by rw[hst];omega,fun _ _=>by rw[hst];omega,fun _=>by rw[hst];omega⟩
      · rw[if_neg b]
        have b':brk8 bf bt (pl8 bf (kk+1)) (goS X.core0)=false:=by simpa using b
        have hs':(jU X).h.state=0:=by
          unfold brk8 at b'
          simp only[Bool.or_eq_false_iff,bne_eq_false_iff_eq]at b'
          exact b'.1.1
        obtain⟨i1,i2,i3,i4,i5,i6⟩:=outSt_loop wf hk bf bt left n (kk+1) (jU X) (next8_wf wx) (by rw[uk];exact hm) (by rw[hst];omega) hs'
        exact⟨e2.trans i1,i2,i3,by rw[hst]at i4;omega,fun _ _=>by rw[hst]at i4;omega,fun h=>i6 (by rw[hst];omega)⟩
    · rw[if_neg c]
      exact⟨rfl,wx,hm,Int.le_refl _,fun _ h=>absurd h c,fun h=>h⟩
theorem kept_mk{m:List Int}{pc:Int}{l:List InsD}(h:Kept m pc l):mkM pc l=rowM pc 0 l:=by
  unfold mkM
  rw[if_neg]
  rintro(h2|h2)
  · have:=h.len;omega
  · have:l.all isS=true:=List.all_eq_true.2 (fun i hi'=>(h.is i hi').1)
    rw[this]at h2;cases h2
theorem steps8_kept{d:RunD}{pc bt left:Int}{l:List InsD}(K:Kept d.m pc l)(hpc:d.h.pc=pc)(wf:d.core0.Wf)(hm:d.m.length≤4096)(hok:d.h.ok=true)(hs:d.h.state=0)(ho:d.over=false)(hw:d.own=false)(ht:d.temps.length=4)(hb:d.bf=pc)(hbt:bt=u32 (pc+4*(l.length:Int)))(hbt2:d.bt=bt)(hst:d.steps=0)(h0:0≤left):
    Eq8 (JH pc bt left l.length 0 d) (runL left (mkM pc l) d).fin:=by
  have h1:=K.pos
  have h2:=K.fits
  have hu:bt=pc+4*l.length:=by rw[hbt];unfold u32;omega
  have hpl:pl8 pc 0=pc:=by unfold pl8 u32;omega
  rw[kept_mk K]
  exact steps8_go pc bt left h1 om l 0 d d (by rw[hpl];exact(setPc_self hpc).symm) rfl rfl rfl rfl ho hw ht hb hbt2 wf hm hok hs (.inl ⟨hst,by rw[hpl];exact hpc⟩) om om (by rw[hpl];exact K.blk) (by rw[hu];simp) K.is
theorem goS_mem8{d:qD}(wf:d.Wf):Mem8 d.m (goS d):=by
  unfold goS
  split
  · exact doS_mem8 d.none (fun k=>(reg_u wf.h k).1) _
  · exact .inl rfl
theorem loop8_fetch(bf bt left:Int):∀(n kk:Nat) (X:RunD),X.core0.Wf→X.m.length≤4096→
    ∃new,(JH bf bt left n kk X).stores=X.stores++new∧(∀p∈new,0≤p.1∧p.1<p.2∧p.2≤4096)∧∀q,0≤q→(∀p∈new,q+4≤p.1∨p.2≤q)→qm (JH bf bt left n kk X).m q=qm X.m q
  |0,_,X,_,_=>⟨[],(List.append_nil _).symm,(by intro p hp;cases hp),fun _ _ _=>rfl⟩
  | n + 1, kk, X, wx, hm => by
    have one:∃new,(jU X).stores=X.stores++new∧(∀p∈new,0≤p.1∧p.1<p.2∧p.2≤4096)∧∀q,0≤q→(∀p∈new,q+4≤p.1∨p.2≤q)→qm (jU X).m q=qm X.m q:=by
      have hrg:Rng (goS X.core0):=goS_rng X.h wx.h X.m hm
      have hml:(goS X.core0).m.length=X.m.length:=goS_ml X.core0
      by_cases c:(goS X.core0).fr<(goS X.core0).tw
      · refine⟨[((goS X.core0).fr,(goS X.core0).tw)],by unfold jU;rw[if_pos c],fun p hp=> ?_,fun q hq hp=> ?_⟩
        · rw[List.mem_singleton]at hp
          subst hp
          rcases hrg with⟨h1,h2⟩|⟨h1,h2,h3⟩
          · omega
          · exact⟨h1,h2,by rw[hml]at h3;omega⟩
        · have hp2:=hp _ (List.mem_singleton.2 rfl)
          rcases goS_mem8 wx with g|⟨op,a,x,g3,g4,g5,g6,g7⟩
          · show qm (goS X.core0).m q=_
            rw[g];rfl
          · show qm (goS X.core0).m q=_
            obtain⟨t1,t2,t3⟩:=jl g3
            have t4:a+qM op≤X.m.length:=t3
            rw[g5]
            refine fetch_apart g4 hq ?_ g3
            rw[g6,g7,Int.emod_eq_of_lt om om]at hp2
            exact hp2
      · refine⟨[],by unfold jU;rw[if_neg c,List.append_nil],(by intro p hp;cases hp),fun q hq _=> ?_⟩
        rcases goS_mem8 wx with g|⟨op,a,x,g3,g4,g5,g6,g7⟩
        · show qm (goS X.core0).m q=_
          rw[g];rfl
        · obtain⟨t1,t2,t3⟩:=jl g3
          have t4:a+qM op≤X.m.length:=t3
          rw[g6,g7,Int.emod_eq_of_lt om om]at c
          omega
    obtain⟨nw,o1,o2,o3⟩:=one
    unfold JH
    split
    · split
      · exact⟨nw,o1,o2,o3⟩
      · obtain⟨nw2,r1,r2,r3⟩:=loop8_fetch bf bt left n (kk+1) (jU X) (next8_wf wx) (by rw[uk];exact hm)
        refine⟨nw++nw2,by rw[r1,o1,List.append_assoc],fun p hp=>(List.mem_append.1 hp).elim (o2 p) (r2 p),fun q hq hp=> ?_⟩
        exact(r3 q hq (fun p h=>hp p (List.mem_append_right _ h))).trans (o3 q hq (fun p h=>hp p (List.mem_append_left _ h)))
    · exact⟨[],(List.append_nil _).symm,(by intro p hp;cases hp),fun _ _ _=>rfl⟩
theorem Kept.apart{m m':List Int}{pc:Int}{l:List InsD}(h:Kept m pc l)(hl:m'.length=m.length)(hm:m.length≤4096)(hf:∀q,pc≤q→q+4≤pc+4*l.length→qm m' q=qm m q):Kept m' pc l:=by
  have h2:=h.fits
  exact⟨h.ne,h.len,h.pos,by rw[hl];exact h2,blk8_keep l pc h.pos om hf h.blk,h.is⟩
structure jk (m:List Int) (room:Int) (bl:List BlkD):Prop where
  room0:0≤room
  room1:room≤64
  len:(bl.length:Int)≤room
  nodup:(pcs bl).Nodup
  kept:∀x∈bl,Kept m x.pc x.ins
theorem jk.ins{m:List Int}{room:Int}{bl:List BlkD}(h:jk m room bl):∀x∈bl,x.ins.length≤16:=fun x hx=>(h.kept x hx).len
theorem putL_mem{room:Int}{l:List BlkD}{y x:BlkD}(h:x∈putL room l y):x∈l∨x=y:=by
  have key:x∈dq (QE l y.pc) l++[y]:=by
    unfold putL at h
    split at h
    · exact List.mem_of_mem_drop h
    · exact h
  rcases List.mem_append.1 key with h1|h1
  · exact .inl (dq_mem h1)
  · exact .inr (by simpa using h1)
theorem jk.put{m:List Int}{room:Int}{bl:List BlkD}(h:jk m room bl){y:BlkD}(hy:Kept m y.pc y.ins):jk m room (putL room bl y):=by
  obtain⟨h1,h2,h3,-⟩:=putL_keeps h.room0 h.len h.nodup h.ins (y:=y) hy.len
  refine⟨h.room0,h.room1,h2,h1,fun x hx=> ?_⟩
  rcases putL_mem hx with h4|rfl
  · exact h.kept x h4
  · exact hy
def jK:List (Int × Int)→List BlkD→List BlkD
  |[],bl=>bl
  |p::r,bl=>jK r (bl.filter (fun x=> !QC p.1 p.2 x))
theorem UE:∀(st:List (Int × Int)) (bl:List BlkD),(jK st bl).Sublist bl
  |[],_=>List.Sublist.refl _
  |p::r,bl=>(UE r _).trans List.filter_sublist
theorem UF:∀(st:List (Int × Int)) (bl:List BlkD) (x:BlkD),x∈jK st bl→x∈bl∧∀p∈st,QC p.1 p.2 x=false
  |[],_,_,h=>⟨h,(by intro p hp;cases hp)⟩
  | p :: r, bl, x, h => by
    obtain⟨h1,h2⟩:=UF r _ x h
    rw[List.mem_filter]at h1
    refine⟨h1.1,fun q hq=> ?_⟩
    rcases List.mem_cons.1 hq with rfl|hq
    · simpa using h1.2
    · exact h2 q hq
theorem jk.run{m m':List Int}{room:Int}{bl:List BlkD}(h:jk m room bl)(st:List (Int × Int))(hl:m'.length=m.length)(hm:m.length≤4096)(hp:∀p∈st,0≤p.1∧p.1<p.2∧p.2≤4096)
    (hf:∀q,0≤q→(∀p∈st,q+4≤p.1∨p.2≤q)→qm m' q=qm m q):jk m' room (jK st bl):=by
  have hsub:=UE st bl
  refine⟨h.room0,h.room1,by have:=hsub.length_le;have:=h.len;omega,pcs_sub hsub h.nodup,fun x hx=> ?_⟩
  obtain⟨h1,h2⟩:=UF st bl x hx
  have k:=h.kept x h1
  have k1:=k.pos
  refine k.apart hl hm (fun q g1 g2=>hf q om (fun p hq=> ?_))
  have h3:=h2 p hq
  have h4:=hp p hq
  unfold QC hasB at h3
  rw[decide_eq_false_iff_not]at h3
  omega
theorem loop8_pick{s:St}(wf:s.Wf){k:Nat}(hk:k<s.harts.length)(bf bt left:Int):∀(n kk:Nat) (X:RunD),X.core0.Wf→X.m.length≤4096→0≤X.steps→X.h.state=0→
    ∃j:Nat,Jp s k (JH bf bt left n kk X)=qv k j (Jp s k X)∧(JH bf bt left n kk X).steps=X.steps+j
  |0,kk,X,wx,hm,h0,_=>⟨0,rfl,by show X.steps=_;omega⟩
  | n + 1, kk, X, wx, hm, h0, hs => by
    unfold JH
    by_cases c:X.steps<left
    · rw[if_pos c]
      have hh:=outSt_hart hk X
      have hg:=outSt_go wf hk wx hm h0
      have hst:(jU X).steps=X.steps+1:=rfl
      have e2:∀j,qv k (j+1) (Jp s k X)=qv k j (Jp s k (jU X)):=fun j=>by
        rw[qv,hh,if_pos hs,hg]
      by_cases b:brk8 bf bt (pl8 bf (kk+1)) (goS X.core0)=true
      · rw[if_pos b]
        exact⟨1,(e2 0).symm,hst⟩
      · rw[if_neg b]
        have b':brk8 bf bt (pl8 bf (kk+1)) (goS X.core0)=false:=by simpa using b
        have hs':(jU X).h.state=0:=by
          unfold brk8 at b'
          simp only[Bool.or_eq_false_iff,bne_eq_false_iff_eq]at b'
          exact b'.1.1
        obtain⟨j,i1,i2⟩:=loop8_pick wf hk bf bt left n (kk+1) (jU X) (next8_wf wx) (by rw[uk];exact hm) (by rw[hst];omega) hs'
        exact⟨j+1,i1.trans (e2 j).symm,by rw[i2,hst];omega⟩
    · rw[if_neg c]
      exact⟨0,rfl,om⟩
theorem loop8_ml(bf bt left:Int):∀(n kk:Nat) (X:RunD),(JH bf bt left n kk X).m.length=X.m.length
  |0,_,_=>rfl
  | n + 1, kk, X => by
    unfold JH
    split
    · split
      · exact uk X
      · rw[loop8_ml bf bt left n (kk+1) (jU X),uk]
    · rfl
theorem set_hart{s:St}{k:Nat}(hk:k<s.harts.length):s.harts.set k (s.hart k)=s.harts:=by
  rw[St.hart_at hk];exact List.set_getElem_self hk
def runB(h:Hart)(m o:List Int)(bf bt:Int):RunD:={run0 h m bf bt with out:=o}
def runE(h:Hart)(m o:List Int)(bf bt:Int):RunD:={run0 h m bf bt with out:=o,here:=0}
theorem runE_wf{h:Hart}{m o:List Int}{bf bt:Int}(wf:h.Wf)(hb:QP m)(hl:m.length≤4096)(ho:∀x∈o,U32 x)(h1:U32 bf)(h2:U32 bt):(runE h m o bf bt).Wf:=
  {run0_wf wf hb om h1 h2 with out:=ho,here:=JF}
theorem block_turn{s1:St}(g:s1.Good){k:Nat}(hk:k<s1.harts.length)(hst:(s1.hart k).state=0){l:List InsD}(K:Kept s1.mem (s1.hart k).pc l){left:Nat}(hl:0<left){o0 o:List Int}(ho:s1.out=o0++o)
    (X:RunD) (hX:X=(runL left (mkM (s1.hart k).pc l) (runB (s1.hart k) s1.mem o (s1.hart k).pc (u32 ((s1.hart k).pc+4*(l.length:Int))))).fin):
    ∃j:Nat,X.steps=j∧1≤j∧j≤left∧(⟨qx k X.stores (s1.harts.set k X.h),X.m,o0++X.out,s1.steps+j⟩:St)=qv k j s1∧(∀p∈X.stores,0≤p.1∧p.1<p.2∧p.2≤4096)∧(∀room zs,jk s1.mem room zs→jk X.m room (jK X.stores zs))∧X.m.length=s1.mem.length:=by
  have hm:=g.wf.mlen
  obtain⟨d,hd⟩:∃d,d=(runB (s1.hart k) s1.mem o (s1.hart k).pc (u32 ((s1.hart k).pc+4*(l.length:Int)))):=⟨_,rfl⟩
  rw[←hd]at hX
  have d1:d.h=s1.hart k:=wL
  have d2:d.m=s1.mem:=wL
  have d3:d.out=o:=wL
  have d4:d.steps=0:=wL
  have d5:d.stores=[]:=wL
  have wf0:d.core0.Wf:=by
    have h1:(s1.hart k).Wf:=g.wf.hart k
    refine⟨by rw[show d.core0.h=d.h from rfl,d1];exact h1,by rw[show d.core0.m=d.m from rfl,d2];exact g.wf.mem,yZ,JF,JF,by rw[show d.core0.m=d.m from rfl,d2];omega,by show([]:List Int).length≤_;simp⟩
  have E:=steps8_kept (d:=d) (pc:=(s1.hart k).pc) (bt:=u32 ((s1.hart k).pc+4*(l.length:Int))) (left:=left) (l:=l) (by rw[d2];exact K) (by rw[d1]) wf0 (by rw[d2];exact hm) (by rw[d1];exact g.hart k) (by rw[d1];exact hst) wL wL wL wL rfl wL d4 om
  rw[←hX]at E
  obtain⟨L,hL⟩:∃L,L=JH (s1.hart k).pc (u32 ((s1.hart k).pc+4*(l.length:Int))) left l.length 0 d:=⟨_,rfl⟩
  have hml:=loop8_ml (s1.hart k).pc (u32 ((s1.hart k).pc+4*(l.length:Int))) left l.length 0 d
  have hwf:({s1 with out:=o0}:St).Wf:=⟨g.wf.harts,g.wf.mem,g.wf.mlen,fun x hx=>g.wf.out x (by rw[ho];exact List.mem_append_left _ hx)⟩
  obtain⟨j,j1,j2⟩:=loop8_pick (s:={s1 with out:=o0}) hwf hk (s1.hart k).pc (u32 ((s1.hart k).pc+4*(l.length:Int))) left l.length 0 d wf0 (by rw[d2];exact hm) (by rw[d4];exact Int.le_refl _) (by rw[d1];exact hst)
  obtain⟨-,-,-,q4,q5,q6⟩:=outSt_loop (s:={s1 with out:=o0}) hwf hk (s1.hart k).pc (u32 ((s1.hart k).pc+4*(l.length:Int))) left l.length 0 d wf0 (by rw[d2];exact hm) (by rw[d4];exact Int.le_refl _) (by rw[d1];exact hst)
  obtain⟨nw,f1,f2,f3⟩:=loop8_fetch (s1.hart k).pc (u32 ((s1.hart k).pc+4*(l.length:Int))) left l.length 0 d wf0 (by rw[d2];exact hm)
  rw[←hL]at E j1 j2 q5 q6 f1 f3 hml
  rw[d4]at j2 q5 q6
  rw[d5,List.nil_append]at f1
  rw[d2]at hml f3
  have hlen:0<l.length:=List.length_pos_iff.2 K.ne
  have hs0:Jp {s1 with out:=o0} k d=s1:=by
    unfold Jp
    rw[d1,d2,d3,d4,d5,←ho]
    show(⟨s1.harts.set k (s1.hart k),s1.mem,s1.out,s1.steps+0⟩:St)=s1
    rw[set_hart hk]
    rfl
  rw[hs0]at j1
  have e5:=q5 hlen om
  have e6:=q6 om
  refine⟨j,by rw[←E.steps,j2];omega,om,om, ?_,fun p hp=>f2 p (by rw[←f1,E.stores];exact hp),fun room zs hz=> ?_,by rw[←E.m];exact hml⟩
  · rw[←j1,←E.stores,←E.h,←E.m,←E.out]
    unfold Jp
    congr 1
    show s1.steps+j=s1.steps+L.steps.toNat
    rw[j2];omega
  · rw[←E.stores,←E.m]
    exact hz.run L.stores hml hm (by rw[f1];exact f2) (fun q hq hp=>f3 q hq (by rw[←f1];exact hp))
theorem trap_turn{s:St}{k:Nat}(hk:k<s.harts.length)(hm:s.mem.length≤4096)(he:(jD s.mem (s.hart k).pc).2=[]):((goM k s).hart k).state≠0:=by
  have e2:(jD s.mem (s.hart k).pc).2=rowS s.mem 16 (s.hart k).pc:=by unfold jD;rw[if_neg om]
  rw[e2,row_step]at he
  have hf:¬(qm s.mem (s.hart k).pc).2=0:=fun e=>by rw[if_pos e]at he;cases he
  have hh:(goM k s).hart k=(goS (⟨s.hart k,s.mem,[],0,0⟩:qD)).h:=by
    obtain⟨c,hc⟩:∃c,c=goS (⟨s.hart k,s.mem,[],0,0⟩:qD):=⟨_,rfl⟩
    have hl:k<(qp k c.fr c.tw s.harts.length (s.harts.set k c.h)).length:=by rw[QO,List.length_set];exact hk
    have e:(goM k s).hart k=(qp k c.fr c.tw s.harts.length (s.harts.set k c.h)).getD k JS:=by rw[hc];rfl
    rw[e,List.getD,sZ hl,←hc]
    show(qp k c.fr c.tw s.harts.length (s.harts.set k c.h))[k]'hl=_
    rw[Qh _ _ _ _ _ _ (by rw[List.length_set];exact hk),if_neg om,List.getElem_set_self]
  rw[hh]
  unfold goS
  rw[if_neg hf]
  have:=fetchS_c s.mem (s.hart k).pc
  show(2:Int)≠0
  decide
theorem pickM_ol{k:Nat}:∀(n:Nat) {s:St},s.Good→(qv k n s).out.length≤s.out.length+n
  |0,_,_=>sO _
  | n + 1, s, h => by
    unfold qv
    split
    · rename_i hs
      have h1:=pickM_ol (k:=k) n (goM_good h hs)
      have hf:=goS_fin (s.hart k) s.mem (h.hart k) hs
      have h2:(goM k s).out.length≤s.out.length+1:=by
        show(s.out++(goS _).out).length≤_
        have:=hf.ol
        rw[List.length_append];omega
      omega
    · omega
end Go.Proofs.YtlfnddmncbkjaacGreat.Fb
