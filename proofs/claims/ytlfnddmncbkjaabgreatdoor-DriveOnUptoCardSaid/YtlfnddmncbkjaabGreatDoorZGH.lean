import Derived.Test.YtlfnddmncbkjaabGreatDoorZGG
set_option linter.unusedVariables false
set_option linter.unusedSimpArgs false
set_option maxRecDepth 100000
set_option maxHeartbeats 4000000
namespace Go.Proofs.YtlfnddmncbkjaabGreatDoor.Fb
open Go.RowKit
def Mem8(m:List Int)(c:qF):Prop:=c.m=m∨∃op a x,qU m op a=true∧0≤a∧c.m=Qg m op a x∧c.fr=a∧c.tw=(a+qO op)%4294967296
theorem put_mem8(d:qF)(op a x:Int)(ha:0≤a):Mem8 d.m (d.put op a x):=by
  unfold qF.put
  by_cases c:qU d.m op a=true
  · rw[if_pos c];exact .inr ⟨op,a,x,c,ha,rfl,rfl,rfl⟩
  · rw[if_neg c];exact .inl rfl
theorem ite_mem8{m:List Int}{c:Prop}[Decidable c]{a b:qF}(h1:c→Mem8 m a)(h2:¬c→Mem8 m b):Mem8 m (if c then a else b):=by split;exact h1 ‹_›;exact h2 ‹_›
theorem atomS_mem8(d:qF)(op a b:Int)(ha:0≤a):Mem8 d.m (qb d op a b).1:=by
  unfold qb
  split
  · split
    · exact .inl rfl
    · split
      · split
        · exact put_mem8 d 18 a b ha
        · exact .inl rfl
      · exact put_mem8 d 18 a _ ha
  · exact .inl rfl
theorem callS_m(d:qF):(qx d).1.m=d.m:=by
  unfold qx
  split
  · rfl
  · split<;>rfl
theorem doS_mem8(d:qF)(hr:∀k,0≤d.h.reg k)(i:InsD):Mem8 d.m (doS i d):=by
  unfold doS
  dsimp only
  repeat' (with_reducible refine ite_mem8 (fun _=> ?_) (fun _=> ?_))
  all_goals first
    |exact .inl rfl
    |exact put_mem8 d i.op _ _ (Int.emod_nonneg _ zF)
    |exact atomS_mem8 d i.op (d.h.reg i.rs1) (d.h.reg i.rs2) (hr _)
    |exact .inl (callS_m d)
theorem mLoad_apart{m:List Int}{op a x:Int}(ha:0≤a){q:Int}(hq:0≤q)(h:q+4≤a∨a+qO op≤q)(hs:qU m op a=true):QB (Qg m op a x) 13 q=QB m 13 q∧qY (Qg m op a x) 13 q=qY m 13 q:=by
  obtain⟨h1,h2,h3⟩:=jV hs
  obtain⟨k,rfl⟩:=sQ ha
  obtain⟨j,rfl⟩:=sQ hq
  have e:qY (Qg m op k x) 13 j=qY m 13 j:=by unfold qY;rw[Qk]
  refine⟨?_,e⟩
  by_cases c:qY m 13 j=true
  · rw[mLoad_13 c,mLoad_13 (by rw[e];exact c)]
    unfold Qg
    rw[if_pos hs,uj _ _ _ _ _ om,uj _ _ _ _ _ om,uj _ _ _ _ _ om,uj _ _ _ _ _ om]
  · unfold QB
    rw[if_neg (by rw[e];exact c),if_neg c]
theorem fetch_apart{m:List Int}{op a x:Int}(ha:0≤a){q:Int}(hq:0≤q)(h:q+4≤a∨a+qO op≤q)(hs:qU m op a=true):qc (Qg m op a x) q=qc m q:=by
  obtain⟨e1,e2⟩:=mLoad_apart (x:=x) ha hq h hs
  unfold qc
  rw[e1,e2]
def Blk8(m:List Int):Int→List InsD→Prop
  |_,[]=>True
  |p,i::r=>qc m p=(i,0)∧(r=[]∨lastB i.op=false)∧Blk8 m (u32 (p+4)) r
theorem blk8_keep{m m':List Int}:∀(l:List InsD) (p:Int),0≤p→p+4*l.length≤4096→(∀q,p≤q→q+4≤p+4*l.length→qc m' q=qc m q)→Blk8 m p l→Blk8 m' p l
  |[],_,_,_,_,_=>trivial
  | i :: r, p, h0, h1, hk, ⟨b1, b2, b3⟩ => by
    simp only[List.length_cons]at h1 hk
    have e:u32 (p+4)=p+4:=by unfold u32;omega
    refine⟨(hk p om om).trans b1,b2, ?_⟩
    rw[e]at b3 ⊢
    exact blk8_keep r (p+4) om om (fun q h3 h4=>hk q om om) b3
theorem rowS_blk8(m:List Int)(hm:m.length≤4096):∀(n:Nat) (p:Int),U32 p→Blk8 m p (rowS m n p)∧(rowS m n p≠[]→p+4*(rowS m n p).length≤m.length)
  |0,_,_=>⟨trivial,fun h=>absurd rfl h⟩
  | n + 1, p, hp => by
    rw[row_step]
    by_cases c:(qc m p).2=0
    · rw[if_pos c]
      have hok:p+4≤m.length:=by
        by_cases q:qY m 13 p=true
        · unfold qY there at q
          simp only[Bool.and_eq_true,decide_eq_true_eq]at q
          exact q.2.2
        · unfold qc at c
          rw[if_neg q]at c
          exact absurd c zF
      have hp0:=hp.1
      by_cases hb:lastB (qc m p).1.op=true
      · rw[if_pos hb]
        exact⟨⟨Prod.ext rfl c,.inl rfl,trivial⟩,fun _=>by simp only[List.length_cons,List.length_nil];omega⟩
      · rw[if_neg hb]
        obtain⟨i1,i2⟩:=rowS_blk8 m hm n ((p+4)%4294967296) (Qp _)
        refine⟨⟨Prod.ext rfl c,.inr (by simpa using hb),i1⟩,fun _=> ?_⟩
        by_cases hr:rowS m n ((p+4)%4294967296)=[]
        · rw[hr];simp only[List.length_cons,List.length_nil];omega
        · have:=i2 hr
          simp only[List.length_cons]
          omega
    · rw[if_neg c]
      exact⟨trivial,fun h=>absurd rfl h⟩
structure Eq8 (a b:RunD):Prop where
  h:a.h=b.h
  m:a.m=b.m
  out:a.out=b.out
  steps:a.steps=b.steps
  stores:a.stores=b.stores
theorem setPc_self{h:Hart}{p:Int}(e:h.pc=p):h.setPc p=h:=by subst e;rfl
theorem pl8_next{pc:Int}(h0:0≤pc){k:Nat}(h1:pc+4*(k:Int)≤4096):pl8 pc k=pc+4*k∧pl8 pc (k+1)=u32 (pl8 pc k+4):=by
  unfold pl8 u32;omega
theorem steps8_go(pc last st:Int)(h0:0≤pc)(hlast:last≤4096):∀(l:List InsD) (k:Nat) (d X:RunD),
    X.h=d.h.setPc (pl8 pc k)→X.m=d.m→X.out=d.out→X.steps=d.steps→X.stores=d.stores→d.over=false→d.own=false→d.temps.length=4→d.bf=pc→d.bt=last→X.core0.Wf→X.m.length≤4096→
    X.h.ok=true→X.h.state=0→(d.steps=0∧d.h.pc=pl8 pc k∨0<d.steps∧u32 (d.here+4)=pl8 pc k)→0≤d.steps→d.steps≤st→Blk8 X.m (pl8 pc k) l→pc+4*k+4*l.length=last→(∀i∈l,isS i=true∧I32 i.imm)→
    Eq8 (jq pc last st l.length k X) (runL st (rowM pc k l) d).fin
  | [], k, d, X, e1, e2, e3, e4, e5, ho, hw, ht, b1, b2, wf, hl, hz, hs, hp, hn, hle, hb, hlen, hi => by
    have key:(runL st (rowM pc k []) d).fin=d.fin:=rfl
    rw[key]
    show Eq8 X d.fin
    unfold RunD.fin
    rcases hp with⟨p1,p2⟩|⟨p1,p2⟩
    · rw[if_neg om]
      exact⟨by rw[e1];exact setPc_self p2,e2,e3,e4,e5⟩
    · rw[if_pos ⟨ho,p1⟩,p2]
      exact⟨e1,e2,e3,e4,e5⟩
  | i :: r, k, d, X, e1, e2, e3, e4, e5, ho, hw, ht, b1, b2, wf, hl, hz, hs, hp, hn, hle, hb, hlen, hi => by
    have hok:=hz
    replace hz:X.h.regs.getD 0 0=0:=((Jn hs).1 hok).1
    simp only[List.length_cons]at hlen
    obtain⟨f1,f2,f3⟩:=hb
    have hkl:pc+4*(k:Int)≤4096:=om
    obtain⟨q1,q2⟩:=pl8_next h0 hkl
    rw[←q2]at f3
    obtain⟨p,hpd⟩:∃p,p=pl8 pc k:=⟨_,rfl⟩
    have erow:rowM pc k (i::r)=⟨1,0,0,0,p⟩::(uv i p++rowM pc (k+1) r):=by rw[hpd];rfl
    rw[erow,uY _ _ ho]
    rw[←hpd]at e1 hp f1 q1 q2
    have elen:(i::r).length=r.length+1:=rfl
    rw[elen,jq]
    by_cases c:d.steps=st
    · have eone:d.one ⟨1,0,0,0,p⟩ st=d.stop p:=by
        unfold RunD.one
        rw[if_pos rfl,if_pos (by rw[c];simp)]
      rw[eone,uW rfl,if_neg om]
      have:(d.stop p).fin=d.stop p:=by unfold RunD.fin;rw[if_neg (fun h=>by have:=h.1;exact absurd this (by show ¬true=false;decide))]
      rw[this]
      exact⟨e1,e2,e3,e4,e5⟩
    · have eone:d.one ⟨1,0,0,0,p⟩ st={d with steps:=d.steps+1,here:=p}:=by
        unfold RunD.one
        rw[if_pos rfl,if_neg (by rw[hw];simpa using c)]
      rw[eone,if_pos om,runL_append]
      obtain⟨d1,hd1⟩:∃d1,d1={d with steps:=d.steps+1,here:=p}:=⟨_,rfl⟩
      rw[←hd1]
      have hXh:X.h=d1.h.setPc p:=by rw[hd1];exact e1
      have hc0:X.core0=qn d1 p:=by
        unfold RunD.core0 qn
        rw[hXh,e2,hd1]
      have hregs:d.h.regs=X.h.regs:=by rw[e1];rfl
      have a:At8 d1 p:=by
        rw[hd1]
        refine⟨ho,rfl,ht, ?_, ?_, ?_, ?_,by rw[←e2];exact hl, ?_⟩
        · have:=hs;rw[e1]at this;exact this
        · show d.h.regs.getD 0 0=0
          rw[hregs];exact hz
        · show d.h.regs.length=32
          rw[hregs];exact wf.h.len
        · show ∀x∈d.h.regs,U32 x
          rw[hregs];exact wf.h.regs
        · show d.bf<d.bt
          rw[b1,b2];omega
      have hi0:=hi i (List.mem_cons_self ..)
      obtain⟨r1,r2,r3,r4⟩:=uk hi0.1
      have D:=body8 a i hi0.1 r1 r2 r3 r4 st
      have hgo:goS X.core0=doS i (qn d1 p):=by
        have hpc:X.core0.h.pc=p:=by rw[hc0];rfl
        have hm:X.core0.m=X.m:=rfl
        unfold goS
        rw[hpc,hm,f1]
        rw[if_pos rfl]
        have:X.core0.none=qn d1 p:=by rw[hc0];rfl
        rw[this]
      have hN:jB X={X with h:=(doS i (qn d1 p)).h,m:=(doS i (qn d1 p)).m,out:=X.out++(doS i (qn d1 p)).out,steps:=X.steps+1,stores:=if(doS i (qn d1 p)).fr<(doS i (qn d1 p)).tw then X.stores++[((doS i (qn d1 p)).fr,(doS i (qn d1 p)).tw)]else X.stores}:=by unfold jB;rw[hgo]
      have hMem:Mem8 X.m (doS i (qn d1 p)):=by
        have:=doS_mem8 (qn d1 p) (fun k=>by rw[←hc0];exact(reg_u wf.h k).1) i
        rw[←hc0]at this ⊢
        exact this
      rw[hgo]
      have hWf:(goS X.core0).Wf:=goS_wf wf (by show([]:List Int).length<_;simp)
      have hFin:Fin0 X.core0 (goS X.core0):=goS_fin X.h X.m hok hs
      rw[hgo]at hWf hFin
      obtain⟨e,he⟩:∃e,e=runL st (uv i p) d1:=⟨_,rfl⟩
      rw[←he]at D ⊢
      generalize doS i (qn d1 p)=cc at *
      have E1:Eq8 (jB X) {e with h:=cc.h}:=by
        rw[hN]
        refine⟨rfl,D.m.symm, ?_, ?_, ?_⟩
        · show X.out++cc.out=e.out
          rw[D.out,hd1,e3]
        · show X.steps+1=e.steps
          rw[D.steps,hd1,e4]
        · show(if cc.fr<cc.tw then _ else _)=e.stores
          rw[D.stores,hd1,e5]
      have hst:e.steps=d.steps+1:=by rw[D.steps,hd1]
      by_cases co:e.over=true
      · obtain⟨y1,y2⟩:=D.yes co
        rw[uW co]
        have hfin:e.fin=e:=by unfold RunD.fin;rw[if_neg (fun h=>by rw[co]at h;exact absurd h.1 zF)]
        rw[hfin]
        have E2:Eq8 (jB X) e:=⟨E1.h.trans y1.symm,E1.m,E1.out,E1.steps,E1.stores⟩
        by_cases cb:brk8 pc last (pl8 pc (k+1)) cc=true
        · rw[if_pos cb];exact E2
        · rw[if_neg cb]
          have hr:r=[]:=by
            rcases f2 with h|h
            · exact h
            · rcases y2 with h2|h2
              · exact absurd (by unfold brk8;rw[show(cc.h.state !=0)=true by simpa using h2];rfl) cb
              · rw[h]at h2;cases h2
          subst hr
          exact E2
      · have co':e.over=false:=by simpa using co
        obtain⟨n1,n2⟩:=D.no co'
        have hpcc:cc.h.pc=pl8 pc (k+1):=by rw[←n1,q2];rfl
        have ebrk:brk8 pc last (pl8 pc (k+1)) cc=own8 pc last cc:=by
          unfold brk8
          rw[n2,hpcc]
          simp
        rw[ebrk]
        have eown:e.own=own8 pc last cc:=by rw[D.own,hd1];show(d.own||own8 d.bf d.bt cc)=_;rw[hw,b1,b2,Bool.false_or]
        rw[←q2]at n1
        by_cases cw:own8 pc last cc=true
        · rw[if_pos cw]
          rw[cw]at eown
          have E2:∀f:RunD,f.h=cc.h→f.m=e.m→f.out=e.out→f.steps=e.steps→f.stores=e.stores→Eq8 (jB X) f:=fun f g1 g2 g3 g4 g5=>⟨E1.h.trans g1.symm,E1.m.trans g2.symm,E1.out.trans g3.symm,E1.steps.trans g4.symm,E1.stores.trans g5.symm⟩
          cases r with
          | nil =>
            have ef:(runL st (rowM pc (k+1) []) e).fin={e with h:=e.h.setPc (u32 (e.here+4))}:=by
              show e.fin=_
              unfold RunD.fin
              rw[if_pos ⟨co',om⟩]
            rw[ef]
            refine E2 _ ?_ rfl rfl rfl rfl
            show e.h.setPc (u32 (e.here+4))=cc.h
            rw[D.here,←q2];exact n1
          | cons i' r' =>
            have ef:runL st (rowM pc (k+1) (i'::r')) e=e.stop (pl8 pc (k+1)):=by
              have er:rowM pc (k+1) (i'::r')=⟨1,0,0,0,pl8 pc (k+1)⟩::(uv i' (pl8 pc (k+1))++rowM pc (k+1+1) r'):=rfl
              rw[er,uY _ _ co']
              have eo:e.one ⟨1,0,0,0,pl8 pc (k+1)⟩ st=e.stop (pl8 pc (k+1)):=by
                unfold RunD.one
                rw[if_pos rfl,if_pos (by rw[eown];simp)]
              rw[eo,uW rfl]
            rw[ef]
            have:(e.stop (pl8 pc (k+1))).fin=e.stop (pl8 pc (k+1)):=by unfold RunD.fin;rw[if_neg (fun h=>by have:=h.1;exact absurd this (by show ¬true=false;decide))]
            rw[this]
            exact E2 _ n1 rfl rfl rfl rfl
        · rw[if_neg cw]
          have cw':own8 pc last cc=false:=by simpa using cw
          rw[cw']at eown
          have hok2:=hFin.ok
          refine steps8_go pc last st h0 hlast r (k+1) e (jB X) ?_ E1.m E1.out E1.steps E1.stores co' eown D.tl (by rw[D.bf,hd1];exact b1) (by rw[D.bt,hd1];exact b2) ?_ ?_ ?_ ?_ (.inr ⟨om,by rw[D.here,←q2]⟩) om om ?_ (by push_cast;omega) (fun j hj=>hi j (List.mem_cons_of_mem _ hj))
          · rw[E1.h];exact n1.symm
          · rw[hN]
            exact⟨hWf.h,hWf.m,zW,jp,jp,hWf.mlen,by show([]:List Int).length≤_;simp⟩
          · rw[hN];show cc.m.length≤4096
            rw[hFin.ml];exact hl
          · rw[hN];exact hok2
          · rw[hN];exact n2
          · rw[hN]
            show Blk8 cc.m (pl8 pc (k+1)) r
            have epn:pl8 pc (k+1)=pc+4*k+4:=by rw[q2,q1];unfold u32;omega
            refine blk8_keep r _ om om (fun q g1 g2=> ?_) f3
            rcases hMem with g3|⟨op,a',x,g3,g4,g5,g6,g7⟩
            · rw[g3]
            · rw[g5]
              obtain⟨t1,t2,t3⟩:=jV g3
              refine fetch_apart g4 om ?_ g3
              unfold own8 at cw'
              rw[g6,g7,Int.emod_eq_of_lt om om,decide_eq_true om,Bool.true_and,Bool.and_eq_false_iff,decide_eq_false_iff_not,decide_eq_false_iff_not]at cw'
              omega
structure Kept (m:List Int) (pc:Int) (l:List InsD):Prop where
  ne:l≠[]
  len:l.length≤16
  pos:0≤pc
  fits:pc+4*l.length≤m.length
  blk:Blk8 m pc l
  is:∀i∈l,isS i=true∧I32 i.imm
theorem kept_make{m:List Int}(hm:m.length≤4096){pc:Int}(hp:U32 pc)(hne:(QS m pc).2≠[]):Kept m pc (QS m pc).2:=by
  have hi:=makeS_is m pc
  have e:(QS m pc).2=rowS m 16 pc:=by unfold QS;rw[if_neg om]
  obtain⟨h1,h2⟩:=rowS_blk8 m hm 16 pc hp
  rw[e]at hne hi ⊢
  exact⟨hne,rowS_len m 16 pc,hp.1,h2 hne,h1,hi⟩
theorem Kept.store{m:List Int}(hm:m.length≤4096){pc:Int}{l:List InsD}(h:Kept m pc l){op a x:Int}(ha:0≤a)(hs:qU m op a=true)(hf:pc+4*l.length≤a∨a+qO op≤pc):Kept (Qg m op a x) pc l:=by
  have h1:=h.pos
  have h2:=h.fits
  exact⟨h.ne,h.len,h.pos,by rw[Qk];exact h.fits,blk8_keep l pc h.pos om (fun q g1 g2=>fetch_apart ha om om hs) h.blk,h.is⟩
def qm(k:Nat):List (Int × Int)→List Hart→List Hart
  |[],hs=>hs
  |p::r,hs=>qm k r (QA k p.1 p.2 hs.length hs)
theorem loseTo_set(k:Nat)(fr tw:Int)(hs:List Hart)(h:Hart):QA k fr tw (hs.set k h).length (hs.set k h)=(QA k fr tw hs.length hs).set k h:=by
  apply List.ext_getElem
  · simp[QF]
  · intro i h1 h2
    have hi:i<hs.length:=by rw[QF,List.length_set]at h1;exact h1
    rw[QT _ _ _ _ _ _ (by rw[List.length_set];exact hi),List.getElem_set,List.getElem_set]
    by_cases e:k=i
    · subst e;rw[if_neg (fun h=>h.2 rfl),if_pos rfl,if_pos rfl]
    · rw[if_neg e,if_neg e,QT _ _ _ _ _ _ hi]
      simp only[List.length_set]
theorem loseAll_set(k:Nat)(h:Hart):∀(l:List (Int × Int)) (hs:List Hart),qm k l (hs.set k h)=(qm k l hs).set k h
  |[],_=>rfl
  | p :: r, hs => by
    rw[qm,qm,loseTo_set,loseAll_set k h r]
theorem JA(k:Nat):∀(l:List (Int × Int)) (hs:List Hart),(qm k l hs).length=hs.length
  |[],_=>rfl
  |p::r,hs=>by rw[qm,JA k r,QF]
theorem Jo(k:Nat):∀(a b:List (Int × Int)) (hs:List Hart),qm k (a++b) hs=qm k b (qm k a hs)
  |[],_,_=>rfl
  |p::r,b,hs=>by rw[List.cons_append,qm,qm,Jo k r b]
theorem loseAll_mem(k:Nat){P:Hart→Prop}(hl:∀fr tw h,P h→P (lose fr tw h)):∀(l:List (Int × Int)) (hs:List Hart),(∀h∈hs,P h)→∀h∈qm k l hs,P h
  |[],_,hp=>hp
  | p :: r, hs, hp => loseAll_mem k hl r _ (fun h hh => by
    obtain⟨i,hi,rfl⟩:=List.getElem_of_mem hh
    have hi':i<hs.length:=by rw[QF]at hi;exact hi
    rw[QT _ _ _ _ _ _ hi']
    split
    · exact hl _ _ _ (hp _ (sR hi'))
    · exact hp _ (sR hi'))
theorem lose_none{h:Hart}(wf:h.Wf):lose 0 0 h=h:=by
  unfold lose
  have:=wf.heldAt.1
  rw[decide_eq_false (show ¬h.heldAt<0 by omega)]
  simp
theorem loseTo_none(k:Nat)(hs:List Hart)(wf:∀h∈hs,h.Wf):QA k 0 0 hs.length hs=hs:=by
  apply List.ext_getElem
  · exact QF _ _ _ _ _
  · intro i h1 h2
    rw[QT _ _ _ _ _ _ h2]
    split
    · exact lose_none (wf _ (sR h2))
    · rfl
def JW(s:St)(k:Nat)(X:RunD):St:=⟨qm k X.stores (s.harts.set k X.h),X.m,s.out++X.out,s.steps+X.steps.toNat⟩
theorem outSt_hart{s:St}{k:Nat}(hk:k<s.harts.length)(X:RunD):(JW s k X).hart k=X.h:=by
  have e:qm k X.stores (s.harts.set k X.h)=(qm k X.stores s.harts).set k X.h:=loseAll_set k X.h _ _
  have hl:k<(JW s k X).harts.length:=by
    show k<(qm k X.stores (s.harts.set k X.h)).length
    rw[JA,List.length_set];exact hk
  rw[St.hart_at hl]
  show(qm k X.stores (s.harts.set k X.h))[k]'hl=X.h
  simp only[e,List.getElem_set_self]
theorem outSt_go{s:St}(wf:s.Wf){k:Nat}(hk:k<s.harts.length){X:RunD}(wx:X.core0.Wf)(hm:X.m.length≤4096)(h0:0≤X.steps):goM k (JW s k X)=JW s k (jB X):=by
  have hX:=outSt_hart hk X
  have hrg:Rng (goS X.core0):=goS_rng X.h wx.h X.m hm
  unfold goM
  rw[hX]
  have e0:(⟨X.h,(JW s k X).mem,[],0,0⟩:qF)=X.core0:=rfl
  rw[e0]
  unfold JW jB
  dsimp only
  rw[←loseAll_set k (goS X.core0).h,List.set_set,List.append_assoc]
  have es:s.steps+X.steps.toNat+1=s.steps+(X.steps+1).toNat:=om
  rw[es]
  congr 1
  have hw:∀h∈qm k X.stores (s.harts.set k (goS X.core0).h),h.Wf:=loseAll_mem k (fun _ _ _ h=>uE h) _ _ (fun h hh=>by
    rcases List.mem_or_eq_of_mem_set hh with h1|h1
    · exact wf.harts h h1
    · rw[h1];exact(goS_wf wx (by show([]:List Int).length<_;simp)).h)
  by_cases c:(goS X.core0).fr<(goS X.core0).tw
  · rw[if_pos c,Jo]
    show QA k _ _ (qm k X.stores (s.harts.set k X.h)).length _=qm k [_] _
    rw[qm,qm,JA,JA,List.length_set,List.length_set]
  · rw[if_neg c]
    have e1:(goS X.core0).fr=0∧(goS X.core0).tw=0:=by
      rcases hrg with⟨h1,h2⟩|⟨h1,h2,h3⟩
      · exact⟨h1,h2⟩
      · exact absurd h2 c
    rw[e1.1,e1.2]
    have:=loseTo_none k _ hw
    rw[JA,List.length_set]at this ⊢
    exact this
theorem next8_wf{X:RunD}(wx:X.core0.Wf):(jB X).core0.Wf:=by
  have h2:(goS X.core0).Wf:=goS_wf wx (by show([]:List Int).length<_;simp)
  exact⟨h2.h,h2.m,zW,jp,jp,h2.mlen,by show([]:List Int).length≤_;simp⟩
theorem uh(X:RunD):(jB X).m.length=X.m.length:=goS_ml X.core0
theorem outSt_loop{s:St}(wf:s.Wf){k:Nat}(hk:k<s.harts.length)(bf bt left:Int):∀(n kk:Nat) (X:RunD),X.core0.Wf→X.m.length≤4096→0≤X.steps→X.h.state=0→
    qk k (left.toNat-X.steps.toNat) (JW s k X)=qk k (left.toNat-(jq bf bt left n kk X).steps.toNat) (JW s k (jq bf bt left n kk X))∧(jq bf bt left n kk X).core0.Wf∧(jq bf bt left n kk X).m.length≤4096∧X.steps≤(jq bf bt left n kk X).steps∧(0<n→X.steps<left→X.steps<(jq bf bt left n kk X).steps)∧(X.steps≤left→(jq bf bt left n kk X).steps≤left)
  |0,kk,X,wx,hm,h0,_=>⟨rfl,wx,hm,Int.le_refl _,fun h=>absurd h om,fun h=>h⟩
  | n + 1, kk, X, wx, hm, h0, hs => by
    unfold jq
    by_cases c:X.steps<left
    · rw[if_pos c]
      have hh:=outSt_hart hk X
      have hg:=outSt_go wf hk wx hm h0
      have hst:(jB X).steps=X.steps+1:=rfl
      have e1:left.toNat-X.steps.toNat=(left.toNat-(jB X).steps.toNat)+1:=by rw[hst];omega
      have e2:qk k (left.toNat-X.steps.toNat) (JW s k X)=qk k (left.toNat-(jB X).steps.toNat) (JW s k (jB X)):=by
        rw[e1,qk,hh,if_pos hs,hg]
      by_cases b:brk8 bf bt (pl8 bf (kk+1)) (goS X.core0)=true
      · rw[if_pos b]
        exact⟨e2,next8_wf wx,by rw[uh];exact hm,by rw[hst];omega,fun _ _=>by rw[hst];omega,fun _=>by rw[hst];omega⟩
      · rw[if_neg b]
        have b':brk8 bf bt (pl8 bf (kk+1)) (goS X.core0)=false:=by simpa using b
        have hs':(jB X).h.state=0:=by
          unfold brk8 at b'
          simp only[Bool.or_eq_false_iff,bne_eq_false_iff_eq]at b'
          exact b'.1.1
        obtain⟨i1,i2,i3,i4,i5,i6⟩:=outSt_loop wf hk bf bt left n (kk+1) (jB X) (next8_wf wx) (by rw[uh];exact hm) (by rw[hst];omega) hs'
        exact⟨e2.trans i1,i2,i3,by rw[hst]at i4;omega,fun _ _=>by rw[hst]at i4;omega,fun h=>i6 (by rw[hst];omega)⟩
    · rw[if_neg c]
      exact⟨rfl,wx,hm,Int.le_refl _,fun _ h=>absurd h c,fun h=>h⟩
theorem kept_mk{m:List Int}{pc:Int}{l:List InsD}(h:Kept m pc l):mkM pc l=rowM pc 0 l:=by
  unfold mkM
  rw[if_neg]
  rintro(h2|h2)
  · have:=h.len;omega
  · have:l.all isS=true:=List.all_eq_true.2 (fun i hi'=>(h.is i hi').1)
    rw[this]at h2;cases h2
theorem steps8_kept{d:RunD}{pc bt left:Int}{l:List InsD}(K:Kept d.m pc l)(hpc:d.h.pc=pc)(wf:d.core0.Wf)(hm:d.m.length≤4096)(hok:d.h.ok=true)(hs:d.h.state=0)(ho:d.over=false)(hw:d.own=false)(ht:d.temps.length=4)(hb:d.bf=pc)(hbt:bt=u32 (pc+4*(l.length:Int)))(hbt2:d.bt=bt)(hst:d.steps=0)(h0:0≤left):
    Eq8 (jq pc bt left l.length 0 d) (runL left (mkM pc l) d).fin:=by
  have h1:=K.pos
  have h2:=K.fits
  have hu:bt=pc+4*l.length:=by rw[hbt];unfold u32;omega
  have hpl:pl8 pc 0=pc:=by unfold pl8 u32;omega
  rw[kept_mk K]
  exact steps8_go pc bt left h1 om l 0 d d (by rw[hpl];exact(setPc_self hpc).symm) rfl rfl rfl rfl ho hw ht hb hbt2 wf hm hok hs (.inl ⟨hst,by rw[hpl];exact hpc⟩) om om (by rw[hpl];exact K.blk) (by rw[hu];simp) K.is
theorem goS_mem8{d:qF}(wf:d.Wf):Mem8 d.m (goS d):=by
  unfold goS
  split
  · exact doS_mem8 d.none (fun k=>(reg_u wf.h k).1) _
  · exact .inl rfl
theorem loop8_fetch(bf bt left:Int):∀(n kk:Nat) (X:RunD),X.core0.Wf→X.m.length≤4096→
    ∃new,(jq bf bt left n kk X).stores=X.stores++new∧(∀p∈new,0≤p.1∧p.1<p.2∧p.2≤4096)∧∀q,0≤q→(∀p∈new,q+4≤p.1∨p.2≤q)→qc (jq bf bt left n kk X).m q=qc X.m q
  |0,_,X,_,_=>⟨[],(List.append_nil _).symm,(by intro p hp;cases hp),fun _ _ _=>rfl⟩
  | n + 1, kk, X, wx, hm => by
    have one:∃new,(jB X).stores=X.stores++new∧(∀p∈new,0≤p.1∧p.1<p.2∧p.2≤4096)∧∀q,0≤q→(∀p∈new,q+4≤p.1∨p.2≤q)→qc (jB X).m q=qc X.m q:=by
      have hrg:Rng (goS X.core0):=goS_rng X.h wx.h X.m hm
      have hml:(goS X.core0).m.length=X.m.length:=goS_ml X.core0
      by_cases c:(goS X.core0).fr<(goS X.core0).tw
      · refine⟨[((goS X.core0).fr,(goS X.core0).tw)],by unfold jB;rw[if_pos c],fun p hp=> ?_,fun q hq hp=> ?_⟩
        · rw[List.mem_singleton]at hp
          subst hp
          rcases hrg with⟨h1,h2⟩|⟨h1,h2,h3⟩
          · omega
          · exact⟨h1,h2,by rw[hml]at h3;omega⟩
        · have hp2:=hp _ (List.mem_singleton.2 rfl)
          rcases goS_mem8 wx with g|⟨op,a,x,g3,g4,g5,g6,g7⟩
          · show qc (goS X.core0).m q=_
            rw[g];rfl
          · show qc (goS X.core0).m q=_
            obtain⟨t1,t2,t3⟩:=jV g3
            have t4:a+qO op≤X.m.length:=t3
            rw[g5]
            refine fetch_apart g4 hq ?_ g3
            rw[g6,g7,Int.emod_eq_of_lt om om]at hp2
            exact hp2
      · refine⟨[],by unfold jB;rw[if_neg c,List.append_nil],(by intro p hp;cases hp),fun q hq _=> ?_⟩
        rcases goS_mem8 wx with g|⟨op,a,x,g3,g4,g5,g6,g7⟩
        · show qc (goS X.core0).m q=_
          rw[g];rfl
        · obtain⟨t1,t2,t3⟩:=jV g3
          have t4:a+qO op≤X.m.length:=t3
          rw[g6,g7,Int.emod_eq_of_lt om om]at c
          omega
    obtain⟨nw,o1,o2,o3⟩:=one
    unfold jq
    split
    · split
      · exact⟨nw,o1,o2,o3⟩
      · obtain⟨nw2,r1,r2,r3⟩:=loop8_fetch bf bt left n (kk+1) (jB X) (next8_wf wx) (by rw[uh];exact hm)
        refine⟨nw++nw2,by rw[r1,o1,List.append_assoc],fun p hp=>(List.mem_append.1 hp).elim (o2 p) (r2 p),fun q hq hp=> ?_⟩
        exact(r3 q hq (fun p h=>hp p (List.mem_append_right _ h))).trans (o3 q hq (fun p h=>hp p (List.mem_append_left _ h)))
    · exact⟨[],(List.append_nil _).symm,(by intro p hp;cases hp),fun _ _ _=>rfl⟩
theorem Kept.apart{m m':List Int}{pc:Int}{l:List InsD}(h:Kept m pc l)(hl:m'.length=m.length)(hm:m.length≤4096)(hf:∀q,pc≤q→q+4≤pc+4*l.length→qc m' q=qc m q):Kept m' pc l:=by
  have h2:=h.fits
  exact⟨h.ne,h.len,h.pos,by rw[hl];exact h2,blk8_keep l pc h.pos om hf h.blk,h.is⟩
def URng(d:JD):Prop:=QY d.hart∧U32 d.frm∧jC d.bytes∧∀p∈d.lost,QY p.1∧U32 p.2
theorem lostN_rng{k:Nat}{was now:List Hart}(hw:∀j,U32 (was.getD j qz).heldAt):∀n,n≤4→∀p∈jH k was now n,QY p.1∧U32 p.2
  |0,_=>fun p hp=>by cases hp
  | n + 1, h => fun p hp => by
    rcases List.mem_append.1 hp with hp|hp
    · exact lostN_rng hw n om p hp
    · unfold lost1 at hp
      split at hp
      · rw[List.mem_singleton]at hp
        subst hp
        exact⟨⟨by show -9223372036854775808≤(n:Int);omega,by show(n:Int)≤9223372036854775807;omega⟩,hw n⟩
      · cases hp
theorem undoOf_rng{k:Nat}{s:St}(g:s.Good)(hk:k<s.harts.length)(h4:s.harts.length≤4):URng (undoOf k s):=by
  have hml:=g.wf.mlen
  have hrg:Rng (je k s):=goS_rng _ (g.wf.hart k) _ hml
  have hdl:(je k s).m.length=s.mem.length:=goS_ml _
  refine⟨⟨by show -9223372036854775808≤(k:Int);omega,by show(k:Int)≤9223372036854775807;omega⟩, ?_, ?_,fun p hp=>lostN_rng (fun j=>(g.wf.hart j).heldAt) _ h4 p hp⟩
  · show U32 (if(je k s).fr<(je k s).tw then(je k s).fr else 0)
    split
    · unfold Rng at hrg
      rw[hdl]at hrg
      exact⟨om,om⟩
    · exact⟨by decide,by decide⟩
  · show jC (if _ then _ else _)
    split
    · exact fun x hx=>g.wf.mem x (List.mem_of_mem_drop (List.mem_of_mem_take hx))
    · intro x hx;cases hx
theorem undoPick_rng{k:Nat}:∀(n:Nat) {s:St},s.Good→k<s.harts.length→s.harts.length≤4→∀d∈Qh k n s,URng d
  |0,_,_,_,_=>fun d hd=>by cases hd
  | n + 1, s, h, hk, h4 => by
    unfold Qh
    split
    · rename_i hs
      intro d hd
      rcases List.mem_cons.1 hd with rfl|hd
      · exact undoOf_rng h hk h4
      · exact undoPick_rng n (goM_good h hs) (by rw[goM_len];exact hk) (by rw[goM_len];exact h4) d hd
    · intro d hd;cases hd
theorem undoPlay_rng:∀(l:List (Int × Int)) {s:St},s.Good→(∀p∈l,0≤p.1∧p.1<s.harts.length)→s.harts.length≤4→∀d∈QC l s,URng d
  |[],_,_,_,_=>fun d hd=>by cases hd
  | p :: r, s, h, hp, h4 => by
    intro d hd
    obtain⟨h1,h2⟩:=hp p zC
    rcases List.mem_append.1 hd with hd|hd
    · exact undoPick_rng _ h om h4 d hd
    · exact undoPlay_rng r (US _ h) (fun q hq=>by rw[ub];exact hp q (by simp[hq])) (by rw[ub];exact h4) d hd
theorem UR.of_up{B:Nat}{TD TY TL:TypeId}{w:World}{v:Value}{us:List UndD}(h:Up B TD TY TL w v us)(hr:∀d∈us.map (·.d),URng d):UR w v us:=
  ⟨ql h.own,h.wf,fun x hx=>ql (h.byt x hx),fun x hx=>ql (h.los x hx),fun x hx=>hr _ (List.mem_map.2 ⟨x,hx,rfl⟩)⟩
end Go.Proofs.YtlfnddmncbkjaabGreatDoor.Fb
namespace Go.Proofs.YtlfnddmncbkjaabGreatDoor.W
open Go.RowKit Fb
theorem ce{p:Prop}(h:p:=by
 go_enter Tryz.func28,Tryz.ntmps28
 go_wp2_with fail
 exact sO (QI zK _ zK (load_new w _ _ Tryz.underlying53 rfl kr)) rfl ⟨rfl,Fb.blw⟩):p:=h
theorem cnew_any(room:Int)(w:World)(hr:QY room):
    Calls Tryz.prog 28 #[.int .i64 room] w fun e w'=>e=.returned (.tuple #[.agg #[.int .i64 (if room<0∨64<room then 0 else room),.slice none 0 0,.int .i64 0,.int .i64 0],.int .i64 (if room<0∨64<room then 3 else 0)])∧Below w.heap.size w w':=by
  by_cases h:room<0∨64<room
  · rw[if_pos h,if_pos h]
    rcases h with h|h
    · exact ce
    · have h0:¬room<0:=om
      exact ce
  · rw[if_neg h,if_neg h]
    have h0:¬room<0:=om
    have h1:¬64<room:=om
    clear h
    exact ce
theorem at1_any(x:BlkD)(p:Int)(pb:Nat)(w:World)(hp:w.cell? ⟨pb,0,none⟩=some (.int .u32 p))(hx:∀u∈qo x,u.oneCell'=true):
    Calls Tryz.prog 137 #[.agg #[.int .u32 x.pc,x.vi],.pointer (some ⟨pb,0,none⟩)] w fun e w'=>e=.returned (.bool (x.pc==p))∧Below w.heap.size w w':=by
  have hl:pb<w.heap.size:=qD hp
  go_enter Tryz.func137,Tryz.ntmps137
  go_wp2_with fail
  go_ret
  exact⟨rfl,Fb.blw⟩
theorem indexOf_any(v:Value)(l:List BlkD)(p:Int)(pb:Nat)(w:World)(hv:Blks w v l)(hp:w.cell? ⟨pb,0,none⟩=some (.int .u32 p)):
    Calls Tryz.prog 81 #[v,.func (.func 137) #[] #[.pointer (some ⟨pb,0,none⟩)]] w fun e w'=>e=.returned (.int .i64 (qu l p))∧Below w.heap.size w w':=by
  obtain⟨ao,cap,rfl,hc,hm,-,ho⟩:=hv.1.open (fun _ _=>rfl) om
  unfold maxLen at hm
  have HO:=lI ho
  have hlp:pb<w.heap.size:=qD hp
  have HA1:Hid (∀(x:BlkD),x∈l→∀W,Below w.heap.size w W→Calls Tryz.prog 137 #[.agg #[.int .u32 x.pc,x.vi],.pointer (some ⟨pb,0,none⟩)] W fun e w'=>e=.returned (.bool (x.pc==p))∧Below W.heap.size W w'):=lI (fun x hx W hW=>at1_any x p pb W ((hW.cell (p:=⟨pb,0,none⟩) hlp).trans hp) (blist_one (hv.2 x hx)))
  obtain⟨r,hr⟩:∃r,r=qu l p:=⟨_,rfl⟩
  rw[←hr]
  have HR:=lI hr
  have HONE:Hid (∀x∈l,∃n cc ac,x.vi=.slice ac n cc):=lI (fun x hx=>by obtain⟨ac,cc,e,_⟩:=(hv.2 x hx).at_.open (fun _ _=>rfl) om;exact⟨_,cc,ac,e⟩)
  clear ho hv hr hp
  go_enter Tryz.func81,Tryz.ntmps81
  go_wp2_with fail
  go_loopw [8] (fun i wr=>∃k:Nat,i=.int .i64 k∧k≤l.length∧Hid (Below w.heap.size w wr∧∀j (hj:j<l.length),j<k→l[j].pc≠p)) (fun i _=>l.length-(intOf i).toNat)
  case atStart=>exact⟨0,rfl,om,lI ⟨Below.refl _ _,fun j _ hj=>om⟩⟩
  case round=>
    obtain⟨k,rfl,hk,HI⟩:=hrel
    by_cases hlt:k<l.length
    · obtain⟨b,off,rfl,hbl,hel⟩:=HO.out zQ
      have hat:=(hel k hlt).of_lt HI.out.1 hbl
      obtain⟨nn,cc,ac,hvi⟩:=HONE.out l[k] (sR hlt)
      have c0:=hat.get (j:=0) (v:=.int .u32 l[k].pc) rfl
      have c1:=hat.get (j:=1) (v:=l[k].vi) rfl
      simp only[Nat.add_zero]at c0
      rw[hvi]at c1
      have HN:Hid (l[k].pc=p→r=k):=lI (fun e=>HR.out.trans (placeI_at hlt e (fun j hj=>HI.out.2 j om hj)))
      have HG:Hid (l[k].pc≠p→∀j (hj:j<l.length),j<k+1→l[j].pc≠p):=lI (fun e j hj hj2=>by
        by_cases e2:j=k
        · subst e2;exact e
        · exact HI.out.2 j hj om)
      have HC:=lI (HA1.out l[k] (sR hlt) wr HI.out.1)
      rw[hvi]at HC
      have HB:=lI HI.out.1
      clear hel hat
      obtain⟨x,hx⟩:∃x,x=l[k].pc:=⟨_,rfl⟩
      rw[←hx]at c0 HN HG HC
      clear hx hvi
      go_wp2_with fail
      refine HC.out.mono ?_
      rintro e w2 ⟨rfl,hb2⟩
      have HB2:=lI (HB.out.trans (hb2.mono HB.out.size))
      clear hb2 c0 c1
      by_cases he:x=p
      · obtain rfl:=HN.out he
        have hbq:(x==p)=true:=by simpa using he
        rw[hbq]
        go_wp2_with fail
        go_ret
        exact⟨rfl,HB2.out⟩
      · have hbq:(x==p)=false:=by simpa using he
        rw[hbq]
        go_wp2_with fail
        exact⟨⟨k+1,by simp,om,lI ⟨HB2.out,HG.out he⟩⟩,by simp[intOf];omega⟩
    · obtain rfl:k=l.length:=om
      obtain rfl:=HR.out.trans (placeI_no (fun j hj=>HI.out.2 j hj hj))
      go_wp2_with fail
      go_ret
      exact⟨rfl,HI.out.1⟩
end Go.Proofs.YtlfnddmncbkjaabGreatDoor.W
namespace Go.Proofs.YtlfnddmncbkjaabGreatDoor.Fb
open Go.RowKit
def hasB(pc:Int)(n:Nat)(fr tw:Int):Bool:=decide (max pc fr<min (pc+4*(n:Int)) tw)
def qp(fr tw:Int)(x:BlkD):Bool:=hasB x.pc x.ins.length fr tw
def Jt(P:BlkD→Bool)(l:List BlkD):Int:=if l.findIdx P<l.length then(l.findIdx P:Int)else -1
theorem firstI_at{P:BlkD→Bool}{l:List BlkD}{k:Nat}(hk:k<l.length)(h:P l[k]=true)(hn:∀j (hj:j<k),P l[j]=false):Jt P l=k:=by
  have e:l.findIdx P=k:=by
    refine Nat.le_antisymm ?_ ?_
    · refine Nat.le_of_not_lt (fun hlt=> ?_)
      have:=List.not_of_lt_findIdx hlt
      simp[h]at this
    · refine Nat.le_of_not_lt (fun hlt=> ?_)
      have h2:l.findIdx P<l.length:=om
      have:P l[l.findIdx P]=true:=List.findIdx_getElem (w:=h2)
      rw[hn _ hlt]at this;cases this
  unfold Jt;rw[e,if_pos hk]
theorem firstI_no{P:BlkD→Bool}{l:List BlkD}(hn:∀j (hj:j<l.length),P l[j]=false):Jt P l= -1:=by
  unfold Jt
  rw[if_neg]
  intro h
  have:P l[l.findIdx P]=true:=List.findIdx_getElem (w:=h)
  rw[hn _ h]at this;cases this
end Go.Proofs.YtlfnddmncbkjaabGreatDoor.Fb
namespace Go.Proofs.YtlfnddmncbkjaabGreatDoor.W
open Go.RowKit Fb
theorem chas_any(x:BlkD)(fr tw:Int)(w:World)(hx:uO w x)(hl:x.ins.length≤3518437208883)(hf:U32 fr)(ht:U32 tw):
    Calls Tryz.prog 124 #[.agg #[.int .u32 x.pc,x.vi],.agg #[.int .u32 fr,.int .u32 tw]] w fun e w'=>e=.returned (.bool (hasB x.pc x.ins.length fr tw))∧Below w.heap.size w w':=by
  obtain⟨pc,vi,ins⟩:=x
  have hpc:=hx.pc
  obtain⟨ao,cap,e,-⟩:=hx.at_.open (fun _ _=>rfl) om
  dsimp only at hpc hl e ⊢
  subst e
  obtain⟨p,rfl⟩:=sQ hpc.1
  obtain⟨f,rfl⟩:=sQ hf.1
  obtain⟨t,rfl⟩:=sQ ht.1
  have hp1:p<4294967296:=by have:=hpc.2;omega
  have hf1:f<4294967296:=by have:=hf.2;omega
  have ht1:t<4294967296:=by have:=ht.2;omega
  clear hx hpc hf ht
  generalize ins.length=n at *
  obtain⟨w1,hw1⟩:∃w1,w1=(w.alloc (.cells #[.int .u32 p,.slice ao n cap] 62)).alloc (.cells #[.int .u32 f,.int .u32 t] 165):=⟨_,rfl⟩
  have hb1:Below w.heap.size w w1:=zI
  have c0:(w1).cell? ⟨w.heap.size,0,none⟩=some (.int .u32 p):=zA
  have c1:(w1).cell? ⟨w.heap.size,1,none⟩=some (.slice ao n cap):=zA
  have d0:(w1).cell? ⟨w.heap.size+1,0,none⟩=some (.int .u32 f):=zA
  have d1:(w1).cell? ⟨w.heap.size+1,1,none⟩=some (.int .u32 t):=zA
  have HW1:=lI hw1
  have HB1:=lI hb1
  clear hw1 hb1
  obtain⟨r,hr⟩:∃r,r=hasB (p:Int) n (f:Int) (t:Int):=⟨_,rfl⟩
  rw[←hr]
  have HR:=lI hr
  clear hr
  go_enter Tryz.func124,Tryz.ntmps124
  go_upto_region 1 with(fail)
  rw[←HW1.out]
  go_quiet (fail)
  go_wp2_with fail
  all_goals
    go_ret
    refine⟨?_,qB HB1.out _⟩
    rw[HR.out]
    refine congrArg (fun b=>Ending.returned (Value.bool b)) (decide_eq_decide.2 ?_)
    omega
theorem stale1_any(x:BlkD)(fr tw:Int)(pb:Nat)(w:World)(h0:w.cell? ⟨pb,0,none⟩=some (.int .u32 fr))(h1:w.cell? ⟨pb,1,none⟩=some (.int .u32 tw))(hx:uO w x)(hl:x.ins.length≤3518437208883)(hf:U32 fr)(ht:U32 tw):
    Calls Tryz.prog 153 #[.agg #[.int .u32 x.pc,x.vi],.pointer (some ⟨pb,0,none⟩)] w fun e w'=>e=.returned (.bool (hasB x.pc x.ins.length fr tw))∧Below w.heap.size w w':=by
  have hlp:pb<w.heap.size:=qD h0
  obtain⟨ao,cap,hvi,-⟩:=hx.at_.open (fun _ _=>rfl) om
  obtain⟨w1,hw1⟩:∃w1,w1=w.alloc (.cells #[.int .u32 x.pc,.slice ao x.ins.length cap] 62):=⟨_,rfl⟩
  have hb1:Below w.heap.size w w1:=zI
  have c0:(w1).cell? ⟨w.heap.size,0,none⟩=some (.int .u32 x.pc):=zA
  have c1:(w1).cell? ⟨w.heap.size,1,none⟩=some (.slice ao x.ins.length cap):=zA
  have g0:=(hb1.cell (p:=⟨pb,0,none⟩) hlp).trans h0
  have g1:=(hb1.cell (p:=⟨pb,1,none⟩) hlp).trans h1
  have HH:=lI (chas_any x fr tw w1 (hx.below hb1) hl hf ht)
  rw[hvi]at HH ⊢
  have HW1:=lI hw1
  have HB1:=lI hb1
  clear hw1 hb1 hx h0 h1
  go_enter Tryz.func153,Tryz.ntmps153
  go_upto_region 1 with(fail)
  rw[←HW1.out]
  go_wp2_with fail
  refine HH.out.mono ?_
  rintro e w2 ⟨rfl,hb2⟩
  have HB2:=lI (HB1.out.trans (hb2.mono HB1.out.size))
  clear hb2
  go_wp2_with fail
  go_ret
  exact⟨rfl,HB2.out⟩
theorem indexStale_any(v:Value)(l:List BlkD)(fr tw:Int)(pb:Nat)(w:World)(hv:Blks w v l)(h0:w.cell? ⟨pb,0,none⟩=some (.int .u32 fr))(h1:w.cell? ⟨pb,1,none⟩=some (.int .u32 tw))(hins:∀x∈l,x.ins.length≤3518437208883)(hf:U32 fr)(ht:U32 tw):
    Calls Tryz.prog 81 #[v,.func (.func 153) #[] #[.pointer (some ⟨pb,0,none⟩)]] w fun e w'=>e=.returned (.int .i64 (Jt (qp fr tw) l))∧Below w.heap.size w w':=by
  obtain⟨ao,cap,rfl,hc,hm,-,ho⟩:=hv.1.open (fun _ _=>rfl) om
  unfold maxLen at hm
  have HO:=lI ho
  have hlp:pb<w.heap.size:=qD h0
  have HA1:Hid (∀(x:BlkD),x∈l→∀W,Below w.heap.size w W→Calls Tryz.prog 153 #[.agg #[.int .u32 x.pc,x.vi],.pointer (some ⟨pb,0,none⟩)] W fun e w'=>e=.returned (.bool (hasB x.pc x.ins.length fr tw))∧Below W.heap.size W w'):=lI (fun x hx W hW=>stale1_any x fr tw pb W ((hW.cell (p:=⟨pb,0,none⟩) hlp).trans h0) ((hW.cell (p:=⟨pb,1,none⟩) hlp).trans h1) ((hv.2 x hx).below hW) (hins x hx) hf ht)
  obtain⟨r,hr⟩:∃r,r=Jt (qp fr tw) l:=⟨_,rfl⟩
  rw[←hr]
  have HR:=lI hr
  have HONE:Hid (∀x∈l,∃cc ac,x.vi=.slice ac x.ins.length cc):=lI (fun x hx=>by obtain⟨ac,cc,e,_⟩:=(hv.2 x hx).at_.open (fun _ _=>rfl) om;exact⟨cc,ac,e⟩)
  clear ho hv hr h0 h1 hins hf ht
  go_enter Tryz.func81,Tryz.ntmps81
  go_wp2_with fail
  go_loopw [8] (fun i wr=>∃k:Nat,i=.int .i64 k∧k≤l.length∧Hid (Below w.heap.size w wr∧∀j (hj:j<l.length),j<k→qp fr tw l[j]=false)) (fun i _=>l.length-(intOf i).toNat)
  case atStart=>exact⟨0,rfl,om,lI ⟨Below.refl _ _,fun j _ hj=>om⟩⟩
  case round=>
    obtain⟨k,rfl,hk,HI⟩:=hrel
    by_cases hlt:k<l.length
    · obtain⟨b,off,rfl,hbl,hel⟩:=HO.out zQ
      have hat:=(hel k hlt).of_lt HI.out.1 hbl
      obtain⟨cc,ac,hvi⟩:=HONE.out l[k] (sR hlt)
      have c0:=hat.get (j:=0) (v:=.int .u32 l[k].pc) rfl
      have c1:=hat.get (j:=1) (v:=l[k].vi) rfl
      simp only[Nat.add_zero]at c0
      rw[hvi]at c1
      have HN:Hid (qp fr tw l[k]=true→r=k):=lI (fun e=>HR.out.trans (firstI_at hlt e (fun j hj=>HI.out.2 j om hj)))
      have HG:Hid (qp fr tw l[k]=false→∀j (hj:j<l.length),j<k+1→qp fr tw l[j]=false):=lI (fun e j hj hj2=>by
        by_cases e2:j=k
        · subst e2;exact e
        · exact HI.out.2 j hj om)
      have HC:=lI (HA1.out l[k] (sR hlt) wr HI.out.1)
      rw[hvi]at HC
      have HB:=lI HI.out.1
      clear hel hat
      obtain⟨s,hs⟩:∃s,s=qp fr tw l[k]:=⟨_,rfl⟩
      rw[←hs]at HN HG
      have hs2:hasB l[k].pc l[k].ins.length fr tw=s:=hs.symm
      rw[hs2]at HC
      obtain⟨x,hx⟩:∃x,x=l[k].pc:=⟨_,rfl⟩
      obtain⟨nn,hnn⟩:∃n,n=l[k].ins.length:=⟨_,rfl⟩
      rw[←hx]at c0 HC
      rw[←hnn]at c1 HC
      clear hx hnn hs hs2 hvi
      go_wp2_with fail
      refine HC.out.mono ?_
      rintro e w2 ⟨rfl,hb2⟩
      have HB2:=lI (HB.out.trans (hb2.mono HB.out.size))
      clear hb2 c0 c1
      cases s with
      | true =>
        obtain rfl:=HN.out rfl
        go_wp2_with fail
        go_ret
        exact⟨rfl,HB2.out⟩
      | false =>
        go_wp2_with fail
        exact⟨⟨k+1,by simp,om,lI ⟨HB2.out,HG.out yS⟩⟩,by simp[intOf];omega⟩
    · obtain rfl:k=l.length:=om
      obtain rfl:=HR.out.trans (firstI_no (fun j hj=>HI.out.2 j hj hj))
      go_wp2_with fail
      go_ret
      exact⟨rfl,HI.out.1⟩
end Go.Proofs.YtlfnddmncbkjaabGreatDoor.W
namespace Go.Proofs.YtlfnddmncbkjaabGreatDoor.Fb
open Go.RowKit
structure jU (m:List Int) (room:Int) (bl:List BlkD):Prop where
  room0:0≤room
  room1:room≤64
  len:(bl.length:Int)≤room
  nodup:(pcs bl).Nodup
  kept:∀x∈bl,Kept m x.pc x.ins
theorem jU.ins{m:List Int}{room:Int}{bl:List BlkD}(h:jU m room bl):∀x∈bl,x.ins.length≤16:=fun x hx=>(h.kept x hx).len
theorem putL_mem{room:Int}{l:List BlkD}{y x:BlkD}(h:x∈putL room l y):x∈l∨x=y:=by
  have key:x∈dq (qu l y.pc) l++[y]:=by
    unfold putL at h
    split at h
    · exact List.mem_of_mem_drop h
    · exact h
  rcases List.mem_append.1 key with h1|h1
  · exact .inl (dq_mem h1)
  · exact .inr (by simpa using h1)
theorem jU.put{m:List Int}{room:Int}{bl:List BlkD}(h:jU m room bl){y:BlkD}(hy:Kept m y.pc y.ins):jU m room (putL room bl y):=by
  obtain⟨h1,h2,h3,-⟩:=putL_keeps h.room0 h.len h.nodup h.ins (y:=y) hy.len
  refine⟨h.room0,h.room1,h2,h1,fun x hx=> ?_⟩
  rcases putL_mem hx with h4|rfl
  · exact h.kept x h4
  · exact hy
def Qw:List (Int × Int)→List BlkD→List BlkD
  |[],bl=>bl
  |p::r,bl=>Qw r (bl.filter (fun x=> !qp p.1 p.2 x))
theorem UE:∀(st:List (Int × Int)) (bl:List BlkD),(Qw st bl).Sublist bl
  |[],_=>List.Sublist.refl _
  |p::r,bl=>(UE r _).trans List.filter_sublist
theorem UF:∀(st:List (Int × Int)) (bl:List BlkD) (x:BlkD),x∈Qw st bl→x∈bl∧∀p∈st,qp p.1 p.2 x=false
  |[],_,_,h=>⟨h,(by intro p hp;cases hp)⟩
  | p :: r, bl, x, h => by
    obtain⟨h1,h2⟩:=UF r _ x h
    rw[List.mem_filter]at h1
    refine⟨h1.1,fun q hq=> ?_⟩
    rcases List.mem_cons.1 hq with rfl|hq
    · simpa using h1.2
    · exact h2 q hq
theorem jU.run{m m':List Int}{room:Int}{bl:List BlkD}(h:jU m room bl)(st:List (Int × Int))(hl:m'.length=m.length)(hm:m.length≤4096)(hp:∀p∈st,0≤p.1∧p.1<p.2∧p.2≤4096)
    (hf:∀q,0≤q→(∀p∈st,q+4≤p.1∨p.2≤q)→qc m' q=qc m q):jU m' room (Qw st bl):=by
  have hsub:=UE st bl
  refine⟨h.room0,h.room1,by have:=hsub.length_le;have:=h.len;omega,pcs_sub hsub h.nodup,fun x hx=> ?_⟩
  obtain⟨h1,h2⟩:=UF st bl x hx
  have k:=h.kept x h1
  have k1:=k.pos
  refine k.apart hl hm (fun q g1 g2=>hf q om (fun p hq=> ?_))
  have h3:=h2 p hq
  have h4:=hp p hq
  unfold qp hasB at h3
  rw[decide_eq_false_iff_not]at h3
  omega
end Go.Proofs.YtlfnddmncbkjaabGreatDoor.Fb
