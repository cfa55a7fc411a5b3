import Derived.Test.YtlfnddmncbkjaabGreatDoorZGH
import Derived.Maps.OwnSet
import Derived.Maps.Views
set_option linter.unusedVariables false
set_option linter.unusedSimpArgs false
set_option maxRecDepth 100000
set_option maxHeartbeats 4000000
namespace Go.Proofs.YtlfnddmncbkjaabGreatDoor.Fb
open Go.RowKit
theorem loop8_pick{s:St}(wf:s.Wf){k:Nat}(hk:k<s.harts.length)(bf bt left:Int):∀(n kk:Nat) (X:RunD),X.core0.Wf→X.m.length≤4096→0≤X.steps→X.h.state=0→
    ∃j:Nat,JW s k (jq bf bt left n kk X)=qk k j (JW s k X)∧(jq bf bt left n kk X).steps=X.steps+j
  |0,kk,X,wx,hm,h0,_=>⟨0,rfl,by show X.steps=_;omega⟩
  | n + 1, kk, X, wx, hm, h0, hs => by
    unfold jq
    by_cases c:X.steps<left
    · rw[if_pos c]
      have hh:=outSt_hart hk X
      have hg:=outSt_go wf hk wx hm h0
      have hst:(jB X).steps=X.steps+1:=rfl
      have e2:∀j,qk k (j+1) (JW s k X)=qk k j (JW s k (jB X)):=fun j=>by
        rw[qk,hh,if_pos hs,hg]
      by_cases b:brk8 bf bt (pl8 bf (kk+1)) (goS X.core0)=true
      · rw[if_pos b]
        exact⟨1,(e2 0).symm,hst⟩
      · rw[if_neg b]
        have b':brk8 bf bt (pl8 bf (kk+1)) (goS X.core0)=false:=by simpa using b
        have hs':(jB X).h.state=0:=by
          unfold brk8 at b'
          simp only[Bool.or_eq_false_iff,bne_eq_false_iff_eq]at b'
          exact b'.1.1
        obtain⟨j,i1,i2⟩:=loop8_pick wf hk bf bt left n (kk+1) (jB X) (next8_wf wx) (by rw[uh];exact hm) (by rw[hst];omega) hs'
        exact⟨j+1,i1.trans (e2 j).symm,by rw[i2,hst];omega⟩
    · rw[if_neg c]
      exact⟨0,rfl,om⟩
theorem loop8_ml(bf bt left:Int):∀(n kk:Nat) (X:RunD),(jq bf bt left n kk X).m.length=X.m.length
  |0,_,_=>rfl
  | n + 1, kk, X => by
    unfold jq
    split
    · split
      · exact uh X
      · rw[loop8_ml bf bt left n (kk+1) (jB X),uh]
    · rfl
theorem set_hart{s:St}{k:Nat}(hk:k<s.harts.length):s.harts.set k (s.hart k)=s.harts:=by
  rw[St.hart_at hk];exact List.set_getElem_self hk
def runB(h:Hart)(m o:List Int)(bf bt:Int):RunD:={run0 h m bf bt with out:=o}
def runE(h:Hart)(m o:List Int)(bf bt:Int):RunD:={run0 h m bf bt with out:=o,here:=0}
theorem runE_wf{h:Hart}{m o:List Int}{bf bt:Int}(wf:h.Wf)(hb:jC m)(hl:m.length≤4096)(ho:∀x∈o,U32 x)(h1:U32 bf)(h2:U32 bt):(runE h m o bf bt).Wf:=
  {run0_wf wf hb om h1 h2 with out:=ho,here:=jp}
theorem block_turn{s1:St}(g:s1.Good){k:Nat}(hk:k<s1.harts.length)(hst:(s1.hart k).state=0){l:List InsD}(K:Kept s1.mem (s1.hart k).pc l){left:Nat}(hl:0<left){o0 o:List Int}(ho:s1.out=o0++o)
    (X:RunD) (hX:X=(runL left (mkM (s1.hart k).pc l) (runB (s1.hart k) s1.mem o (s1.hart k).pc (u32 ((s1.hart k).pc+4*(l.length:Int))))).fin):
    ∃j:Nat,X.steps=j∧1≤j∧j≤left∧(⟨qm k X.stores (s1.harts.set k X.h),X.m,o0++X.out,s1.steps+j⟩:St)=qk k j s1∧(∀p∈X.stores,0≤p.1∧p.1<p.2∧p.2≤4096)∧(∀room zs,jU s1.mem room zs→jU X.m room (Qw X.stores zs))∧X.m.length=s1.mem.length:=by
  have hm:=g.wf.mlen
  obtain⟨d,hd⟩:∃d,d=(runB (s1.hart k) s1.mem o (s1.hart k).pc (u32 ((s1.hart k).pc+4*(l.length:Int)))):=⟨_,rfl⟩
  rw[←hd]at hX
  have d1:d.h=s1.hart k:=xM
  have d2:d.m=s1.mem:=xM
  have d3:d.out=o:=xM
  have d4:d.steps=0:=xM
  have d5:d.stores=[]:=xM
  have wf0:d.core0.Wf:=by
    have h1:(s1.hart k).Wf:=g.wf.hart k
    refine⟨by rw[show d.core0.h=d.h from rfl,d1];exact h1,by rw[show d.core0.m=d.m from rfl,d2];exact g.wf.mem,zW,jp,jp,by rw[show d.core0.m=d.m from rfl,d2];omega,by show([]:List Int).length≤_;simp⟩
  have E:=steps8_kept (d:=d) (pc:=(s1.hart k).pc) (bt:=u32 ((s1.hart k).pc+4*(l.length:Int))) (left:=left) (l:=l) (by rw[d2];exact K) (by rw[d1]) wf0 (by rw[d2];exact hm) (by rw[d1];exact g.hart k) (by rw[d1];exact hst) xM xM xM xM rfl xM d4 om
  rw[←hX]at E
  obtain⟨L,hL⟩:∃L,L=jq (s1.hart k).pc (u32 ((s1.hart k).pc+4*(l.length:Int))) left l.length 0 d:=⟨_,rfl⟩
  have hml:=loop8_ml (s1.hart k).pc (u32 ((s1.hart k).pc+4*(l.length:Int))) left l.length 0 d
  have hwf:({s1 with out:=o0}:St).Wf:=⟨g.wf.harts,g.wf.mem,g.wf.mlen,fun x hx=>g.wf.out x (by rw[ho];exact List.mem_append_left _ hx)⟩
  obtain⟨j,j1,j2⟩:=loop8_pick (s:={s1 with out:=o0}) hwf hk (s1.hart k).pc (u32 ((s1.hart k).pc+4*(l.length:Int))) left l.length 0 d wf0 (by rw[d2];exact hm) (by rw[d4];exact Int.le_refl _) (by rw[d1];exact hst)
  obtain⟨-,-,-,q4,q5,q6⟩:=outSt_loop (s:={s1 with out:=o0}) hwf hk (s1.hart k).pc (u32 ((s1.hart k).pc+4*(l.length:Int))) left l.length 0 d wf0 (by rw[d2];exact hm) (by rw[d4];exact Int.le_refl _) (by rw[d1];exact hst)
  obtain⟨nw,f1,f2,f3⟩:=loop8_fetch (s1.hart k).pc (u32 ((s1.hart k).pc+4*(l.length:Int))) left l.length 0 d wf0 (by rw[d2];exact hm)
  rw[←hL]at E j1 j2 q5 q6 f1 f3 hml
  rw[d4]at j2 q5 q6
  rw[d5,List.nil_append]at f1
  rw[d2]at hml f3
  have hlen:0<l.length:=List.length_pos_iff.2 K.ne
  have hs0:JW {s1 with out:=o0} k d=s1:=by
    unfold JW
    rw[d1,d2,d3,d4,d5,←ho]
    show(⟨s1.harts.set k (s1.hart k),s1.mem,s1.out,s1.steps+0⟩:St)=s1
    rw[set_hart hk]
    rfl
  rw[hs0]at j1
  have e5:=q5 hlen om
  have e6:=q6 om
  refine⟨j,by rw[←E.steps,j2];omega,om,om, ?_,fun p hp=>f2 p (by rw[←f1,E.stores];exact hp),fun room zs hz=> ?_,by rw[←E.m];exact hml⟩
  · rw[←j1,←E.stores,←E.h,←E.m,←E.out]
    unfold JW
    congr 1
    show s1.steps+j=s1.steps+L.steps.toNat
    rw[j2];omega
  · rw[←E.stores,←E.m]
    exact hz.run L.stores hml hm (by rw[f1];exact f2) (fun q hq hp=>f3 q hq (by rw[←f1];exact hp))
theorem trap_turn{s:St}{k:Nat}(hk:k<s.harts.length)(hm:s.mem.length≤4096)(he:(QS s.mem (s.hart k).pc).2=[]):((goM k s).hart k).state≠0:=by
  have e2:(QS s.mem (s.hart k).pc).2=rowS s.mem 16 (s.hart k).pc:=by unfold QS;rw[if_neg om]
  rw[e2,row_step]at he
  have hf:¬(qc s.mem (s.hart k).pc).2=0:=fun e=>by rw[if_pos e]at he;cases he
  have hh:(goM k s).hart k=(goS (⟨s.hart k,s.mem,[],0,0⟩:qF)).h:=by
    obtain⟨c,hc⟩:∃c,c=goS (⟨s.hart k,s.mem,[],0,0⟩:qF):=⟨_,rfl⟩
    have hl:k<(QA k c.fr c.tw s.harts.length (s.harts.set k c.h)).length:=by rw[QF,List.length_set];exact hk
    have e:(goM k s).hart k=(QA k c.fr c.tw s.harts.length (s.harts.set k c.h)).getD k qz:=by rw[hc];rfl
    rw[e,List.getD,sU hl,←hc]
    show(QA k c.fr c.tw s.harts.length (s.harts.set k c.h))[k]'hl=_
    rw[QT _ _ _ _ _ _ (by rw[List.length_set];exact hk),if_neg om,List.getElem_set_self]
  rw[hh]
  unfold goS
  rw[if_neg hf]
  have:=fetchS_c s.mem (s.hart k).pc
  show(2:Int)≠0
  decide
theorem pickM_ol{k:Nat}:∀(n:Nat) {s:St},s.Good→(qk k n s).out.length≤s.out.length+n
  |0,_,_=>sN _
  | n + 1, s, h => by
    unfold qk
    split
    · rename_i hs
      have h1:=pickM_ol (k:=k) n (goM_good h hs)
      have hf:=goS_fin (s.hart k) s.mem (h.hart k) hs
      have h2:(goM k s).out.length≤s.out.length+1:=by
        show(s.out++(goS _).out).length≤_
        have:=hf.ol
        rw[sW];omega
      omega
    · omega
open Go.RowKit Go.Maps
structure Fr (S:Nat→Prop) (w w':World):Prop where
  os:w'.os=w.os
  tape:w'.tape=w.tape
  output:w'.output=w.output
  size:w.heap.size≤w'.heap.size
  block:∀j,j<w.heap.size→¬S j→w'.heap[j]? =w.heap[j]?
theorem Fr.refl(S:Nat→Prop)(w:World):Fr S w w:=⟨rfl,rfl,rfl,sN _,fun _ _ _=>rfl⟩
theorem Fr.trans{S S':Nat→Prop}{a b c:World}(h:Fr S a b)(k:Fr S' b c)(hS:∀j,j<a.heap.size→S' j→S j):Fr S a c:=
  ⟨k.os.trans h.os,k.tape.trans h.tape,k.output.trans h.output,Nat.le_trans h.size k.size,fun j hj hn=>(k.block j (Nat.lt_of_lt_of_le hj h.size) (fun hs=>hn (hS j hj hs))).trans (h.block j hj hn)⟩
theorem Fr.shp{S:Nat→Prop}{a b:World}(h:Fr S a b){k:Nat}(hk:k<a.heap.size)(hS:¬S k):QH b.heap[k]? a.heap[k]? :=QH.of_eq (h.block k hk hS)
theorem Fr.mono{S S':Nat→Prop}{a b:World}(h:Fr S a b)(hS:∀j,j<a.heap.size→S j→S' j):Fr S' a b:=⟨h.os,h.tape,h.output,h.size,fun j hj hn=>h.block j hj (fun hs=>hn (hS j hj hs))⟩
theorem Fr.of_below{S:Nat→Prop}{B:Nat}{a b:World}(h:Below B a b)(hB:∀j,B≤j→j<a.heap.size→S j):Fr S a b:=⟨h.os,h.tape,h.output,h.size,fun j hj hn=>h.block j (Nat.lt_of_not_le (fun hle=>hn (hB j hle hj)))⟩
theorem Fr.below{S:Nat→Prop}{B:Nat}{a b:World}(h:Fr S a b)(hB:∀j,j<B→¬S j)(hle:B≤a.heap.size):Below B a b:=⟨h.os,h.tape,h.output,h.size,fun j hj=>h.block j om (hB j hj)⟩
theorem Fr.of_chg{S:Nat→Prop}{T:Addr→Prop}{a b:World}(h:Chg T a b)(hS:∀j o,T ⟨j,o,none⟩→S j):Fr S a b:=⟨h.os,h.tape,h.output,h.size,fun j hj hn=>h.block j hj (fun o ho=>hn (hS j o ho))⟩
theorem Fr.of_grown{S:Nat→Prop}{a b:World}{row:Option Nat}(h:a.grownBy b row)(hS:∀j,some j=row→S j):Fr S a b:=⟨h.os,h.tape,h.output,h.size,fun j hj hn=>h.block j hj (fun e=>hn (hS j e))⟩
theorem Fr.setCells{S:Nat→Prop}{a b:World}(h:Fr S a b)(g:Nat)(hg:S g):∀(vs:List Value) (o:Nat),Fr S a (b.setCells g o vs):=fun vs o=>
  h.trans (S':=fun j=>j=g) (by
    have key:∀(vs:List Value) (o:Nat) (b:World),Fr (fun j=>j=g) b (b.setCells g o vs):=by
      intro vs
      induction vs with
      |nil=>intro o b;exact Fr.refl _ _
      | cons v r ih =>
        intro o b
        show Fr _ b ((b.setCell ⟨g,o,none⟩ v).setCells g (o+1) r)
        have h1:Fr (fun j=>j=g) b (b.setCell ⟨g,o,none⟩ v):=⟨rfl,rfl,rfl,by simp,fun j _ hn=>sT _ _ _ _ hn⟩
        exact h1.trans (ih (o+1) _) (fun j _ h=>h)
    exact key vs o b) (fun j _ e=>by subst e;exact hg)
theorem Fr.drewN{S:Nat→Prop}{a b:World}(h:Fr S a b)(n:Nat):Fr S a (b.drewN n):=⟨h.os,h.tape,h.output,h.size,h.block⟩
theorem Fr.drew{S:Nat→Prop}{a b:World}(h:Fr S a b):Fr S a b.drew:=⟨h.os,h.tape,h.output,h.size,h.block⟩
theorem Fr.setCell{S:Nat→Prop}{a b:World}(h:Fr S a b)(p:Addr)(v:Value)(hp:S p.block):Fr S a (b.setCell p v):=
  h.trans (S':=fun j=>j=p.block) ⟨rfl,rfl,rfl,by simp,fun j _ hn=>sT _ _ _ _ hn⟩ (fun j _ e=>by subst e;exact hp)
def heldR(v:Value):Option (DataW Value × List MemPlace):=some (.held v,[])
def FarA(A:Nat→Prop)(v:Value)(l:List BlkD):Prop:=(∀q,v.ownBlock=some q→A q)∧∀x∈l,∀q,x.vi.ownBlock=some q→A q
theorem Far.toA{A:Nat→Prop}{B:Nat}{v:Value}{l:List BlkD}(h:Far B v l)(hA:∀q,B≤q→A q):FarA A v l:=⟨fun q e=>hA q (h.1 q e),fun x hx q e=>hA q (h.2 x hx q e)⟩
structure EnB (A:Nat→Prop) (TE TB TI:TypeId) (ep mp bp:Nat) (w:World) (room pu st:Int) (v:Value) (zs:List BlkD):Prop where
  ty:∃cs f,w.heap[ep]? =some (.cells cs TE f)
  at_:At w ep 0 [.pointer (some ⟨bp,0,none⟩),.int .i64 room,v,.int .i64 pu,.int .i64 st,.map (some mp)]
  frz:∀o,w.frozen? ⟨ep,o,none⟩=false
  blks:Blks w v zs
  far:FarA A v zs
  typ:Typ TB TI w v zs
def EnC(A:Nat→Prop)(P:Program)(K TM:TypeId)(ep mp:Nat)(w:World)(zs:List BlkD)(n:Nat):Prop:=
  mp<ep∧∃D,w.ownsMap P K heldR mp n D∧∀x∈zs,∃vc,D.atKey (.int .u32 x.pc) (.held (.slice none 0 0))=.held vc∧Sl w vc 5 (mkM x.pc x.ins).length ((mkM x.pc x.ins).flatMap jo)∧∀q,vc.ownBlock=some q→A q∧∃cs f,w.heap[q]? =some (.cells cs TM f)
def Row3(TB TI TM:TypeId)(w:World)(q:Nat):Prop:=∃cs f,w.heap[q]? =some (.cells cs TB f)∨w.heap[q]? =some (.cells cs TI f)∨w.heap[q]? =some (.cells cs TM f)
section
variable {A : Nat → Prop} {P : Program} {K TE TB TI TM TU : TypeId} {ep mp bp : Nat} {w w' : World} {room pu st pu' st' : Int} {v v' : Value} {zs zs' : List BlkD} {n : Nat}
theorem qR{q:Nat}{o:Obj}(h:w.heap[q]? =some o):q<w.heap.size:=(Array.getElem?_eq_some_iff.1 h).1
theorem EnB.lt(h:EnB A TE TB TI ep mp bp w room pu st v zs):ep<w.heap.size:=by obtain⟨cs,f,e⟩:=h.ty;exact qR e
theorem EnB.keep0(h:EnB A TE TB TI ep mp bp w room pu st v zs)(e0:w'.heap[ep]? =w.heap[ep]?)(hv:∀g,v.ownBlock=some g→w'.heap[g]? =w.heap[g]?)(hx:∀x∈zs,∀g,x.vi.ownBlock=some g→w'.heap[g]? =w.heap[g]?):EnB A TE TB TI ep mp bp w' room pu st v zs:=by
  refine⟨?_,fun j hj=>(qA e0 _).trans (h.at_ j hj),fun o=>(qK e0 o).trans (h.frz o),⟨QX h.blks.1 hv,fun x hx'=>⟨QX (h.blks.2 x hx').at_ (hx x hx'),(h.blks.2 x hx').pc⟩⟩,h.far,⟨fun g hg=> ?_,fun x hx' g hg=> ?_⟩⟩
  · obtain⟨cs,f,e⟩:=h.ty;exact⟨cs,f,e0.trans e⟩
  · obtain⟨cs,f,e⟩:=h.typ.1 g hg;exact⟨cs,f,(hv g hg).trans e⟩
  · obtain⟨cs,f,e⟩:=h.typ.2 x hx' g hg;exact⟨cs,f,(hx x hx' g hg).trans e⟩
theorem EnB.keep(h:EnB A TE TB TI ep mp bp w room pu st v zs)(hA:∀q,A q→ep<q)(hk:∀k,k<w.heap.size→(k=ep∨(ep<k∧A k∧Row3 TB TI TM w k))→w'.heap[k]? =w.heap[k]?):EnB A TE TB TI ep mp bp w' room pu st v zs:=by
  refine h.keep0 (hk ep h.lt (.inl rfl)) (fun g hg=> ?_) (fun x hx g hg=> ?_)
  · obtain⟨cs,f,e⟩:=h.typ.1 g hg
    exact hk g (qR e) (.inr ⟨hA g (h.far.1 g hg),h.far.1 g hg,cs,f,.inl e⟩)
  · obtain⟨cs,f,e⟩:=h.typ.2 x hx g hg
    exact hk g (qR e) (.inr ⟨hA g (h.far.2 x hx g hg),h.far.2 x hx g hg,cs,f,.inr (.inl e)⟩)
theorem EnC.keep(h:EnC A P K TM ep mp w zs n)(hA:∀q,A q→ep<q)(hk:∀k,k<w.heap.size→(k=mp∨(ep<k∧A k∧Row3 TB TI TM w k))→w'.heap[k]? =w.heap[k]?):EnC A P K TM ep mp w' zs n:=by
  obtain⟨h0,D,⟨es,clock,hb,F,hs,hD⟩,h2⟩:=h
  refine⟨h0,D,⟨es,clock,(hk mp (qR hb) (.inl rfl)).trans hb,F,hs,hD⟩,fun x hx=> ?_⟩
  obtain⟨vc,e1,e2,e3⟩:=h2 x hx
  have hv:∀g,vc.ownBlock=some g→w'.heap[g]? =w.heap[g]? :=fun g hg=>by
    obtain⟨h4,cs,f,e⟩:=e3 g hg
    exact hk g (qR e) (.inr ⟨hA g h4,h4,cs,f,.inr (.inr e)⟩)
  refine⟨vc,e1,QX e2 hv,fun q hq=> ?_⟩
  obtain⟨h4,cs,f,e⟩:=e3 q hq
  exact⟨h4,cs,f,(hv q hq).trans e⟩
theorem EnB.below(h:EnB A TE TB TI ep mp bp w room pu st v zs)(hb:Below w.heap.size w w'):EnB A TE TB TI ep mp bp w' room pu st v zs:=h.keep0 (hb.block ep h.lt) (fun g hg=>by
  obtain⟨cs,f,e⟩:=h.typ.1 g hg
  exact hb.block g (qR e)) (fun x hx g hg=>by
  obtain⟨cs,f,e⟩:=h.typ.2 x hx g hg
  exact hb.block g (qR e))
theorem EnC.below(h:EnC A P K TM ep mp w zs n)(hb:Below w.heap.size w w'):EnC A P K TM ep mp w' zs n:=by
  obtain⟨h0,D,⟨es,clock,hB,F,hs,hD⟩,h2⟩:=h
  refine⟨h0,D,⟨es,clock,(hb.block mp (qR hB)).trans hB,F,hs,hD⟩,fun x hx=> ?_⟩
  obtain⟨vc,e1,e2,e3⟩:=h2 x hx
  refine⟨vc,e1,Sl.below e2 hb,fun q hq=> ?_⟩
  obtain⟨h4,cs,f,e⟩:=e3 q hq
  exact⟨h4,cs,f,(hb.block q (qR e)).trans e⟩
theorem EnB.weak{A':Nat→Prop}(h:EnB A TE TB TI ep mp bp w room pu st v zs)(hA:∀q,q<w.heap.size→A q→A' q):EnB A' TE TB TI ep mp bp w room pu st v zs:=⟨h.ty,h.at_,h.frz,h.blks,⟨fun q hq=>by
  obtain⟨cs,f,e⟩:=h.typ.1 q hq
  exact hA q (qR e) (h.far.1 q hq),fun x hx q hq=>by
  obtain⟨cs,f,e⟩:=h.typ.2 x hx q hq
  exact hA q (qR e) (h.far.2 x hx q hq)⟩,h.typ⟩
theorem EnC.weak{A':Nat→Prop}(h:EnC A P K TM ep mp w zs n)(hA:∀q,q<w.heap.size→A q→A' q):EnC A' P K TM ep mp w zs n:=by
  obtain⟨h0,D,h1,h2⟩:=h
  refine⟨h0,D,h1,fun x hx=> ?_⟩
  obtain⟨vc,e1,e2,e3⟩:=h2 x hx
  refine⟨vc,e1,e2,fun q hq=> ?_⟩
  obtain⟨h4,cs,f,e⟩:=e3 q hq
  exact⟨hA q (qR e) h4,cs,f,e⟩
theorem EnB.there(h:EnB A TE TB TI ep mp bp w room pu st v zs):w.there ep 1 4:=fun j hj=>by
  have h1:=h.at_ (j+1) zL
  refine⟨?_,h.frz _⟩
  rw[sM]at h1
  rw[Nat.add_comm 1 j,h1]
  simp[show j+1<6 by omega]
theorem EnC.lt(h:EnC A P K TM ep mp w zs n):mp<w.heap.size:=by obtain⟨_,D,⟨es,clock,hb,_⟩,_⟩:=h;exact qR hb
theorem EnC.sub(h:EnC A P K TM ep mp w zs n)(hs:∀x∈zs',∃y∈zs,x.pc=y.pc∧x.ins=y.ins):EnC A P K TM ep mp w zs' n:=by
  obtain⟨h0,D,h1,h2⟩:=h
  refine⟨h0,D,h1,fun x hx=> ?_⟩
  obtain⟨y,hy,e1,e2⟩:=hs x hx
  rw[e1,e2];exact h2 y hy
theorem EnB.store(h:EnB A TE TB TI ep mp bp w room pu st v zs)(hA:∀q,A q→ep<q)(hb:Blks w v' zs')(hf:FarA A v' zs')(ht:Typ TB TI w v' zs'):EnB A TE TB TI ep mp bp (w.setCells ep 1 [.int .i64 room,v',.int .i64 pu',.int .i64 st']) room pu' st' v' zs':=by
  have F:Fr (fun j=>j=ep) w (w.setCells ep 1 [.int .i64 room,v',.int .i64 pu',.int .i64 st']):=Fr.setCells (S:=fun j=>j=ep) (Fr.refl _ w) ep rfl _ _
  have hk:∀g,g<w.heap.size→ep<g→(w.setCells ep 1 [.int .i64 room,v',.int .i64 pu',.int .i64 st']).heap[g]? =w.heap[g]? :=fun g h1 h2=>F.block g h1 om
  have hv:∀g,v'.ownBlock=some g→(w.setCells ep 1 [.int .i64 room,v',.int .i64 pu',.int .i64 st']).heap[g]? =w.heap[g]? :=fun g hg=>by
    obtain⟨cs,f,e⟩:=ht.1 g hg
    exact hk g (qR e) (hA g (hf.1 g hg))
  have hx:∀x∈zs',∀g,x.vi.ownBlock=some g→(w.setCells ep 1 [.int .i64 room,v',.int .i64 pu',.int .i64 st']).heap[g]? =w.heap[g]? :=fun x hx g hg=>by
    obtain⟨cs,f,e⟩:=ht.2 x hx g hg
    exact hk g (qR e) (hA g (hf.2 x hx g hg))
  have g0:=h.at_.get (j:=0) rfl
  have g1:=h.at_.get (j:=1) rfl
  have g2:=h.at_.get (j:=2) rfl
  have g3:=h.at_.get (j:=3) rfl
  have g4:=h.at_.get (j:=4) rfl
  have g5:=h.at_.get (j:=5) rfl
  have e:w.setCells ep 1 [.int .i64 room,v',.int .i64 pu',.int .i64 st']=(((w.setCell ⟨ep,1,none⟩ (.int .i64 room)).setCell ⟨ep,2,none⟩ v').setCell ⟨ep,3,none⟩ (.int .i64 pu')).setCell ⟨ep,4,none⟩ (.int .i64 st'):=rfl
  simp only[sM]at g0 g1 g2 g3 g4 g5
  have ot:∀(W:World) (i j:Nat) (u:Value),i≠j→(W.setCell ⟨ep,j,none⟩ u).cell? ⟨ep,i,none⟩=W.cell? ⟨ep,i,none⟩:=fun W i j u hn=>sJ _ _ _ _ zD
  refine⟨?_, ?_,fun o=> ?_,⟨QX hb.1 hv,fun x hx'=>⟨QX (hb.2 x hx').at_ (hx x hx'),(hb.2 x hx').pc⟩⟩,hf,⟨fun g hg=> ?_,fun x hx' g hg=> ?_⟩⟩
  · rw[e];exact jO (jO (jO (jO h.ty)))
  · rw[e]
    refine qg ?_ (qg ?_ (qg ?_ (qg ?_ (qg ?_ (qg ?_ uR)))))
    · exact(ot _ _ _ _ om).trans ((ot _ _ _ _ om).trans ((ot _ _ _ _ om).trans ((ot _ _ _ _ om).trans g0)))
    · exact(ot _ _ _ _ om).trans ((ot _ _ _ _ om).trans ((ot _ _ _ _ om).trans (sK _ _ _ g1)))
    · exact(ot _ _ _ _ om).trans ((ot _ _ _ _ om).trans (sK _ _ _ ((ot _ _ _ _ om).trans g2)))
    · exact(ot _ _ _ _ om).trans (sK _ _ _ ((ot _ _ _ _ om).trans ((ot _ _ _ _ om).trans g3)))
    · exact sK _ _ _ ((ot _ _ _ _ om).trans ((ot _ _ _ _ om).trans ((ot _ _ _ _ om).trans g4)))
    · exact(ot _ _ _ _ om).trans ((ot _ _ _ _ om).trans ((ot _ _ _ _ om).trans ((ot _ _ _ _ om).trans g5)))
  · rw[e];simp only[sL];exact h.frz o
  · obtain⟨cs,f,e⟩:=ht.1 g hg;exact⟨cs,f,(hv g hg).trans e⟩
  · obtain⟨cs,f,e⟩:=ht.2 x hx' g hg;exact⟨cs,f,(hx x hx' g hg).trans e⟩
theorem key_ok{x:Int}(h:U32 x):(Lit.int .u32 x).wf=true:=WalkArith.wf_u32 ⟨h.1,by have:=h.2;omega⟩
theorem EnC.put{T E:TypeId}(h:EnC A P K TM ep mp w zs n)(hA:∀q,A q→ep<q)(hK:P.underlying K=some (.int .u32))(hT:P.underlying T=some (.map K E))(hn:n<maxLen){y:BlkD}(hy:U32 y.pc){vc:Value}(hc:Sl w vc 5 (mkM y.pc y.ins).length ((mkM y.pc y.ins).flatMap jo))(hq:∀q,vc.ownBlock=some q→A q∧∃cs f,w.heap[q]? =some (.cells cs TM f))
    (hz:∀x∈zs',U32 x.pc∧((x.pc=y.pc∧x.ins=y.ins)∨(x.pc≠y.pc∧∃z∈zs,x.pc=z.pc∧x.ins=z.ins))):
    ∃w',(Instr.mapUpdate T (.map (some mp)) (.int .u32 y.pc) vc).run P w=.ok () w'∧EnC A P K TM ep mp w' zs' (n+1)∧Fr (fun j=>j=mp) w w':=by
  obtain⟨h0,D,h1,h2⟩:=h
  obtain⟨w',r1,r2,r3⟩:=h1.update (int_keyed hK) hT hn (keyOf_int_mk hK (key_ok hy)) (show heldR vc=some (.held vc,[])from rfl)
  have F:Fr (fun j=>j=mp) w w':=Fr.of_grown r3 (fun j e=>by cases e;rfl)
  refine⟨w',r1,⟨h0,_,r2,fun x hx=> ?_⟩,F⟩
  have hfar:∀vc:Value,(∀q,vc.ownBlock=some q→A q∧∃cs f,w.heap[q]? =some (.cells cs TM f))→∀g,vc.ownBlock=some g→w'.heap[g]? =w.heap[g]? :=fun vc hv g hg=>by
    obtain⟨h4,cs,f,e⟩:=hv g hg
    exact F.block g (qR e) (by have:=hA g h4;omega)
  obtain⟨hu,hx'|⟨hne,z,hz',e1,e2⟩⟩:=hz x hx
  · rw[hx'.1,hx'.2]
    refine⟨vc,atKey_put_same h1.isMap (show WideAt.IsKeyLit (.int .u32 y.pc)from trivial) _ _,QX hc (hfar vc hq),fun q e=> ?_⟩
    obtain⟨h4,cs,f,e4⟩:=hq q e
    exact⟨h4,cs,f,(hfar vc hq q e).trans e4⟩
  · obtain⟨vz,q1,q2,q3⟩:=h2 z hz'
    rw[e1,e2]
    refine⟨vz,(atKey_put_other (by intro e;injection e with _ e3;exact hne (by rw[e1,e3])) _ _).trans q1,QX q2 (hfar vz q3),fun q e=> ?_⟩
    obtain⟨h4,cs,f,e4⟩:=q3 q e
    exact⟨h4,cs,f,(hfar vz q3 q e).trans e4⟩
theorem EnC.look{T E:TypeId}(h:EnC A P K TM ep mp w zs n)(hK:P.underlying K=some (.int .u32))(hT:P.underlying T=some (.map K E))(hz0:∀W,(zeroValue E).run P W=.ok (.slice none 0 0) W){x:BlkD}(hx:x∈zs)(hu:U32 x.pc):
    ∃vc,(∀W:World,W.heap[mp]? =w.heap[mp]? →(Instr.lookup T (.map (some mp)) (.int .u32 x.pc) false).run P W=.ok vc W)∧Sl w vc 5 (mkM x.pc x.ins).length ((mkM x.pc x.ins).flatMap jo)∧∀q,vc.ownBlock=some q→A q∧∃cs f,w.heap[q]? =some (.cells cs TM f):=by
  obtain⟨h0,D,h1,h2⟩:=h
  obtain⟨vc,e1,e2,e3⟩:=h2 x hx
  refine⟨vc,fun W hW=> ?_,e2,e3⟩
  obtain⟨es,clock,hb,F,hs,hD⟩:=h1
  have h1':W.ownsMap P K heldR mp n D:=⟨es,clock,hW.trans hb,F,hs,hD⟩
  obtain⟨u,ps,r1,r2⟩:=h1'.lookup (int_keyed hK) hT (hz0 W) (show heldR (.slice none 0 0)=some (.held (.slice none 0 0),[])from rfl) (keyOf_int_mk hK (key_ok hu))
  rw[e1]at r2
  have:u=vc:=by
    injection r2 with r3
    injection r3 with r4
    injection r4
  rw[this]at r1
  exact r1
theorem Wk.other{bh hc cp k:Nat}{vm vo:Value}{ty:TypeId}{o0 o:List Int}{fr tw:Int}{s:St}{S:Nat→Prop}(h:Wk bp bh hc cp k vm vo ty o0 o fr tw w s)(hF:Fr S w w')(h1:¬S bp)(h2:¬S bh)(h3:∀j,cp≤j→¬S j)(h4:∀j,vm.ownBlock=some j→¬S j)(h5:∀j,vo.ownBlock=some j→¬S j):
    Wk bp bh hc cp k vm vo ty o0 o fr tw w' s:=by
  have b1:=h.b1
  have b2:=h.b2
  have hlt:=h.clt
  have e:=hF.block bp om h1
  have eh:=hF.block bh om h2
  refine⟨h.core.move (h':=s.hart k) (hF.block cp hlt (h3 _ (sN _))) (fun g hg=>hF.block g (by have:=h.mlt g hg;omega) (h4 g hg)) (fun g hg hg2=>hF.block g hg2 (h3 g om)) hF.size (fun j hj=>(qA eh _).trans (h.core.hart j hj)) (fun o=>(qK eh o).trans (h.core.hfz o)),h.b1,h.b2,(qA e _).trans h.c0,(qA e _).trans h.c1,(qA e _).trans h.c2,(qA e _).trans h.c3,fun o=>(qK e o).trans (h.frz o),fun j hj=>(qA eh _).trans (h.harts j hj),h.mlt,qI h.own (fun g hg=>hF.block g (h.own.lt g hg).2 (h5 g hg)),h.vlt,h.kl,h.hcap⟩
end
def Shp(B:Nat)(a b:World):Prop:=∀k,k<B→QH b.heap[k]? a.heap[k]?
theorem Shp.trans{B:Nat}{a b c:World}(h:Shp B a b)(k:Shp B b c):Shp B a c:=fun i hi=>(k i hi).trans (h i hi)
theorem Shp.of_below{B C:Nat}{a b:World}(h:Below C a b)(hB:B≤C):Shp B a b:=fun k hk=>QH.of_eq (h.block k om)
theorem Shp.of_fr{B:Nat}{S:Nat→Prop}{a b:World}(h:Fr S a b)(hB:B≤a.heap.size)(hS:∀j,j<B→¬S j):Shp B a b:=fun k hk=>h.shp om (hS k hk)
theorem Shp.set{B:Nat}{a b:World}(h:Shp B a b)(p:Addr)(v:Value):Shp B a (b.setCell p v):=fun k hk=>(Qd b p v k).trans (h k hk)
theorem Shp.of_grown{B:Nat}{row:Option Nat}{a b:World}(h:a.grownBy b row)(hB:B≤a.heap.size)(hr:∀k,row=some k→B≤k):Shp B a b:=fun k hk=>QH.of_eq (h.block k om (fun e=>by have:=hr k e.symm;omega))
def Sh(bh:Nat)(vm:Value)(a b:World):Prop:=∀k,(k=bh∨vm.ownBlock=some k)→QH b.heap[k]? a.heap[k]?
theorem Sh.refl(bh:Nat)(vm:Value)(a:World):Sh bh vm a a:=fun _ _=>QH.refl _
theorem Sh.trans{bh:Nat}{vm:Value}{a b c:World}(h:Sh bh vm a b)(k:Sh bh vm b c):Sh bh vm a c:=fun i hi=>(k i hi).trans (h i hi)
theorem Sh.of_below{bh C:Nat}{vm:Value}{a b:World}(h:Below C a b)(hB:∀k,(k=bh∨vm.ownBlock=some k)→k<C):Sh bh vm a b:=fun k hk=>QH.of_eq (h.block k (hB k hk))
theorem Sh.of_fr{bh:Nat}{vm:Value}{S:Nat→Prop}{a b:World}(h:Fr S a b)(hB:∀k,(k=bh∨vm.ownBlock=some k)→k<a.heap.size∧¬S k):Sh bh vm a b:=fun k hk=>h.shp (hB k hk).1 (hB k hk).2
theorem Sh.set{bh:Nat}{vm:Value}{a b:World}(h:Sh bh vm a b)(p:Addr)(v:Value):Sh bh vm a (b.setCell p v):=fun k hk=>(Qd b p v k).trans (h k hk)
theorem Sh.of_grown{bh:Nat}{vm:Value}{row:Option Nat}{a b:World}(h:a.grownBy b row)(hB:∀k,(k=bh∨vm.ownBlock=some k)→k<a.heap.size∧some k≠row):Sh bh vm a b:=fun k hk=>QH.of_eq (h.block k (hB k hk).1 (hB k hk).2)
def Beg(B:Nat)(tb th:TypeId)(bh hc:Nat)(vm:Value)(w:World):Prop:=∃(wb:World) (nm nh:Nat) (ms hs:List Value),wb.ownsRow B tb 1 vm nm ms∧wb.ownsRow B th 37 (.slice (some ⟨bh,0,none⟩) nh hc) nh hs∧∀k,(k=bh∨vm.ownBlock=some k)→QH w.heap[k]? wb.heap[k]?
theorem Beg.on{B bh hc:Nat}{tb th:TypeId}{vm:Value}{w w':World}(h:Beg B tb th bh hc vm w)(hs:∀k,(k=bh∨vm.ownBlock=some k)→QH w'.heap[k]? w.heap[k]?):Beg B tb th bh hc vm w':=by
  obtain⟨wb,nm,nh,ms,hs',h1,h2,h3⟩:=h
  exact⟨wb,nm,nh,ms,hs',h1,h2,fun k hk=>(hs k hk).trans (h3 k hk)⟩
theorem Beg.lt{B bh hc:Nat}{tb th:TypeId}{vm:Value}{w:World}(h:Beg B tb th bh hc vm w){q:Nat}(hq:q=bh∨vm.ownBlock=some q):B≤q∧q<w.heap.size:=by
  obtain⟨wb,nm,nh,ms,hs',h1,h2,h3⟩:=h
  have h4:=h3 q hq
  rcases hq with rfl|e
  · obtain⟨cs,f,e2⟩:=Qj h2 rfl
    obtain⟨cs',e3,-⟩:=h4 cs _ f e2
    exact⟨(h2.lt q rfl).1,qR e3⟩
  · obtain⟨cs,f,e2⟩:=Qj h1 e
    obtain⟨cs',e3,-⟩:=h4 cs _ f e2
    exact⟨(h1.lt q e).1,qR e3⟩
theorem Beg.below{B bh hc:Nat}{tb th:TypeId}{vm:Value}{w w':World}(h:Beg B tb th bh hc vm w)(hb:Below w.heap.size w w'):Beg B tb th bh hc vm w':=h.on (fun q hq=>QH.of_eq (hb.block q (h.lt hq).2))
theorem Beg.shp{B bh hc C:Nat}{tb th:TypeId}{vm:Value}{w w':World}(h:Beg B tb th bh hc vm w)(hs:Shp C w w')(h1:bh<C)(h2:∀q,vm.ownBlock=some q→q<C):Beg B tb th bh hc vm w':=h.on (fun q hq=>hs q (by rcases hq with rfl|e;exact h1;exact h2 q e))
theorem shp_owns{B:Nat}{e:TypeId}{s n n':Nat}{v:Value}{xs ys:List Value}{wb w:World}(h:wb.ownsRow B e s v n xs)(hs:∀k,v.ownBlock=some k→QH w.heap[k]? wb.heap[k]?)(hr:Sl w v s n' ys):w.ownsRow B e s v n' ys:=by
  obtain⟨r1,ao,cap',r2,r3,r4,r5,r6⟩:=hr
  rcases h.2 with⟨rfl,rfl⟩|⟨g,cap,cur,rfl,h3,h4,h5,h6,h7,h8⟩
  · injection r2 with _ e2 _
    subst e2
    exact⟨r1,.inl ⟨rfl,rfl⟩⟩
  · injection r2 with e1 e2 e3
    subst e1 e2 e3
    obtain⟨cs,k1,k2⟩:=hs g rfl cur e (0,0) h4
    refine⟨r1,.inr ⟨g,cap,cs,rfl,h3,k1,h5,h6,by rw[k2];exact h7, ?_⟩⟩
    have hle:n*s≤cs.size:=by rw[k2,h7];exact Nat.mul_le_mul_right _ h5
    apply List.ext_getElem
    · rw[List.length_take,Array.length_toList,r1];omega
    · intro i i1 i2
      have hne:ys≠[]:=fun e=>by rw[e]at i2;exact Nat.not_lt_zero _ i2
      have:=(r6 _ rfl hne).2 i i2
      have hi:i<n*s:=by rw[←r1];exact i2
      unfold World.cell? at this
      simp only[k1]at this
      rw[List.getElem_take,Array.getElem_toList]
      have h9:i<cs.size:=om
      simp only[sM,Option.isSome_none,Bool.false_eq_true,if_false,Array.getElem?_eq_getElem h9]at this
      exact Option.some.inj this
theorem Beg.own{B bh hc n nh:Nat}{tb th:TypeId}{vm:Value}{w:World}{ys zs:List Value}(h:Beg B tb th bh hc vm w)(h1:Sl w vm 1 n ys)(h2:Sl w (.slice (some ⟨bh,0,none⟩) nh hc) 37 nh zs):w.ownsRow B tb 1 vm n ys∧w.ownsRow B th 37 (.slice (some ⟨bh,0,none⟩) nh hc) nh zs:=by
  obtain⟨wb,nm,nh',ms,hs',k1,k2,k3⟩:=h
  refine⟨shp_owns k1 (fun k e=>k3 k (.inr e)) h1, ?_⟩
  rcases k2.2 with⟨e,-⟩|⟨g,cap,cur,e,h3,h4,h5,h6,h7,h8⟩
  · cases e
  · injection e with e1 _ e3
    injection e1 with e1
    injection e1 with e1
    subst e1 e3
    obtain⟨x1,ao,cap',x2,x3,x4,x5,x6⟩:=h2
    injection x2 with y1 _ x2
    subst y1 x2
    have hw:wb.ownsRow B th 37 (.slice (some ⟨bh,0,none⟩) nh hc) nh (cur.toList.take (nh*37)):=⟨by rw[List.length_take,Array.length_toList,h7,Nat.min_eq_left (Nat.mul_le_mul_right _ x3)],.inr ⟨bh,hc,cur,rfl,h3,h4,x3,h6,h7,rfl⟩⟩
    exact shp_owns hw (fun k e=>k3 k (.inl (by cases e;rfl))) ⟨x1,_,hc,rfl,x3,x4,x5,x6⟩
theorem Qu(k:IntKind)(w:World)(xs:List Int)(t:TypeId)(hx:xs.length≤1000):Ints k (w.alloc (.cells (xs.map (Value.int k)).toArray t)) (.slice (some ⟨w.heap.size,0,none⟩) xs.length xs.length) xs:=
  Sl.mk (QN w _ _ _) zC (sN _) zZ
theorem box_set{w wa w1:World}{pb i:Nat}{xs:List Value}{row:Option Nat}{v:Value}(h:At w pb 0 xs)(hlt:pb<w.heap.size)(hb:Below w.heap.size w wa)(hg:wa.grownBy w1 row)(hr:∀k,row=some k→pb<k)(hi:i<xs.length):
    At (w1.setCell ⟨pb,i,none⟩ v) pb 0 (xs.set i v)∧(∀o,(w1.setCell ⟨pb,i,none⟩ v).frozen? ⟨pb,o,none⟩=w.frozen? ⟨pb,o,none⟩)∧(∀q,q<w.heap.size→q≠pb→row≠some q→(w1.setCell ⟨pb,i,none⟩ v).heap[q]? =w.heap[q]?)∧Below pb w (w1.setCell ⟨pb,i,none⟩ v):=by
  have hs:=hb.size
  have e:=(hg.block pb om (fun e=>by have:=hr pb e.symm;omega)).trans (hb.block pb hlt)
  have h1:At w1 pb 0 xs:=fun j hj=>(qA e _).trans (h j hj)
  refine⟨by simpa using h1.set i hi v,fun o=>(sL _ _ _ _).trans (qK e o),fun q h1 h2 h3=>(sT _ _ _ _ (by show q≠pb;exact h2)).trans ((hg.block q om (fun e=>h3 e.symm)).trans (hb.block q h1)), ?_⟩
  have h2:Below pb wa w1:=⟨hg.os,hg.tape,hg.output,hg.size,fun k hk=>hg.block k om (fun e=>by have:=hr k e.symm;omega)⟩
  exact((hb.mono om).trans h2).setCell (p:=⟨pb,i,none⟩) (sN _) v
theorem flat_len37:∀l:List Hart,(∀x∈l,x.Wf)→(l.flatMap qJ).length=l.length*37
  |[],_=>rfl
  | x :: r, hx => by
    rw[List.flatMap_cons,sW,qG (hx x zC),flat_len37 r (fun y hy=>hx y (by simp[hy])),List.length_cons]
    omega
end Go.Proofs.YtlfnddmncbkjaabGreatDoor.Fb
namespace Go.Proofs.YtlfnddmncbkjaabGreatDoor.W
open Go.RowKit Fb Go.Lib
structure Env (B:Nat) (w:World):Prop where
  t : Lib.TabBelow Tryz.prog B w "internal/strconv.uint64pow10" .u64 Lib.pow10Tab
  s : Lib.TabBelow Tryz.prog B w "strings.asciiSpace" .u8 Lib.asciiSpaceTab
  y : ErrD B w "strconv.ErrSyntax"
  r : ErrD B w "strconv.ErrRange"
theorem Env.keep{B:Nat}{w w':World}(h:Env B w)(hb:Below B w w'):Env B w':=
  ⟨fun W hW=>h.t W (hb.trans hW),fun W hW=>h.s W (hb.trans hW),by obtain⟨tp,p,e⟩:=h.y;exact⟨tp,p,fun W hW=>e W (hb.trans hW)⟩,by obtain⟨tp,p,e⟩:=h.r;exact⟨tp,p,fun W hW=>e W (hb.trans hW)⟩⟩
theorem Env.up{B C:Nat}{w:World}(h:Env B w)(hB:B≤C):Env C w:=
  ⟨fun W hW=>h.t W (hW.mono hB),fun W hW=>h.s W (hW.mono hB),by obtain⟨tp,p,e⟩:=h.y;exact⟨tp,p,fun W hW=>e W (hW.mono hB)⟩,by obtain⟨tp,p,e⟩:=h.r;exact⟨tp,p,fun W hW=>e W (hW.mono hB)⟩⟩
structure PAt (pb:Nat) (vm vh vp vd:Value) (us:List UndD) (w:World) (p:PlD):Prop where
  at_:At w pb 0 [vm,vh,vp,vd,.bool p.ran]
  frz:∀o,w.frozen? ⟨pb,o,none⟩=false
  oy:w.ownsRow (pb+1) 5 1 vm p.m.mem.length (p.m.mem.map (Value.int .u8))
  oh:w.ownsRow (pb+1) 43 37 vh p.m.harts.length (p.m.harts.flatMap qJ)
  op:w.ownsRow (pb+1) 47 2 vp p.ps.length (p.ps.flatMap plist)
  up:p.ran=true→Up (pb+1) 136 5 142 w vd us∧us.map (·.d)=p.us∧(∀d∈p.us,URng d)∧p.us.length≤120000
  vd:∃a n c,vd=.slice a n c
  wf:p.m.Wf
  oks:∀x∈p.m.harts,x.ok=true
  lim:p.m.mem.length≤4096∧p.m.harts.length≤4∧p.ps.length≤300
  prs:∀q∈p.ps,U32 q.1∧U32 q.2
def PlAt(pb:Nat)(w:World)(p:PlD):Prop:=∃vm vh vp vd us,PAt pb vm vh vp vd us w p
section
variable {pb : Nat} {vm vh vp vd : Value} {us : List UndD} {w wa w1 w' : World} {p : PlD}
theorem PAt.lt(h:PAt pb vm vh vp vd us w p):pb<w.heap.size:=Fb.qD (h.at_ 0 zC)
theorem PAt.below(h:PAt pb vm vh vp vd us w p)(hb:Below w.heap.size w w'):PAt pb vm vh vp vd us w' p:=
  ⟨h.at_.below hb,fun o=>(hb.frozen (p:=⟨pb,o,none⟩) h.lt).trans (h.frz o),qP h.oy hb,qP h.oh hb,qP h.op hb,fun e=>⟨(h.up e).1.below hb,(h.up e).2⟩,h.vd,h.wf,h.oks,h.lim,h.prs⟩
theorem PAt.off(h:PAt pb vm vh vp vd us w p):PAt pb vm vh vp vd us (w.setCell ⟨pb,4,none⟩ (.bool false)) {p with ran:=false}:=by
  have hk:∀q,pb+1≤q→(w.setCell ⟨pb,4,none⟩ (.bool false)).heap[q]? =w.heap[q]? :=fun q hq=>sT _ _ _ _ yP
  exact⟨by simpa using h.at_.set 4 zC (.bool false),fun o=>(sL _ _ _ _).trans (h.frz o),qI h.oy (fun g e=>hk g (h.oy.lt g e).1),qI h.oh (fun g e=>hk g (h.oh.lt g e).1),qI h.op (fun g e=>hk g (h.op.lt g e).1),(fun e=>by cases e),h.vd,h.wf,h.oks,h.lim,h.prs⟩
theorem PAt.mem(h:PAt pb vm vh vp vd us w p)(hr:p.ran=false)(hb:Below w.heap.size w wa){v:Value}{bs:List Int}(hown:w1.ownsRow (pb+1) 5 1 v (p.m.mem.length+bs.length) (p.m.mem.map (Value.int .u8)++bs.map (Value.int .u8)))(hg:wa.grownBy w1 vm.ownBlock)(hl:p.m.mem.length+bs.length≤4096)(hbs:jC bs):
    PAt pb v vh vp vd us (w1.setCell ⟨pb,0,none⟩ v) {p with m:={p.m with mem:=p.m.mem++bs}}∧Below pb w (w1.setCell ⟨pb,0,none⟩ v)∧∀q,q<w.heap.size→q≠pb→vm.ownBlock≠some q→(w1.setCell ⟨pb,0,none⟩ v).heap[q]? =w.heap[q]? :=by
  obtain⟨b1,b2,b3,b4⟩:=box_set (v:=v) h.at_ h.lt hb hg (fun k e=>(h.oy.lt k e).1) (i:=0) zC
  refine⟨⟨b1,fun o=>(b2 o).trans (h.frz o), ?_,qI h.oh (fun g e=>b3 g (h.oh.lt g e).2 (by have:=(h.oh.lt g e).1;omega) (QP h.oh h.oy zF g e)),qI h.op (fun g e=>b3 g (h.op.lt g e).2 (by have:=(h.op.lt g e).1;omega) (QP h.op h.oy zF g e)),(fun e=>by rw[hr]at e;cases e),h.vd,⟨fun x hx=> ?_,h.wf.harts⟩,h.oks,⟨by show(p.m.mem++bs).length≤_;rw[sW];exact hl,h.lim.2⟩,h.prs⟩,b4,b3⟩
  · show World.ownsRow _ _ _ _ _ (p.m.mem++bs).length ((p.m.mem++bs).map _)
    rw[sW,List.map_append]
    exact ownsRow_setCell_below hown (Nat.lt_succ_self pb) v
  · rcases List.mem_append.1 hx with hx|hx
    · exact h.wf.mem x hx
    · exact hbs x hx
theorem PAt.hart(h:PAt pb vm vh vp vd us w p)(hr:p.ran=false)(hb:Below w.heap.size w wa){v:Value}{x:Hart}(hown:w1.ownsRow (pb+1) 43 37 v (p.m.harts.length+1) (p.m.harts.flatMap qJ++qJ x))(hg:wa.grownBy w1 vh.ownBlock)(hl:p.m.harts.length<4)(hx:x.Wf)(hok:x.ok=true):
    PAt pb vm v vp vd us (w1.setCell ⟨pb,1,none⟩ v) {p with m:={p.m with harts:=p.m.harts++[x]}}∧Below pb w (w1.setCell ⟨pb,1,none⟩ v):=by
  obtain⟨b1,b2,b3,b4⟩:=box_set (v:=v) h.at_ h.lt hb hg (fun k e=>(h.oh.lt k e).1) (i:=1) zC
  refine⟨⟨b1,fun o=>(b2 o).trans (h.frz o),qI h.oy (fun g e=>b3 g (h.oy.lt g e).2 (by have:=(h.oy.lt g e).1;omega) (QP h.oy h.oh zF g e)), ?_,qI h.op (fun g e=>b3 g (h.op.lt g e).2 (by have:=(h.op.lt g e).1;omega) (QP h.op h.oh zF g e)),(fun e=>by rw[hr]at e;cases e),h.vd,⟨h.wf.mem,fun y hy=> ?_⟩,fun y hy=> ?_,⟨h.lim.1,by show(p.m.harts++[x]).length≤_;rw[sW];exact hl,h.lim.2.2⟩,h.prs⟩,b4⟩
  · show World.ownsRow _ _ _ _ _ (p.m.harts++[x]).length ((p.m.harts++[x]).flatMap qJ)
    rw[sW,List.flatMap_append]
    simpa using ownsRow_setCell_below hown (Nat.lt_succ_self pb) v
  · rcases List.mem_append.1 hy with hy|hy
    · exact h.wf.harts y hy
    · rw[List.mem_singleton]at hy;rw[hy];exact hx
  · rcases List.mem_append.1 hy with hy|hy
    · exact h.oks y hy
    · rw[List.mem_singleton]at hy;rw[hy];exact hok
theorem PAt.pick(h:PAt pb vm vh vp vd us w p)(hb:Below w.heap.size w wa){v:Value}{x:Int × Int}(hown:w1.ownsRow (pb+1) 47 2 v (p.ps.length+1) (p.ps.flatMap plist++plist x))(hg:wa.grownBy w1 vp.ownBlock)(hl:p.ps.length<300)(hx:U32 x.1∧U32 x.2):
    PAt pb vm vh v vd us (w1.setCell ⟨pb,2,none⟩ v) {p with ps:=p.ps++[x]}∧Below pb w (w1.setCell ⟨pb,2,none⟩ v):=by
  obtain⟨b1,b2,b3,b4⟩:=box_set (v:=v) h.at_ h.lt hb hg (fun k e=>(h.op.lt k e).1) (i:=2) zC
  refine⟨⟨b1,fun o=>(b2 o).trans (h.frz o),qI h.oy (fun g e=>b3 g (h.oy.lt g e).2 (by have:=(h.oy.lt g e).1;omega) (QP h.oy h.op zF g e)),qI h.oh (fun g e=>b3 g (h.oh.lt g e).2 (by have:=(h.oh.lt g e).1;omega) (QP h.oh h.op zF g e)), ?_,fun e=>⟨(h.up e).1.keep (fun q h1 h2 h3=>b3 q h1 om (fun e2=> ?_)),(h.up e).2⟩,h.vd,h.wf,h.oks,⟨h.lim.1,h.lim.2.1,by show(p.ps++[x]).length≤_;rw[sW];exact hl⟩,fun y hy=> ?_⟩,b4⟩
  · show World.ownsRow _ _ _ _ _ (p.ps++[x]).length ((p.ps++[x]).flatMap plist)
    rw[sW,List.flatMap_append]
    simpa using ownsRow_setCell_below hown (Nat.lt_succ_self pb) v
  · obtain⟨cs,f,e3⟩:=Qj h.op e2
    obtain⟨cs2,f2,e4|e4|e4⟩:=h3<;>(rw[e3]at e4;cases e4)
  · rcases List.mem_append.1 hy with hy|hy
    · exact h.prs y hy
    · rw[List.mem_singleton]at hy;rw[hy];exact hx
theorem PAt.reg(h:PAt pb vm vh vp vd us w p)(hr:p.ran=false){g cap k r:Nat}{x:Int}(e:vh=.slice (some ⟨g,0,none⟩) p.m.harts.length cap)(hk:k<p.m.harts.length)(h1:1≤r)(h2:r<32)(hx:U32 x):
    PAt pb vm vh vp vd us (w.setCell ⟨g,k*37+r,none⟩ (.int .u32 x)) {p with m:={p.m with harts:=p.m.harts.set k {(p.m.harts.getD k qz)with regs:=(p.m.harts.getD k qz).regs.set r x}}}∧Below pb w (w.setCell ⟨g,k*37+r,none⟩ (.int .u32 x)):=by
  subst e
  have hg:=h.oh.lt g rfl
  have hbk:∀q,q≠g→(w.setCell ⟨g,k*37+r,none⟩ (.int .u32 x)).heap[q]? =w.heap[q]? :=fun q hq=>sT _ _ _ _ (by show q≠g;exact hq)
  have eh:p.m.harts.getD k qz=p.m.harts[k]:=by rw[List.getD_eq_getElem?_getD,sU hk];rfl
  rw[eh]
  have wk:=h.wf.harts _ (sR hk)
  have hat:At w g 0 (p.m.harts.flatMap qJ):=by
    rcases jF h.oh with⟨e,e2,-⟩|⟨g',cap',e,-,-,-,-,h7,-⟩
    · omega
    · injection e with e1
      injection e1 with e1
      injection e1 with e1
      rw[e1];exact h7
  have hek:=jc hat (fun y hy=>qG (h.wf.harts y hy)) hk
  have hlk:(qJ p.m.harts[k]).length=37:=qG wk
  have hwx:({p.m.harts[k]with regs:=p.m.harts[k].regs.set r x}:Hart).Wf:=⟨by show(List.set _ _ _).length=_;rw[List.length_set];exact wk.len,fun y hy=>by
    rcases List.mem_or_eq_of_mem_set hy with hy|rfl
    · exact wk.regs y hy
    · exact hx,wk.pc,wk.heldAt,wk.state,wk.cause⟩
  have hnew:At (w.setCell ⟨g,k*37+r,none⟩ (.int .u32 x)) g (k*37) (qJ {p.m.harts[k]with regs:=p.m.harts[k].regs.set r x}):=by
    rw[UX wk.len r h2]
    exact hek.set r om _
  have hall:=jn hat (fun y hy=>qG (h.wf.harts y hy)) (qG hwx) hnew (fun o ho=>sJ _ _ _ _ zD)
  obtain⟨hl1,ao,cap',e3,h4,h5,h6,h7⟩:=ql h.oh
  injection e3 with e3 _ e4
  subst e3 e4
  have hok:({p.m.harts[k]with regs:=p.m.harts[k].regs.set r x}:Hart).ok=true:=by
    have:=h.oks _ (sR hk)
    unfold Hart.ok at this ⊢
    have e0:(p.m.harts[k].regs.set r x).getD 0 0=p.m.harts[k].regs.getD 0 0:=by
      rw[List.getD_eq_getElem?_getD,List.getD_eq_getElem?_getD,List.getElem?_set_ne om]
    simp only[e0]
    exact this
  refine⟨⟨h.at_.set_other (by show g≠pb;omega) _,fun o=>(sL _ _ _ _).trans (h.frz o),qI h.oy (fun q e=>hbk q (fun e2=>QP h.oy h.oh zF q e (by rw[e2];rfl))), ?_,qI h.op (fun q e=>hbk q (fun e2=>QP h.op h.oh zF q e (by rw[e2];rfl))),(fun e=>by rw[hr]at e;cases e),h.vd,⟨h.wf.mem,fun y hy=> ?_⟩,fun y hy=> ?_,⟨h.lim.1,by show(List.set _ _ _).length≤_;rw[List.length_set];exact h.lim.2.1,h.lim.2.2⟩,h.prs⟩,(Below.refl pb w).setCell (p:=⟨g,k*37+r,none⟩) (by show pb≤g;omega) _⟩
  · show World.ownsRow _ _ _ _ _ (p.m.harts.set k _).length _
    rw[List.length_set]
    have hfl:((p.m.harts.set k {p.m.harts[k]with regs:=p.m.harts[k].regs.set r x}).flatMap qJ).length=p.m.harts.length*37:=by
      have:=flat_len37 (p.m.harts.set k {p.m.harts[k]with regs:=p.m.harts[k].regs.set r x}) (fun y hy=>by
        rcases List.mem_or_eq_of_mem_set hy with hy|rfl
        · exact h.wf.harts y hy
        · exact hwx)
      rw[List.length_set]at this
      exact this
    exact shp_owns h.oh (fun q _=>Qd _ _ _ _) ⟨hfl,_,_,rfl,h4,h5,h6,fun a ha _=>by cases ha;exact⟨rfl,hall⟩⟩
  · rcases List.mem_or_eq_of_mem_set hy with hy|rfl
    · exact h.wf.harts y hy
    · exact hwx
  · rcases List.mem_or_eq_of_mem_set hy with hy|rfl
    · exact h.oks y hy
    · exact hok
end
theorem info_u8:(Tryz.prog.info? 5).map (fun i=>(i.zero,i.size,i.bytes))=some (some (.int .u8 0),1,1):=by kernel_rfl
end Go.Proofs.YtlfnddmncbkjaabGreatDoor.W
