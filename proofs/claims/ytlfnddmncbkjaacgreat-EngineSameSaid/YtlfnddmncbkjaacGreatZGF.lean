import Derived.Test.YtlfnddmncbkjaacGreatZGE
import Derived.Maps.OwnSet
import Derived.Maps.Views
set_option linter.unusedVariables false
set_option linter.unusedSimpArgs false
set_option maxRecDepth 100000
set_option maxHeartbeats 4000000
namespace Go.Proofs.YtlfnddmncbkjaacGreat.Fb
open Go.RowKit Go.Maps
structure Fr (S:Nat→Prop) (w w':World):Prop where
  os:w'.os=w.os
  tape:w'.tape=w.tape
  output:w'.output=w.output
  size:w.heap.size≤w'.heap.size
  block:∀j,j<w.heap.size→¬S j→w'.heap[j]? =w.heap[j]?
theorem Fr.refl(S:Nat→Prop)(w:World):Fr S w w:=⟨rfl,rfl,rfl,sO _,fun _ _ _=>rfl⟩
theorem Fr.trans{S S':Nat→Prop}{a b c:World}(h:Fr S a b)(k:Fr S' b c)(hS:∀j,j<a.heap.size→S' j→S j):Fr S a c:=
  ⟨k.os.trans h.os,k.tape.trans h.tape,k.output.trans h.output,Nat.le_trans h.size k.size,fun j hj hn=>(k.block j (Nat.lt_of_lt_of_le hj h.size) (fun hs=>hn (hS j hj hs))).trans (h.block j hj hn)⟩
theorem Fr.mono{S S':Nat→Prop}{a b:World}(h:Fr S a b)(hS:∀j,j<a.heap.size→S j→S' j):Fr S' a b:=⟨h.os,h.tape,h.output,h.size,fun j hj hn=>h.block j hj (fun hs=>hn (hS j hj hs))⟩
theorem Fr.of_below{S:Nat→Prop}{B:Nat}{a b:World}(h:Below B a b)(hB:∀j,B≤j→j<a.heap.size→S j):Fr S a b:=⟨h.os,h.tape,h.output,h.size,fun j hj hn=>h.block j (Nat.lt_of_not_le (fun hle=>hn (hB j hle hj)))⟩
theorem Fr.below{S:Nat→Prop}{B:Nat}{a b:World}(h:Fr S a b)(hB:∀j,j<B→¬S j)(hle:B≤a.heap.size):Below B a b:=⟨h.os,h.tape,h.output,h.size,fun j hj=>h.block j om (hB j hj)⟩
theorem Fr.of_chg{S:Nat→Prop}{T:Addr→Prop}{a b:World}(h:Chg T a b)(hS:∀j o,T ⟨j,o,none⟩→S j):Fr S a b:=⟨h.os,h.tape,h.output,h.size,fun j hj hn=>h.block j hj (fun o ho=>hn (hS j o ho))⟩
theorem Fr.of_grown{S:Nat→Prop}{a b:World}{row:Option Nat}(h:a.grownBy b row)(hS:∀j,some j=row→S j):Fr S a b:=⟨h.os,h.tape,h.output,h.size,fun j hj hn=>h.block j hj (fun e=>hn (hS j e))⟩
theorem Fr.setCells{S:Nat→Prop}{a b:World}(h:Fr S a b)(g:Nat)(hg:S g):∀(vs:List Value) (o:Nat),Fr S a (b.setCells g o vs):=fun vs o=>
  h.trans (S':=fun j=>j=g) (by
    have key:∀(vs:List Value) (o:Nat) (b:World),Fr (fun j=>j=g) b (b.setCells g o vs):=by
      intro vs
      induction vs with
      |nil=>intro o b;exact Fr.refl _ _
      | cons v r ih =>
        intro o b
        show Fr _ b ((b.setCell ⟨g,o,none⟩ v).setCells g (o+1) r)
        have h1:Fr (fun j=>j=g) b (b.setCell ⟨g,o,none⟩ v):=⟨rfl,rfl,rfl,by simp,fun j _ hn=>sY _ _ _ _ hn⟩
        exact h1.trans (ih (o+1) _) (fun j _ h=>h)
    exact key vs o b) (fun j _ e=>by subst e;exact hg)
theorem Fr.drewN{S:Nat→Prop}{a b:World}(h:Fr S a b)(n:Nat):Fr S a (b.drewN n):=⟨h.os,h.tape,h.output,h.size,h.block⟩
theorem Fr.drew{S:Nat→Prop}{a b:World}(h:Fr S a b):Fr S a b.drew:=⟨h.os,h.tape,h.output,h.size,h.block⟩
theorem Fr.setCell{S:Nat→Prop}{a b:World}(h:Fr S a b)(p:Addr)(v:Value)(hp:S p.block):Fr S a (b.setCell p v):=
  h.trans (S':=fun j=>j=p.block) ⟨rfl,rfl,rfl,by simp,fun j _ hn=>sY _ _ _ _ hn⟩ (fun j _ e=>by subst e;exact hp)
def heldR(v:Value):Option (DataW Value × List MemPlace):=some (.held v,[])
def FarA(A:Nat→Prop)(v:Value)(l:List BlkD):Prop:=(∀q,v.ownBlock=some q→A q)∧∀x∈l,∀q,x.vi.ownBlock=some q→A q
theorem Far.toA{A:Nat→Prop}{B:Nat}{v:Value}{l:List BlkD}(h:Far B v l)(hA:∀q,B≤q→A q):FarA A v l:=⟨fun q e=>hA q (h.1 q e),fun x hx q e=>hA q (h.2 x hx q e)⟩
structure EnB (A:Nat→Prop) (TE TB TI:TypeId) (ep mp bp:Nat) (w:World) (room pu st:Int) (v:Value) (zs:List BlkD):Prop where
  ty:∃cs f,w.heap[ep]? =some (.cells cs TE f)
  at_:At w ep 0 [.pointer (some ⟨bp,0,none⟩),.int .i64 room,v,.int .i64 pu,.int .i64 st,.map (some mp)]
  frz:∀o,w.frozen? ⟨ep,o,none⟩=false
  blks:Blks w v zs
  far:FarA A v zs
  typ:Typ TB TI w v zs
def EnC(A:Nat→Prop)(P:Program)(K TM:TypeId)(ep mp:Nat)(w:World)(zs:List BlkD)(n:Nat):Prop:=
  mp<ep∧∃D,w.ownsMap P K heldR mp n D∧∀x∈zs,∃vc,D.atKey (.int .u32 x.pc) (.held (.slice none 0 0))=.held vc∧Sl w vc 5 (mkM x.pc x.ins).length ((mkM x.pc x.ins).flatMap JC)∧∀q,vc.ownBlock=some q→A q∧∃cs f,w.heap[q]? =some (.cells cs TM f)
def Row3(TB TI TM:TypeId)(w:World)(q:Nat):Prop:=∃cs f,w.heap[q]? =some (.cells cs TB f)∨w.heap[q]? =some (.cells cs TI f)∨w.heap[q]? =some (.cells cs TM f)
section
variable {A : Nat → Prop} {P : Program} {K TE TB TI TM TU : TypeId} {ep mp bp : Nat} {w w' : World} {room pu st pu' st' : Int} {v v' : Value} {zs zs' : List BlkD} {n : Nat}
theorem QV{q:Nat}{o:Obj}(h:w.heap[q]? =some o):q<w.heap.size:=(Array.getElem?_eq_some_iff.1 h).1
theorem EnB.lt(h:EnB A TE TB TI ep mp bp w room pu st v zs):ep<w.heap.size:=by obtain⟨cs,f,e⟩:=h.ty;exact QV e
theorem EnB.keep0(h:EnB A TE TB TI ep mp bp w room pu st v zs)(e0:w'.heap[ep]? =w.heap[ep]?)(hv:∀g,v.ownBlock=some g→w'.heap[g]? =w.heap[g]?)(hx:∀x∈zs,∀g,x.vi.ownBlock=some g→w'.heap[g]? =w.heap[g]?):EnB A TE TB TI ep mp bp w' room pu st v zs:=by
  refine⟨?_,fun j hj=>(qE e0 _).trans (h.at_ j hj),fun o=>(qW e0 o).trans (h.frz o),⟨jL h.blks.1 hv,fun x hx'=>⟨jL (h.blks.2 x hx').at_ (hx x hx'),(h.blks.2 x hx').pc⟩⟩,h.far,⟨fun g hg=> ?_,fun x hx' g hg=> ?_⟩⟩
  · obtain⟨cs,f,e⟩:=h.ty;exact⟨cs,f,e0.trans e⟩
  · obtain⟨cs,f,e⟩:=h.typ.1 g hg;exact⟨cs,f,(hv g hg).trans e⟩
  · obtain⟨cs,f,e⟩:=h.typ.2 x hx' g hg;exact⟨cs,f,(hx x hx' g hg).trans e⟩
theorem EnB.keep(h:EnB A TE TB TI ep mp bp w room pu st v zs)(hA:∀q,A q→ep<q)(hk:∀k,k<w.heap.size→(k=ep∨(ep<k∧A k∧Row3 TB TI TM w k))→w'.heap[k]? =w.heap[k]?):EnB A TE TB TI ep mp bp w' room pu st v zs:=by
  refine h.keep0 (hk ep h.lt (.inl rfl)) (fun g hg=> ?_) (fun x hx g hg=> ?_)
  · obtain⟨cs,f,e⟩:=h.typ.1 g hg
    exact hk g (QV e) (.inr ⟨hA g (h.far.1 g hg),h.far.1 g hg,cs,f,.inl e⟩)
  · obtain⟨cs,f,e⟩:=h.typ.2 x hx g hg
    exact hk g (QV e) (.inr ⟨hA g (h.far.2 x hx g hg),h.far.2 x hx g hg,cs,f,.inr (.inl e)⟩)
theorem EnC.keep(h:EnC A P K TM ep mp w zs n)(hA:∀q,A q→ep<q)(hk:∀k,k<w.heap.size→(k=mp∨(ep<k∧A k∧Row3 TB TI TM w k))→w'.heap[k]? =w.heap[k]?):EnC A P K TM ep mp w' zs n:=by
  obtain⟨h0,D,⟨es,clock,hb,F,hs,hD⟩,h2⟩:=h
  refine⟨h0,D,⟨es,clock,(hk mp (QV hb) (.inl rfl)).trans hb,F,hs,hD⟩,fun x hx=> ?_⟩
  obtain⟨vc,e1,e2,e3⟩:=h2 x hx
  have hv:∀g,vc.ownBlock=some g→w'.heap[g]? =w.heap[g]? :=fun g hg=>by
    obtain⟨h4,cs,f,e⟩:=e3 g hg
    exact hk g (QV e) (.inr ⟨hA g h4,h4,cs,f,.inr (.inr e)⟩)
  refine⟨vc,e1,jL e2 hv,fun q hq=> ?_⟩
  obtain⟨h4,cs,f,e⟩:=e3 q hq
  exact⟨h4,cs,f,(hv q hq).trans e⟩
theorem EnB.below(h:EnB A TE TB TI ep mp bp w room pu st v zs)(hb:Below w.heap.size w w'):EnB A TE TB TI ep mp bp w' room pu st v zs:=h.keep0 (hb.block ep h.lt) (fun g hg=>by
  obtain⟨cs,f,e⟩:=h.typ.1 g hg
  exact hb.block g (QV e)) (fun x hx g hg=>by
  obtain⟨cs,f,e⟩:=h.typ.2 x hx g hg
  exact hb.block g (QV e))
theorem EnC.below(h:EnC A P K TM ep mp w zs n)(hb:Below w.heap.size w w'):EnC A P K TM ep mp w' zs n:=by
  obtain⟨h0,D,⟨es,clock,hB,F,hs,hD⟩,h2⟩:=h
  refine⟨h0,D,⟨es,clock,(hb.block mp (QV hB)).trans hB,F,hs,hD⟩,fun x hx=> ?_⟩
  obtain⟨vc,e1,e2,e3⟩:=h2 x hx
  refine⟨vc,e1,Sl.below e2 hb,fun q hq=> ?_⟩
  obtain⟨h4,cs,f,e⟩:=e3 q hq
  exact⟨h4,cs,f,(hb.block q (QV e)).trans e⟩
theorem EnB.weak{A':Nat→Prop}(h:EnB A TE TB TI ep mp bp w room pu st v zs)(hA:∀q,q<w.heap.size→A q→A' q):EnB A' TE TB TI ep mp bp w room pu st v zs:=⟨h.ty,h.at_,h.frz,h.blks,⟨fun q hq=>by
  obtain⟨cs,f,e⟩:=h.typ.1 q hq
  exact hA q (QV e) (h.far.1 q hq),fun x hx q hq=>by
  obtain⟨cs,f,e⟩:=h.typ.2 x hx q hq
  exact hA q (QV e) (h.far.2 x hx q hq)⟩,h.typ⟩
theorem EnC.weak{A':Nat→Prop}(h:EnC A P K TM ep mp w zs n)(hA:∀q,q<w.heap.size→A q→A' q):EnC A' P K TM ep mp w zs n:=by
  obtain⟨h0,D,h1,h2⟩:=h
  refine⟨h0,D,h1,fun x hx=> ?_⟩
  obtain⟨vc,e1,e2,e3⟩:=h2 x hx
  refine⟨vc,e1,e2,fun q hq=> ?_⟩
  obtain⟨h4,cs,f,e⟩:=e3 q hq
  exact⟨hA q (QV e) h4,cs,f,e⟩
theorem EnB.there(h:EnB A TE TB TI ep mp bp w room pu st v zs):w.there ep 1 4:=fun j hj=>by
  have h1:=h.at_ (j+1) zB
  refine⟨?_,h.frz _⟩
  rw[sM]at h1
  rw[Nat.add_comm 1 j,h1]
  simp[show j+1<6 by omega]
theorem EnC.lt(h:EnC A P K TM ep mp w zs n):mp<w.heap.size:=by obtain⟨_,D,⟨es,clock,hb,_⟩,_⟩:=h;exact QV hb
theorem EnC.sub(h:EnC A P K TM ep mp w zs n)(hs:∀x∈zs',∃y∈zs,x.pc=y.pc∧x.ins=y.ins):EnC A P K TM ep mp w zs' n:=by
  obtain⟨h0,D,h1,h2⟩:=h
  refine⟨h0,D,h1,fun x hx=> ?_⟩
  obtain⟨y,hy,e1,e2⟩:=hs x hx
  rw[e1,e2];exact h2 y hy
theorem EnB.store(h:EnB A TE TB TI ep mp bp w room pu st v zs)(hA:∀q,A q→ep<q)(hb:Blks w v' zs')(hf:FarA A v' zs')(ht:Typ TB TI w v' zs'):EnB A TE TB TI ep mp bp (w.setCells ep 1 [.int .i64 room,v',.int .i64 pu',.int .i64 st']) room pu' st' v' zs':=by
  have F:Fr (fun j=>j=ep) w (w.setCells ep 1 [.int .i64 room,v',.int .i64 pu',.int .i64 st']):=Fr.setCells (S:=fun j=>j=ep) (Fr.refl _ w) ep rfl _ _
  have hk:∀g,g<w.heap.size→ep<g→(w.setCells ep 1 [.int .i64 room,v',.int .i64 pu',.int .i64 st']).heap[g]? =w.heap[g]? :=fun g h1 h2=>F.block g h1 om
  have hv:∀g,v'.ownBlock=some g→(w.setCells ep 1 [.int .i64 room,v',.int .i64 pu',.int .i64 st']).heap[g]? =w.heap[g]? :=fun g hg=>by
    obtain⟨cs,f,e⟩:=ht.1 g hg
    exact hk g (QV e) (hA g (hf.1 g hg))
  have hx:∀x∈zs',∀g,x.vi.ownBlock=some g→(w.setCells ep 1 [.int .i64 room,v',.int .i64 pu',.int .i64 st']).heap[g]? =w.heap[g]? :=fun x hx g hg=>by
    obtain⟨cs,f,e⟩:=ht.2 x hx g hg
    exact hk g (QV e) (hA g (hf.2 x hx g hg))
  have g0:=h.at_.get (j:=0) rfl
  have g1:=h.at_.get (j:=1) rfl
  have g2:=h.at_.get (j:=2) rfl
  have g3:=h.at_.get (j:=3) rfl
  have g4:=h.at_.get (j:=4) rfl
  have g5:=h.at_.get (j:=5) rfl
  have e:w.setCells ep 1 [.int .i64 room,v',.int .i64 pu',.int .i64 st']=(((w.setCell ⟨ep,1,none⟩ (.int .i64 room)).setCell ⟨ep,2,none⟩ v').setCell ⟨ep,3,none⟩ (.int .i64 pu')).setCell ⟨ep,4,none⟩ (.int .i64 st'):=rfl
  simp only[sM]at g0 g1 g2 g3 g4 g5
  have ot:∀(W:World) (i j:Nat) (u:Value),i≠j→(W.setCell ⟨ep,j,none⟩ u).cell? ⟨ep,i,none⟩=W.cell? ⟨ep,i,none⟩:=fun W i j u hn=>sJ _ _ _ _ zF
  refine⟨?_, ?_,fun o=> ?_,⟨jL hb.1 hv,fun x hx'=>⟨jL (hb.2 x hx').at_ (hx x hx'),(hb.2 x hx').pc⟩⟩,hf,⟨fun g hg=> ?_,fun x hx' g hg=> ?_⟩⟩
  · rw[e];exact jx (jx (jx (jx h.ty)))
  · rw[e]
    refine qs ?_ (qs ?_ (qs ?_ (qs ?_ (qs ?_ (qs ?_ uY)))))
    · exact(ot _ _ _ _ om).trans ((ot _ _ _ _ om).trans ((ot _ _ _ _ om).trans ((ot _ _ _ _ om).trans g0)))
    · exact(ot _ _ _ _ om).trans ((ot _ _ _ _ om).trans ((ot _ _ _ _ om).trans (sK _ _ _ g1)))
    · exact(ot _ _ _ _ om).trans ((ot _ _ _ _ om).trans (sK _ _ _ ((ot _ _ _ _ om).trans g2)))
    · exact(ot _ _ _ _ om).trans (sK _ _ _ ((ot _ _ _ _ om).trans ((ot _ _ _ _ om).trans g3)))
    · exact sK _ _ _ ((ot _ _ _ _ om).trans ((ot _ _ _ _ om).trans ((ot _ _ _ _ om).trans g4)))
    · exact(ot _ _ _ _ om).trans ((ot _ _ _ _ om).trans ((ot _ _ _ _ om).trans ((ot _ _ _ _ om).trans g5)))
  · rw[e];simp only[sL];exact h.frz o
  · obtain⟨cs,f,e⟩:=ht.1 g hg;exact⟨cs,f,(hv g hg).trans e⟩
  · obtain⟨cs,f,e⟩:=ht.2 x hx' g hg;exact⟨cs,f,(hx x hx' g hg).trans e⟩
theorem key_ok{x:Int}(h:U32 x):(Lit.int .u32 x).wf=true:=WalkArith.wf_u32 ⟨h.1,by have:=h.2;omega⟩
theorem EnC.put{T E:TypeId}(h:EnC A P K TM ep mp w zs n)(hA:∀q,A q→ep<q)(hK:P.underlying K=some (.int .u32))(hT:P.underlying T=some (.map K E))(hn:n<maxLen){y:BlkD}(hy:U32 y.pc){vc:Value}(hc:Sl w vc 5 (mkM y.pc y.ins).length ((mkM y.pc y.ins).flatMap JC))(hq:∀q,vc.ownBlock=some q→A q∧∃cs f,w.heap[q]? =some (.cells cs TM f))
    (hz:∀x∈zs',U32 x.pc∧((x.pc=y.pc∧x.ins=y.ins)∨(x.pc≠y.pc∧∃z∈zs,x.pc=z.pc∧x.ins=z.ins))):
    ∃w',(Instr.mapUpdate T (.map (some mp)) (.int .u32 y.pc) vc).run P w=.ok () w'∧EnC A P K TM ep mp w' zs' (n+1)∧Fr (fun j=>j=mp) w w':=by
  obtain⟨h0,D,h1,h2⟩:=h
  obtain⟨w',r1,r2,r3⟩:=h1.update (int_keyed hK) hT hn (keyOf_int_mk hK (key_ok hy)) (show heldR vc=some (.held vc,[])from rfl)
  have F:Fr (fun j=>j=mp) w w':=Fr.of_grown r3 (fun j e=>by cases e;rfl)
  refine⟨w',r1,⟨h0,_,r2,fun x hx=> ?_⟩,F⟩
  have hfar:∀vc:Value,(∀q,vc.ownBlock=some q→A q∧∃cs f,w.heap[q]? =some (.cells cs TM f))→∀g,vc.ownBlock=some g→w'.heap[g]? =w.heap[g]? :=fun vc hv g hg=>by
    obtain⟨h4,cs,f,e⟩:=hv g hg
    exact F.block g (QV e) (by have:=hA g h4;omega)
  obtain⟨hu,hx'|⟨hne,z,hz',e1,e2⟩⟩:=hz x hx
  · rw[hx'.1,hx'.2]
    refine⟨vc,atKey_put_same h1.isMap (show WideAt.IsKeyLit (.int .u32 y.pc)from trivial) _ _,jL hc (hfar vc hq),fun q e=> ?_⟩
    obtain⟨h4,cs,f,e4⟩:=hq q e
    exact⟨h4,cs,f,(hfar vc hq q e).trans e4⟩
  · obtain⟨vz,q1,q2,q3⟩:=h2 z hz'
    rw[e1,e2]
    refine⟨vz,(atKey_put_other (by intro e;injection e with _ e3;exact hne (by rw[e1,e3])) _ _).trans q1,jL q2 (hfar vz q3),fun q e=> ?_⟩
    obtain⟨h4,cs,f,e4⟩:=q3 q e
    exact⟨h4,cs,f,(hfar vz q3 q e).trans e4⟩
theorem EnC.look{T E:TypeId}(h:EnC A P K TM ep mp w zs n)(hK:P.underlying K=some (.int .u32))(hT:P.underlying T=some (.map K E))(hz0:∀W,(zeroValue E).run P W=.ok (.slice none 0 0) W){x:BlkD}(hx:x∈zs)(hu:U32 x.pc):
    ∃vc,(∀W:World,W.heap[mp]? =w.heap[mp]? →(Instr.lookup T (.map (some mp)) (.int .u32 x.pc) false).run P W=.ok vc W)∧Sl w vc 5 (mkM x.pc x.ins).length ((mkM x.pc x.ins).flatMap JC)∧∀q,vc.ownBlock=some q→A q∧∃cs f,w.heap[q]? =some (.cells cs TM f):=by
  obtain⟨h0,D,h1,h2⟩:=h
  obtain⟨vc,e1,e2,e3⟩:=h2 x hx
  refine⟨vc,fun W hW=> ?_,e2,e3⟩
  obtain⟨es,clock,hb,F,hs,hD⟩:=h1
  have h1':W.ownsMap P K heldR mp n D:=⟨es,clock,hW.trans hb,F,hs,hD⟩
  obtain⟨u,ps,r1,r2⟩:=h1'.lookup (int_keyed hK) hT (hz0 W) (show heldR (.slice none 0 0)=some (.held (.slice none 0 0),[])from rfl) (keyOf_int_mk hK (key_ok hu))
  rw[e1]at r2
  have:u=vc:=by
    injection r2 with r3
    injection r3 with r4
    injection r4
  rw[this]at r1
  exact r1
theorem Wk.other{bh hc cp k:Nat}{vm vo:Value}{ty:TypeId}{o0 o:List Int}{fr tw:Int}{s:St}{S:Nat→Prop}(h:Wk bp bh hc cp k vm vo ty o0 o fr tw w s)(hF:Fr S w w')(h1:¬S bp)(h2:¬S bh)(h3:∀j,cp≤j→¬S j)(h4:∀j,vm.ownBlock=some j→¬S j)(h5:∀j,vo.ownBlock=some j→¬S j):
    Wk bp bh hc cp k vm vo ty o0 o fr tw w' s:=by
  have b1:=h.b1
  have b2:=h.b2
  have hlt:=h.clt
  have e:=hF.block bp om h1
  have eh:=hF.block bh om h2
  refine⟨h.core.move (h':=s.hart k) (hF.block cp hlt (h3 _ (sO _))) (fun g hg=>hF.block g (by have:=h.mlt g hg;omega) (h4 g hg)) (fun g hg hg2=>hF.block g hg2 (h3 g om)) hF.size (fun j hj=>(qE eh _).trans (h.core.hart j hj)) (fun o=>(qW eh o).trans (h.core.hfz o)),h.b1,h.b2,(qE e _).trans h.c0,(qE e _).trans h.c1,(qE e _).trans h.c2,(qE e _).trans h.c3,fun o=>(qW e o).trans (h.frz o),fun j hj=>(qE eh _).trans (h.harts j hj),h.mlt,QF h.own (fun g hg=>hF.block g (h.own.lt g hg).2 (h5 g hg)),h.vlt,h.kl,h.hcap⟩
end
end Go.Proofs.YtlfnddmncbkjaacGreat.Fb
namespace Go.Proofs.YtlfnddmncbkjaacGreat.W
open Go.RowKit Fb
theorem cat_any(room:Int)(v:Value)(pu st:Int)(l:List BlkD)(p:Int)(w:World)(hv:Blks w v l):
    Calls Tryz.prog 66 #[.agg #[.int .i64 room,v,.int .i64 pu,.int .i64 st],.int .u32 p] w fun e w'=>e=.returned (.int .i64 (QE l p))∧Below w.heap.size w w':=by
  obtain⟨ao,cap,rfl,-⟩:=hv.1.open (fun _ _=>rfl) om
  obtain⟨w1,hw1⟩:∃w1,w1=(w.alloc (.cells #[.int .i64 room,.slice ao l.length cap,.int .i64 pu,.int .i64 st] 35)).alloc (.cells #[.int .u32 p] 43):=⟨_,rfl⟩
  have hb1:Below w.heap.size w w1:=zK
  have c1:w1.cell? ⟨w.heap.size,1,none⟩=some (.slice ao l.length cap):=zA
  have HX:=lI (indexOf_any (.slice ao l.length cap) l p (w.heap.size+1) w1 (hv.below hb1) zA)
  have HW1:=lI hw1
  have HB1:=lI hb1
  clear hw1 hb1 hv
  go_enter Tryz.func66,Tryz.ntmps66
  go_upto_region 1 with(fail)
  rw[←HW1.out]
  go_wp2_with fail
  refine HX.out.mono ?_
  rintro e w2 ⟨rfl,hb2⟩
  have HB2:=lI (HB1.out.trans (hb2.mono HB1.out.size))
  clear hb2 c1
  go_wp2_with fail
  go_ret
  exact⟨rfl,HB2.out⟩
theorem info_ins:(Tryz.prog.info? 82).map (fun i=>(i.zero,i.size,i.bytes))=some (some (.agg #[.int .i64 0,.int .i64 0,.int .i64 0,.int .i64 0,.int .i32 0]),5,40):=by kernel_rfl
theorem clone_ins(v:Value)(n:Nat)(xs:List Value)(w:World)(hv:Sl w v 5 n xs)(h1c:∀u∈xs,u.oneCell'=true)(hr:n*40≤140737488355328):
    Calls Tryz.prog 91 #[v] w fun e w'=>(∃v',e=.returned v'∧w'.ownsRow w.heap.size 82 5 v' n xs∧(v'=.slice none 0 0→v=.slice none 0 0))∧Below w.heap.size w w':=by
  obtain⟨hlen,ao,cap,rfl,hnc,hcm,hnone,hat⟩:=hv
  have heq:=fun(W:World) (m c:Nat)=>Lib.run_eql_slice_nil (P:=Tryz.prog) W 63 82 ao m c 0 0 Tryz.underlying63
  unfold maxLen at hcm
  cases ao with
  | none =>
    obtain rfl:cap=0:=hnone rfl
    obtain rfl:n=0:=om
    obtain rfl:xs=[]:=List.eq_nil_of_length_eq_zero (by simpa using hlen)
    clear hnone hat
    go_enter Tryz.func91,Tryz.ntmps91
    go_wp2
    go_ret
    exact⟨⟨_,rfl,World.ownsRow_nil _ _ _ _,by simp⟩,Below.refl _ _⟩
  | some a =>
    obtain⟨i0,hi,hz0,hz1,hz2⟩:=info_parts info_ins
    clear hnone
    have HAT:=lI hat
    have HL:=lI hlen
    have HC:=lI h1c
    clear hat hlen h1c
    go_enter Tryz.func91,Tryz.ntmps91
    go_wp2_with (at_builtin;refine wpList_append_own _ rfl _ _ 63 rfl w.heap.size 82 i0 (.agg #[.int .i64 0,.int .i64 0,.int .i64 0,.int .i64 0,.int .i32 0]) 5 40 Tryz.underlying63 hi hz0 hz1 hz2 rfl zL _ 0 [] rfl ?_ a n cap xs rfl HL.out ?_ HC.out ?_ ?_ ?_ ?_)
    rotate_right
    · intro v' w1 hown hgrow hnil
      go_wp2
      go_ret
      refine⟨⟨_,rfl, ?_, ?_⟩, ?_⟩
      · simpa using hown
      · intro h
        exact(hnil h).elim
      · exact(Below.alloc br (sO _) _).grown hgrow zG xE
    all_goals(first|(unfold maxLen;omega)|omega|(simp;done)|skip)
    · exact jm _ _ _ _ (sO _)
    · intro j u hu
      have hj:j<xs.length:=(List.getElem?_eq_some_iff.1 hu).1
      have hne:xs≠[]:=xY
      have h3:=(HAT.out a rfl hne)
      have h4:=h3.2 j hj
      have hu2:u=xs[j]:=by rw[sZ hj]at hu;exact(Option.some.inj hu).symm
      rw[hu2,JJ a h3.1,sI _ _ _ (qH h4)]
      exact h4
theorem ins_one(l:List InsD):∀u∈l.flatMap jO,u.oneCell'=true:=fun u hu=>by
  obtain⟨i,_,hu⟩:=List.mem_flatMap.1 hu
  exact ilist_one i u hu
theorem cclone_any(x:BlkD)(w:World)(hx:uU w x)(hl:x.ins.length≤3518437208883):
    Calls Tryz.prog 68 #[.agg #[.int .u32 x.pc,x.vi]] w fun e w'=>(∃y:BlkD,e=.returned (.agg #[.int .u32 y.pc,y.vi])∧y.pc=x.pc∧y.ins=x.ins∧uU w' y∧w'.ownsRow (w.heap.size+2) 82 5 y.vi y.ins.length (y.ins.flatMap jO))∧Below w.heap.size w w':=by
  obtain⟨pc,vi,ins⟩:=x
  have hat:=hx.at_
  have hpc:=hx.pc
  dsimp only at hat hpc hl ⊢
  obtain⟨ao,cap,rfl,-⟩:=hat.open (fun _ _=>rfl) om
  obtain⟨w1,hw1⟩:∃w1,w1=(w.alloc (.cells #[.int .u32 pc,.slice ao ins.length cap] 65)).alloc (.cells #[.int .u32 0,.slice none 0 0] 65):=⟨_,rfl⟩
  have hb1:Below w.heap.size w w1:=zK
  have hs1:w1.heap.size=w.heap.size+2:=yD
  have c0:(w1).cell? ⟨w.heap.size,0,none⟩=some (.int .u32 pc):=zA
  have c1:(w1).cell? ⟨w.heap.size,1,none⟩=some (.slice ao ins.length cap):=zA
  have f1:w1.frozen? ⟨w.heap.size,1,none⟩=false:=by
    have:w1.heap[w.heap.size]? =some (.cells #[.int .u32 pc,.slice ao ins.length cap] 65 (0,0)):=by rw[hw1,sR _ _ zG];exact sQ _ _
    unfold World.frozen?;rw[this];simp
  have hZ:w1.heap[w.heap.size+1]? =some (.cells #[.int .u32 0,.slice none 0 0] 65 (0,0)):=by
    have:=sQ (w.alloc (.cells #[.int .u32 pc,.slice ao ins.length cap] 65)) (.cells #[.int .u32 0,.slice none 0 0] 65)
    rw[World.size_alloc]at this
    rw[hw1];exact this
  have HCL:=lI (clone_ins (.slice ao ins.length cap) ins.length (ins.flatMap jO) w1 (Sl.below hat hb1) (ins_one ins) om)
  have HW1:=lI hw1
  have HB1:=lI hb1
  have HZ:=lI hZ
  clear hw1 hb1 hx hat hZ
  go_enter Tryz.func68,Tryz.ntmps68
  go_upto_region 1 with(fail)
  rw[←HW1.out]
  go_wp2_with fail
  refine HCL.out.mono ?_
  rintro e w2 ⟨⟨v2,rfl,hown,-⟩,hb2⟩
  obtain⟨a2,c2,rfl⟩:=qb hown
  have l1:w.heap.size<w1.heap.size:=om
  have l2:w.heap.size+1<w1.heap.size:=om
  have d0:=(hb2.cell (p:=⟨w.heap.size,0,none⟩) l1).trans c0
  have d1:=(hb2.cell (p:=⟨w.heap.size,1,none⟩) l1).trans c1
  have g1:=(hb2.frozen (p:=⟨w.heap.size,1,none⟩) l1).trans f1
  have hZ2:=(hb2.block (w.heap.size+1) l2).trans HZ.out
  have z0:w2.cell? ⟨w.heap.size+1,0,none⟩=some (.int .u32 0):=by simp[World.cell?,hZ2]
  have z1:w2.cell? ⟨w.heap.size+1,1,none⟩=some (.slice none 0 0):=by simp[World.cell?,hZ2]
  have zf0:w2.frozen? ⟨w.heap.size+1,0,none⟩=false:=by simp[World.frozen?,hZ2]
  have zf1:w2.frozen? ⟨w.heap.size+1,1,none⟩=false:=by simp[World.frozen?,hZ2]
  have HO:=lI hown
  have HB2:=lI (HB1.out.trans (hb2.mono HB1.out.size))
  clear c0 c1 f1 hb2 hown hZ2
  go_wp2_with fail
  have y0:(w2.setCell ⟨w.heap.size,1,none⟩ (.slice a2 ins.length c2)).cell? ⟨w.heap.size+1,0,none⟩=some (.int .u32 0):=(sJ _ _ _ _ yY).trans z0
  have y1:(w2.setCell ⟨w.heap.size,1,none⟩ (.slice a2 ins.length c2)).cell? ⟨w.heap.size+1,1,none⟩=some (.slice none 0 0):=(sJ _ _ _ _ yY).trans z1
  have ho:=HO.out
  rw[hs1]at ho
  have ho2:=ownsRow_setCell_below (ownsRow_setCell_below (ownsRow_setCell_below ho (a:=⟨w.heap.size,1,none⟩) (by show w.heap.size<w.heap.size+2;omega) (.slice a2 ins.length c2)) (a:=⟨w.heap.size+1,0,none⟩) (by show w.heap.size+1<w.heap.size+2;omega) (.int .u32 pc)) (a:=⟨w.heap.size+1,1,none⟩) (by show w.heap.size+1<w.heap.size+2;omega) (.slice a2 ins.length c2)
  refine sP (qk zP _ zP (load_out2 y0 y1 Tryz.underlying65 rfl kr)) rfl ⟨⟨⟨pc,.slice a2 ins.length c2,ins⟩,rfl,rfl,rfl,⟨Qs ho2,hpc⟩,ho2⟩, ?_⟩
  exact((HB2.out.setCell (p:=⟨w.heap.size,1,none⟩) (sO _) _).setCell (p:=⟨w.heap.size+1,0,none⟩) (by show w.heap.size≤w.heap.size+1;omega) _).setCell (p:=⟨w.heap.size+1,1,none⟩) (by show w.heap.size≤w.heap.size+1;omega) _
theorem info_block:(Tryz.prog.info? 65).map (fun i=>(i.zero,i.size,i.bytes))=some (some (.agg #[.int .u32 0,.slice none 0 0]),2,32):=by kernel_rfl
theorem ccopied_any(room:Int)(v:Value)(pu st:Int)(l:List BlkD)(w:World)(hv:Blks w v l)(hins:∀x∈l,x.ins.length≤3518437208883)(hl:l.length*32≤140737488351232):
    Calls Tryz.prog 65 #[.agg #[.int .i64 room,v,.int .i64 pu,.int .i64 st]] w fun e w'=>(∃v' ys,e=.returned (.agg #[.int .i64 room,v',.int .i64 pu,.int .i64 st])∧Cp (w.heap.size+2) 65 82 w' v' ys∧ys.map BlkD.abs=l.map BlkD.abs)∧Below w.heap.size w w':=by
  obtain⟨ao,cap,rfl,hc,hm,-,ho⟩:=hv.1.open (fun _ _=>rfl) om
  unfold maxLen at hm
  obtain⟨w1,hw1⟩:∃w1,w1=(w.alloc (.cells #[.int .i64 room,.slice ao l.length cap,.int .i64 pu,.int .i64 st] 35)).alloc (.cells #[.int .i64 0,.slice none 0 0,.int .i64 0,.int .i64 0] 35):=⟨_,rfl⟩
  have hb1:Below w.heap.size w w1:=zK
  have hs1:w1.heap.size=w.heap.size+2:=yD
  have hA:w1.heap[w.heap.size]? =some (.cells #[.int .i64 room,.slice ao l.length cap,.int .i64 pu,.int .i64 st] 35 (0,0)):=by rw[hw1,sR _ _ zG];exact sQ _ _
  have hZ:w1.heap[w.heap.size+1]? =some (.cells #[.int .i64 0,.slice none 0 0,.int .i64 0,.int .i64 0] 35 (0,0)):=by
    have:=sQ (w.alloc (.cells #[.int .i64 room,.slice ao l.length cap,.int .i64 pu,.int .i64 st] 35)) (.cells #[.int .i64 0,.slice none 0 0,.int .i64 0,.int .i64 0] 35)
    rw[World.size_alloc]at this
    rw[hw1];exact this
  have HA:=lI hA
  have HZ:=lI hZ
  have HW1:=lI hw1
  have HB1:=lI hb1
  have HV:=lI hv
  have HO:=lI ho
  have HL:=lI hl
  have HINS:=lI hins
  have c1:w1.cell? ⟨w.heap.size,1,none⟩=some (.slice ao l.length cap):=by simp[World.cell?,hA]
  have HCL:Hid (∀x∈l,∀W,Below w.heap.size w W→_):=lI (fun x hx W hW=>cclone_any x W ((hv.2 x hx).below hW) (hins x hx))
  have HONE:Hid (∀x∈l,∃cc ac,x.vi=.slice ac x.ins.length cc):=lI (fun x hx=>by obtain⟨ac,cc,e,_⟩:=(hv.2 x hx).at_.open (fun _ _=>rfl) om;exact⟨cc,ac,e⟩)
  have hln:l.length≤4398046510976:=om
  obtain⟨ib,hib,hb0,hb1',hby⟩:=info_parts info_block
  have hne:65≠82:=zL
  clear hw1 hb1 hv ho hins hA hZ hl
  go_enter Tryz.func65,Tryz.ntmps65
  go_upto_region 1 with(fail)
  rw[←HW1.out]
  go_wp2_with (first|(refine wpList_make_own _ rfl _ _ 33 rfl (w.heap.size+2) 65 ib _ 2 Tryz.underlying33 hib hb0 hb1' .i64 .i64 ((l.length:Int)+1) (l.length+1) rfl rfl zG ?_ ?_ ?_ ?_))
  rotate_right
  · intro w2 hown2 hgrow2
    have hb2':Below (w.heap.size+2) w1 w2:=by rw[←hs1];exact(Below.refl _ w1).grown hgrow2 (sO _) (by intro k hk;cases hk)
    have l1:w.heap.size<w.heap.size+2:=om
    have HA2:Hid (w2.heap[w.heap.size]? =_):=lI ((hb2'.block w.heap.size om).trans HA.out)
    have HZ2:Hid (w2.heap[w.heap.size+1]? =_):=lI ((hb2'.block (w.heap.size+1) om).trans HZ.out)
    have d1:w2.cell? ⟨w.heap.size,1,none⟩=some (.slice ao l.length cap):=by simp[World.cell?,HA2.out]
    have HB2:=lI (HB1.out.trans (hb2'.mono om))
    have HCP0:Hid (Cp (w.heap.size+2) 65 82 w2 (.slice (some ⟨w.heap.size+2,0,none⟩) 0 (l.length+1)) []):=lI ⟨hown2,fun y hy=>(by cases hy),fun y hy=>(by cases hy)⟩
    have HB12:=lI hb2'
    have hs2:w.heap.size+2≤w2.heap.size:=by have:=hb2'.size;omega
    clear hown2 hgrow2 hb2' c1
    go_wp2_with fail
    clear d1
    go_loopw [3,14] (fun x i wr=>∃(k:Nat) (ys:List BlkD),i=.int .i64 k∧k≤l.length∧ys.length=k∧w.heap.size+2≤wr.heap.size∧Hid (Cp (w.heap.size+2) 65 82 wr x ys∧ys.map BlkD.abs=(l.take k).map BlkD.abs∧Below (w.heap.size+2) w2 wr)) (fun _ i _=>l.length-(intOf i).toNat)
    case atStart=>exact⟨0,[],rfl,om,rfl,hs2,lI ⟨HCP0.out,rfl,Below.refl _ _⟩⟩
    case round=>
      obtain⟨k,ys,rfl,hk,hyl,hsz,HI⟩:=hrel
      by_cases hlt:k<l.length
      · obtain⟨b,off,rfl,hbl,hel⟩:=HO.out zR
        have hat:=(hel k hlt).of_lt (HB2.out.trans (HI.out.2.2.mono om)) hbl
        obtain⟨cc,ac,hvi⟩:=HONE.out l[k] (sU hlt)
        have c0:=hat.get (j:=0) (v:=.int .u32 l[k].pc) rfl
        have c1:=hat.get (j:=1) (v:=l[k].vi) rfl
        simp only[sN]at c0
        rw[hvi]at c1
        have HT:Hid ((l.take (k+1)).map BlkD.abs=(l.take k).map BlkD.abs++[l[k].abs]):=lI (by rw[List.take_succ_eq_append_getElem hlt,List.map_append];rfl)
        have HCK:=lI (HCL.out l[k] (sU hlt))
        clear hel hat
        obtain⟨x,hx⟩:∃x,x=l[k]:=⟨_,rfl⟩
        rw[←hx]at c0 c1 hvi HT HCK
        clear hx
        obtain⟨w3,hw3⟩:∃w3,w3=wr.alloc (.cells #[.int .u32 x.pc,.slice ac x.ins.length cc] 65):=⟨_,rfl⟩
        have hb3:Below wr.heap.size wr w3:=by rw[hw3];exact Fb.blw
        have e0:(w3).cell? ⟨wr.heap.size,0,none⟩=some (.int .u32 x.pc):=xD
        have e1:(w3).cell? ⟨wr.heap.size,1,none⟩=some (.slice ac x.ins.length cc):=xD
        have hbb:Below w.heap.size w w3:=(HB2.out.trans (HI.out.2.2.mono om)).trans (hb3.mono om)
        have HC3:=lI (HCK.out w3 hbb)
        rw[hvi]at HC3
        have HCP3:=lI (HI.out.1.below hb3)
        have HB3:=lI (HI.out.2.2.trans (hb3.mono hsz))
        have hs3:=hb3.size
        have HW3:=lI hw3
        clear hw3 hb3 hbb HCK
        go_upto_region 5 with(fail)
        rw[←HW3.out]
        clear c0 c1
        go_wp2_with fail
        refine HC3.out.mono ?_
        rintro e w4 ⟨⟨y,rfl,hy1,hy2,hy3,hy4⟩,hb4⟩
        obtain⟨ay,cy,hyv,-⟩:=hy3.at_.open (fun _ _=>rfl) om
        have hpc:=hy3.pc
        have hrow:=Jw hy4 (B':=w.heap.size+2) om
        rw[hyv]
        have hs4:=hb4.size
        have HCP4:=lI (HCP3.out.below hb4)
        have HB4:=lI (HB3.out.trans (hb4.mono om))
        have HROW:=lI hrow
        have HPC:=lI hpc
        have HYV:=lI hyv
        have HABS:Hid (y.abs=x.abs):=lI (by unfold BlkD.abs;rw[hy1,hy2])
        have hyl2:ys.length≤4398046510976:=om
        have hal:∀W,Below W.heap.size W (W.alloc (.cells #[.int .u32 y.pc,.slice ay y.ins.length cy] 65)):=fun W=>Below.alloc br (sO _) _
        have HSRC:Hid (Sl (w4.alloc (.cells #[.int .u32 y.pc,.slice ay y.ins.length cy] 65)) (.slice (some ⟨w4.heap.size,0,none⟩) 1 1) 2 1 (qw y)):=lI (by
          have:=at_new2 w4 (.int .u32 y.pc) (.slice ay y.ins.length cy) 65
          unfold qw;rw[hyv];exact this)
        clear hb4 hy1 hy2 hy3 hy4 hyv hpc hrow e0 e1
        go_wp2_with (first|(at_builtin;refine jv rfl _ _ 33 rfl (w.heap.size+2) 65 ib _ 2 32 Tryz.underlying33 hib hb0 hb1' hby rfl zL u3 ys.length (ys.flatMap qw) rfl (qy HCP4.out.own (hal _)) (.slice (some ⟨w4.heap.size,0,none⟩) 1 1) 1 (qw y) rfl HSRC.out (blk1_one HROW.out) ?_ ?_ ?_ ?_))
        rotate_right
        · intro v5 w5 hown5 hgrow5
          have hown5:w5.ownsRow (w.heap.size+2) 65 2 v5 (ys.length+1) (ys.flatMap qw++qw y):=by rw[hyl];exact hown5
          have hcp5:=Cp.snoc hne (HCP4.out.below (hal _)) HPC.out (qy HROW.out (hal _)) hown5 hgrow5
          have hb5:Below (w.heap.size+2) w2 w5:=((HB4.out.trans ((hal w4).mono om)).grown hgrow5 zB (fun g e=>(HCP4.out.own.lt g e).1))
          have hs5:w4.heap.size≤w5.heap.size:=by have:=hgrow5.size;simp at this;omega
          have HCP5:=lI hcp5
          have HB5:=lI hb5
          clear hcp5 hb5 hown5 hgrow5
          go_wp2_with fail
          exact⟨⟨k+1,ys++[y],by simp,om,by simp[hyl],om,lI ⟨HCP5.out,by rw[List.map_append,HI.out.2.1,HT.out,List.map_cons,List.map_nil,HABS.out],HB5.out⟩⟩,by simp[intOf];omega⟩
        all_goals first
          |(unfold maxLen;omega)
          |(simp;omega)
          |omega
      · obtain rfl:k=l.length:=om
        have HYL:=lI hyl
        clear hyl
        have hA3:=(HI.out.2.2.block w.heap.size om).trans HA2.out
        have hZ3:=(HI.out.2.2.block (w.heap.size+1) om).trans HZ2.out
        obtain⟨ax,cx,rfl⟩:=qb HI.out.1.own
        have a0:(wr).cell? ⟨w.heap.size,0,none⟩=some (.int .i64 room):=by simp[World.cell?,hA3]
        have a1:(wr).cell? ⟨w.heap.size,1,none⟩=some (.slice ao l.length cap):=by simp[World.cell?,hA3]
        have a2:(wr).cell? ⟨w.heap.size,2,none⟩=some (.int .i64 pu):=by simp[World.cell?,hA3]
        have a3:(wr).cell? ⟨w.heap.size,3,none⟩=some (.int .i64 st):=by simp[World.cell?,hA3]
        have z0:(wr).cell? ⟨w.heap.size+1,0,none⟩=some (.int .i64 0):=by simp[World.cell?,hZ3]
        have z1:(wr).cell? ⟨w.heap.size+1,1,none⟩=some (.slice none 0 0):=by simp[World.cell?,hZ3]
        have z2:(wr).cell? ⟨w.heap.size+1,2,none⟩=some (.int .i64 0):=by simp[World.cell?,hZ3]
        have z3:(wr).cell? ⟨w.heap.size+1,3,none⟩=some (.int .i64 0):=by simp[World.cell?,hZ3]
        have af:wr.frozen? ⟨w.heap.size,1,none⟩=false:=by simp[World.frozen?,hA3]
        have zf:∀o,wr.frozen? ⟨w.heap.size+1,o,none⟩=false:=fun o=>by simp[World.frozen?,hZ3]
        have ht:wr.there (w.heap.size+1) 0 4:=Qd hZ3 rfl
        have HT4:=lI ht
        clear hA3 hZ3 ht
        go_upto_region 8 with(fail)
        obtain⟨w6,hw6⟩:∃w6,w6=wr.setCell ⟨w.heap.size,1,none⟩ (.slice ax ys.length cx):=⟨_,rfl⟩
        rw[←hw6]
        have q0:w6.cell? ⟨w.heap.size,0,none⟩=some (.int .i64 room):=by rw[hw6];exact(sJ _ _ _ _ zF).trans a0
        have q1:w6.cell? ⟨w.heap.size,1,none⟩=some (.slice ax ys.length cx):=by rw[hw6];exact sK _ _ _ a1
        have q2:w6.cell? ⟨w.heap.size,2,none⟩=some (.int .i64 pu):=by rw[hw6];exact(sJ _ _ _ _ zF).trans a2
        have q3:w6.cell? ⟨w.heap.size,3,none⟩=some (.int .i64 st):=by rw[hw6];exact(sJ _ _ _ _ zF).trans a3
        have ht6:w6.there (w.heap.size+1) 0 (#[.int .i64 room,.slice ax ys.length cx,.int .i64 pu,.int .i64 st]:Array Value).size:=by
          rw[hw6];exact there_block HT4.out (sY _ _ _ _ (by show w.heap.size+1≠w.heap.size;omega))
        have hsz6:(Tryz.prog.info? 35).map (·.size)=some (#[.int .i64 room,.slice ax ys.length cx,.int .i64 pu,.int .i64 st]:Array Value).size:=xB
        have hall:(#[.int .i64 room,.slice ax ys.length cx,.int .i64 pu,.int .i64 st]:Array Value).all (·.oneCell')=true:=yX
        have hld:=qQ (P:=Tryz.prog) ht6 Tryz.underlying35 rfl hsz6
        have HCP6:Hid (Cp (w.heap.size+2) 65 82 w6 (.slice ax ys.length cx) ys):=lI (by rw[hw6];exact HI.out.1.set (by show w.heap.size<w.heap.size+2;omega) _)
        have HB6:Hid (Below w.heap.size w w6):=lI (by rw[hw6];exact(HB2.out.trans (HI.out.2.2.mono om)).setCell (p:=⟨w.heap.size,1,none⟩) (sO _) _)
        clear hw6 a0 a1 a2 a3 z0 z1 z2 z3 af zf
        go_wp2_with (first|(refine sT rfl 35 _ _ rfl (w.heap.size+1) 0 #[.int .i64 room,.slice ax ys.length cx,.int .i64 pu,.int .i64 st] rfl rfl ht6 hsz6 hall ?_))
        refine sP (qk zP _ zP hld) rfl ⟨⟨_,rfl,ys,HCP6.out.sets om _ _,by rw[HI.out.2.1,List.take_length]⟩,qB om _ _ _ HB6.out⟩
  all_goals first
    |(unfold maxLen;omega)
    |(rw[hby];omega)
    |omega
theorem info_block5:(Tryz.prog.info? 65).map (fun i=>(i.zero,i.size,i.bytes))=some (some (.agg #[.int .u32 0,.slice none 0 0]),2,32):=by kernel_rfl
theorem dfunc_any(B:Nat)(v:Value)(ys:List BlkD)(fr tw:Int)(pb:Nat)(w:World)(hv:Cp B 65 82 w v ys)(hB:B≤w.heap.size)(hpb:pb<B)(h0:w.cell? ⟨pb,0,none⟩=some (.int .u32 fr))(h1:w.cell? ⟨pb,1,none⟩=some (.int .u32 tw))(hins:∀x∈ys,x.ins.length≤3518437208883)(hf:U32 fr)(ht:U32 tw):
    Calls Tryz.prog 109 #[v,.func (.func 110) #[] #[.pointer (some ⟨pb,0,none⟩)]] w fun e w'=>(∃v',e=.returned v'∧Cp B 65 82 w' v' (ys.filter (fun x=> !QC fr tw x)))∧Below B w w':=by
  have hne:65≠82:=zL
  obtain⟨av,cv,ev⟩:=qb hv.own
  have hcm:ys.length≤cv∧cv≤maxLen:=by
    obtain⟨_,_,e,h1,h2,_⟩:=(Qs hv.own).open (l:=ys) (fun _ _=>rfl) om
    rw[ev]at e;cases e;exact⟨h1,h2⟩
  have HIX:=lI (indexStale_any v ys fr tw pb w hv.blks h0 h1 hins hf ht)
  have hlp:pb<w.heap.size:=om
  have HDEL:Hid (∀x∈ys,∀W,Below B w W→W.ownsRow B 82 5 x.vi x.ins.length (x.ins.flatMap jO)→Calls Tryz.prog 110 #[.agg #[.int .u32 x.pc,x.vi],.pointer (some ⟨pb,0,none⟩)] W fun e w'=>e=.returned (.bool (QC fr tw x))∧Below W.heap.size W w'):=lI (fun x hx W hW ho=>stale1_any x fr tw pb W ((hW.cell (p:=⟨pb,0,none⟩) hpb).trans h0) ((hW.cell (p:=⟨pb,1,none⟩) hpb).trans h1) ⟨Qs ho,hv.pc x hx⟩ (hins x hx) hf ht)
  have HV:=lI hv
  obtain⟨P,hP⟩:∃P:BlkD→Bool,P=QC fr tw:=⟨_,rfl⟩
  have hPe:(fun x=> !QC fr tw x)=fun x=> !P x:=by rw[hP]
  rw[hPe]
  rw[←hP]at HIX HDEL
  subst ev
  obtain⟨hc1,hc2⟩:=hcm
  unfold maxLen at hc2
  obtain⟨ib,hib,hb0,hb1,hby⟩:=info_parts info_block5
  clear hP hPe h0 h1 hf ht hins hv
  by_cases hex:∃k,∃h:k<ys.length,P ys[k]=true∧∀j (hj:j<k),P ys[j]=false
  · obtain⟨k,hk,hpk,hmin⟩:=hex
    rw[firstI_at hk hpk hmin]at HIX
    obtain⟨g,cap,e,hBg,hcl,hcm,hdl⟩:=Dl.begin HV.out om
    cases e
    have HD0:=lI (hdl k om)
    have hkk:¬(k:Int)= -1:=om
    have hkb:((k:Int)== -1)=false:=zG
    have HTK:Hid (ys.take k=(ys.take (k+1)).filter (fun x=> !P x)):=lI (by
      rw[List.take_succ_eq_append_getElem hk,List.filter_append,List.filter_eq_self.2 (fun x hx=> ?_),show [ys[k]].filter (fun x=> !P x)=[] by simp[hpk],List.append_nil]
      obtain⟨j,hj,rfl⟩:=List.mem_iff_getElem.1 hx
      have hj2:j<k:=by simp at hj;omega
      rw[List.getElem_take,hmin j hj2];rfl)
    have hkl:(ys.take k).length=k:=zB
    have HKL:=lI hkl
    clear hdl hmin hpk hkl
    go_enter Tryz.func109,Tryz.ntmps109
    go_wp2_with fail
    refine HIX.out.mono ?_
    rintro e w1 ⟨rfl,hb1'⟩
    have HD1:=lI ((HD0.out.below hB hb1').skip)
    have hs1:=hb1'.size
    clear hb1'
    go_wp2_with fail
    go_loopw [5,6] (fun x i wr=>∃(a j:Nat) (kept:List BlkD),x=.int .i64 a∧i=.int .i64 j∧a<j∧j≤ys.length∧kept.length=a∧w.heap.size≤wr.heap.size∧Hid (Dl B 65 82 g cv w wr ys kept j∧kept=(ys.take j).filter (fun x=> !P x))) (fun _ i _=>ys.length-(intOf i).toNat)
    case atStart=>exact⟨k,k+1,ys.take k,rfl,by simp,om,om,HKL.out,hs1,lI ⟨HD1.out,HTK.out⟩⟩
    case round=>
      obtain⟨a,j,kept,rfl,rfl,haj,hj,hka,hsz,HR⟩:=hrel
      by_cases hlt:j<ys.length
      · obtain⟨x,hx⟩:∃x,x=ys[j]:=⟨_,rfl⟩
        have hxm:x∈ys:=by rw[hx];exact sU hlt
        have hrow:=HR.out.1.row x hxm
        obtain⟨ac,cc,hvi⟩:=qb hrow
        have hat:=HR.out.1.rest j hlt (sO _)
        rw[←hx]at hat
        have c0:=hat.get (j:=0) (v:=.int .u32 x.pc) rfl
        have c1:=hat.get (j:=1) (v:=x.vi) rfl
        simp only[sN]at c0
        rw[hvi]at c1
        obtain⟨w3,hw3⟩:∃w3,w3=wr.alloc (.cells #[.int .u32 x.pc,.slice ac x.ins.length cc] 65):=⟨_,rfl⟩
        have hb3:Below wr.heap.size wr w3:=by rw[hw3];exact Fb.blw
        have hs3:wr.heap.size+1≤w3.heap.size:=by rw[hw3];simp
        have e0:(w3).cell? ⟨wr.heap.size,0,none⟩=some (.int .u32 x.pc):=xD
        have e1:(w3).cell? ⟨wr.heap.size,1,none⟩=some (.slice ac x.ins.length cc):=xD
        have hBr:B≤wr.heap.size:=om
        have HD3:=lI (HR.out.1.below hBr hb3)
        have HC3:=lI (HDEL.out x hxm w3 (HD3.out.bel) (HD3.out.row x hxm))
        rw[hvi]at HC3
        have HW3:=lI hw3
        have HTS:Hid ((ys.take (j+1)).filter (fun x=> !P x)=kept++(if P x=true then []else [x])):=lI (by
          rw[List.take_succ_eq_append_getElem hlt,List.filter_append,←HR.out.2,←hx]
          congr 1
          cases hpx:P x with
          |true=>simp[hpx]
          |false=>simp[hpx])
        have HVI:=lI hvi
        have HXM:=lI hxm
        have ha0:(0:Int)≤(a:Int):=om
        have ha1:(a:Int)<(ys.length:Int):=om
        have hjc:j<cv:=om
        clear hw3 hb3 hat hrow hx hvi hxm
        obtain⟨s,hs⟩:∃s,s=P x:=⟨_,rfl⟩
        rw[←hs]at HC3 HTS
        clear hs
        go_upto_region 8 with(fail)
        rw[←HW3.out]
        clear c0 c1
        go_wp2_with fail
        refine HC3.out.mono ?_
        rintro e w4 ⟨rfl,hb4⟩
        have l3:wr.heap.size<w3.heap.size:=om
        have f0:=(hb4.cell (p:=⟨wr.heap.size,0,none⟩) l3).trans e0
        have f1:=(hb4.cell (p:=⟨wr.heap.size,1,none⟩) l3).trans e1
        have hs4:=hb4.size
        have HD4:=lI (HD3.out.below om hb4)
        clear e0 e1 hb4
        cases s with
        | true =>
          go_wp2_with fail
          go_roundw
          case rel=>exact⟨a,j+1,kept,rfl,by simp,om,om,hka,om,lI ⟨HD4.out.skip,by rw[HTS.out];simp⟩⟩
          case measure=>simp[intOf];omega
        | false =>
          obtain⟨u0,hu0⟩:=Option.isSome_iff_exists.1 (HD4.out.shape.isSome (o:=a*2) om)
          obtain⟨u1,hu1⟩:=Option.isSome_iff_exists.1 (HD4.out.shape.isSome (o:=a*2+1) om)
          have hf0:=HD4.out.shape.frozen (a*2)
          have hf1:=HD4.out.shape.frozen (a*2+1)
          have hk:=HD4.out.keep hne hBg x om hjc
          rw[hka,HVI.out]at hk
          have HK:=lI hk
          have HKA:=lI hka
          clear hk hka
          go_wp2_with fail
          go_roundw
          case rel=>exact⟨a+1,j+1,kept++[x],by simp,by simp,om,om,by simp[HKA.out],by simpa using (by omega:w.heap.size≤w4.heap.size),lI ⟨HK.out,by rw[HTS.out];simp⟩⟩
          case measure=>simp[intOf];omega
      · obtain rfl:j=ys.length:=om
        have hth:wr.there g (a*2) ((ys.length-a)*2):=HR.out.1.shape.there om
        have hca:¬cv=a:=om
        have ha0:(0:Int)≤(a:Int):=om
        have ha1:(a:Int)≤(ys.length:Int):=om
        have ha2:(a:Int)≤(cv:Int):=om
        have HPCS:Hid (∀y∈ys,U32 y.pc):=lI HV.out.pc
        have hz1:∀v∈(Value.agg #[.int .u32 0,.slice none 0 0]).cells.toList,v.oneCell'=true:=fun v hv=>by
          simp[Value.cells]at hv
          rcases hv with rfl|rfl<;>rfl
        go_wp2_with (first|(refine UC rfl _ 33 65 rfl ib _ 2 Tryz.underlying33 hib hb0 rfl hz1 g (a*2) (ys.length-a) (cv-a) rfl hth ?_))
        intro zs hzs
        have hfin:=HR.out.1.finish hne hBg (fun y hy=>by rw[HR.out.2]at hy;exact List.mem_of_mem_take (List.mem_filter.1 hy).1) HPCS.out om xW zs
        rw[hka]at hfin
        have HFIN:=lI hfin
        have HKF:Hid (kept=ys.filter (fun x=> !P x)):=lI (by rw[HR.out.2,List.take_length])
        clear hfin hth
        go_wp2_with fail
        go_ret
        exact⟨⟨_,rfl,by rw[←HKF.out];exact HFIN.out.1⟩,HFIN.out.2⟩
  · have hno:∀j (hj:j<ys.length),P ys[j]=false:=fun j=>by
      induction j using Nat.strongRecOn with
      | _ j ih =>
        intro hj
        cases e:P ys[j]with
        |false=>rfl
        |true=>exact absurd ⟨j,hj,e,fun i hi=>ih i hi om⟩ hex
    rw[firstI_no hno]at HIX
    have hfe:ys.filter (fun x=> !P x)=ys:=List.filter_eq_self.2 (fun x hx=>by
      obtain⟨j,hj,rfl⟩:=List.mem_iff_getElem.1 hx
      rw[hno j hj];rfl)
    rw[hfe]
    clear hno hfe hex
    go_enter Tryz.func109,Tryz.ntmps109
    go_wp2_with fail
    refine HIX.out.mono ?_
    rintro e w1 ⟨rfl,hb1'⟩
    have HB1:=lI hb1'
    clear hb1'
    go_wp2_with fail
    go_ret
    exact⟨⟨_,rfl,HV.out.below HB1.out⟩,HB1.out.mono hB⟩
end Go.Proofs.YtlfnddmncbkjaacGreat.W
