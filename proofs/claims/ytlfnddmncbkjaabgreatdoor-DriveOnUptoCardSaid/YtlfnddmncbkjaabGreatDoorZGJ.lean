import Derived.Test.YtlfnddmncbkjaabGreatDoorZGI
set_option linter.unusedVariables false
set_option linter.unusedSimpArgs false
set_option maxRecDepth 100000
set_option maxHeartbeats 4000000
namespace Go.Proofs.YtlfnddmncbkjaabGreatDoor.Fb
open Go.RowKit
def Shp(B:Nat)(a b:World):Prop:=∀k,k<B→QK b.heap[k]? a.heap[k]?
theorem Shp.trans{B:Nat}{a b c:World}(h:Shp B a b)(k:Shp B b c):Shp B a c:=fun i hi=>(k i hi).trans (h i hi)
theorem Shp.of_below{B C:Nat}{a b:World}(h:Below C a b)(hB:B≤C):Shp B a b:=fun k hk=>QK.of_eq (h.block k om)
theorem Shp.of_fr{B:Nat}{S:Nat→Prop}{a b:World}(h:Fr S a b)(hB:B≤a.heap.size)(hS:∀j,j<B→¬S j):Shp B a b:=fun k hk=>h.shp om (hS k hk)
theorem Shp.set{B:Nat}{a b:World}(h:Shp B a b)(p:Addr)(v:Value):Shp B a (b.setCell p v):=fun k hk=>(Qe b p v k).trans (h k hk)
theorem Shp.of_grown{B:Nat}{row:Option Nat}{a b:World}(h:a.grownBy b row)(hB:B≤a.heap.size)(hr:∀k,row=some k→B≤k):Shp B a b:=fun k hk=>QK.of_eq (h.block k om (fun e=>by have:=hr k e.symm;omega))
def Sh(bh:Nat)(vm:Value)(a b:World):Prop:=∀k,(k=bh∨vm.ownBlock=some k)→QK b.heap[k]? a.heap[k]?
theorem Sh.refl(bh:Nat)(vm:Value)(a:World):Sh bh vm a a:=fun _ _=>QK.refl _
theorem Sh.trans{bh:Nat}{vm:Value}{a b c:World}(h:Sh bh vm a b)(k:Sh bh vm b c):Sh bh vm a c:=fun i hi=>(k i hi).trans (h i hi)
theorem Sh.of_below{bh C:Nat}{vm:Value}{a b:World}(h:Below C a b)(hB:∀k,(k=bh∨vm.ownBlock=some k)→k<C):Sh bh vm a b:=fun k hk=>QK.of_eq (h.block k (hB k hk))
theorem Sh.of_fr{bh:Nat}{vm:Value}{S:Nat→Prop}{a b:World}(h:Fr S a b)(hB:∀k,(k=bh∨vm.ownBlock=some k)→k<a.heap.size∧¬S k):Sh bh vm a b:=fun k hk=>h.shp (hB k hk).1 (hB k hk).2
theorem Sh.set{bh:Nat}{vm:Value}{a b:World}(h:Sh bh vm a b)(p:Addr)(v:Value):Sh bh vm a (b.setCell p v):=fun k hk=>(Qe b p v k).trans (h k hk)
theorem Sh.of_grown{bh:Nat}{vm:Value}{row:Option Nat}{a b:World}(h:a.grownBy b row)(hB:∀k,(k=bh∨vm.ownBlock=some k)→k<a.heap.size∧some k≠row):Sh bh vm a b:=fun k hk=>QK.of_eq (h.block k (hB k hk).1 (hB k hk).2)
def Beg(B:Nat)(tb th:TypeId)(bh hc:Nat)(vm:Value)(w:World):Prop:=∃(wb:World) (nm nh:Nat) (ms hs:List Value),wb.ownsRow B tb 1 vm nm ms∧wb.ownsRow B th 37 (.slice (some ⟨bh,0,none⟩) nh hc) nh hs∧∀k,(k=bh∨vm.ownBlock=some k)→QK w.heap[k]? wb.heap[k]?
theorem Beg.on{B bh hc:Nat}{tb th:TypeId}{vm:Value}{w w':World}(h:Beg B tb th bh hc vm w)(hs:∀k,(k=bh∨vm.ownBlock=some k)→QK w'.heap[k]? w.heap[k]?):Beg B tb th bh hc vm w':=by
  obtain⟨wb,nm,nh,ms,hs',h1,h2,h3⟩:=h
  exact⟨wb,nm,nh,ms,hs',h1,h2,fun k hk=>(hs k hk).trans (h3 k hk)⟩
theorem Beg.lt{B bh hc:Nat}{tb th:TypeId}{vm:Value}{w:World}(h:Beg B tb th bh hc vm w){q:Nat}(hq:q=bh∨vm.ownBlock=some q):B≤q∧q<w.heap.size:=by
  obtain⟨wb,nm,nh,ms,hs',h1,h2,h3⟩:=h
  have h4:=h3 q hq
  rcases hq with rfl|e
  · obtain⟨cs,f,e2⟩:=Qk h2 rfl
    obtain⟨cs',e3,-⟩:=h4 cs _ f e2
    exact⟨(h2.lt q rfl).1,qT e3⟩
  · obtain⟨cs,f,e2⟩:=Qk h1 e
    obtain⟨cs',e3,-⟩:=h4 cs _ f e2
    exact⟨(h1.lt q e).1,qT e3⟩
theorem Beg.below{B bh hc:Nat}{tb th:TypeId}{vm:Value}{w w':World}(h:Beg B tb th bh hc vm w)(hb:Below w.heap.size w w'):Beg B tb th bh hc vm w':=h.on (fun q hq=>QK.of_eq (hb.block q (h.lt hq).2))
theorem Beg.shp{B bh hc C:Nat}{tb th:TypeId}{vm:Value}{w w':World}(h:Beg B tb th bh hc vm w)(hs:Shp C w w')(h1:bh<C)(h2:∀q,vm.ownBlock=some q→q<C):Beg B tb th bh hc vm w':=h.on (fun q hq=>hs q (by rcases hq with rfl|e;exact h1;exact h2 q e))
theorem shp_owns{B:Nat}{e:TypeId}{s n n':Nat}{v:Value}{xs ys:List Value}{wb w:World}(h:wb.ownsRow B e s v n xs)(hs:∀k,v.ownBlock=some k→QK w.heap[k]? wb.heap[k]?)(hr:Sl w v s n' ys):w.ownsRow B e s v n' ys:=by
  obtain⟨r1,ao,cap',r2,r3,r4,r5,r6⟩:=hr
  rcases h.2 with⟨rfl,rfl⟩|⟨g,cap,cur,rfl,h3,h4,h5,h6,h7,h8⟩
  · injection r2 with _ e2 _
    subst e2
    exact⟨r1,.inl ⟨rfl,rfl⟩⟩
  · injection r2 with e1 e2 e3
    subst e1 e2 e3
    obtain⟨cs,k1,k2⟩:=hs g rfl cur e (0,0) h4
    refine⟨r1,.inr ⟨g,cap,cs,rfl,h3,k1,h5,h6,by rw[k2];exact h7, ?_⟩⟩
    have hle:n*s≤cs.size:=by rw[k2,h7];exact Nat.mul_le_mul_right _ h5
    apply List.ext_getElem
    · rw[List.length_take,Array.length_toList,r1];omega
    · intro i i1 i2
      have hne:ys≠[]:=fun e=>by rw[e]at i2;exact Nat.not_lt_zero _ i2
      have:=(r6 _ rfl hne).2 i i2
      have hi:i<n*s:=by rw[←r1];exact i2
      unfold World.cell? at this
      simp only[k1]at this
      rw[List.getElem_take,Array.getElem_toList]
      have h9:i<cs.size:=om
      simp only[sM,Option.isSome_none,Bool.false_eq_true,if_false,Array.getElem?_eq_getElem h9]at this
      exact Option.some.inj this
theorem Beg.own{B bh hc n nh:Nat}{tb th:TypeId}{vm:Value}{w:World}{ys zs:List Value}(h:Beg B tb th bh hc vm w)(h1:Sl w vm 1 n ys)(h2:Sl w (.slice (some ⟨bh,0,none⟩) nh hc) 37 nh zs):w.ownsRow B tb 1 vm n ys∧w.ownsRow B th 37 (.slice (some ⟨bh,0,none⟩) nh hc) nh zs:=by
  obtain⟨wb,nm,nh',ms,hs',k1,k2,k3⟩:=h
  refine⟨shp_owns k1 (fun k e=>k3 k (.inr e)) h1, ?_⟩
  rcases k2.2 with⟨e,-⟩|⟨g,cap,cur,e,h3,h4,h5,h6,h7,h8⟩
  · cases e
  · injection e with e1 _ e3
    injection e1 with e1
    injection e1 with e1
    subst e1 e3
    obtain⟨x1,ao,cap',x2,x3,x4,x5,x6⟩:=h2
    injection x2 with y1 _ x2
    subst y1 x2
    have hw:wb.ownsRow B th 37 (.slice (some ⟨bh,0,none⟩) nh hc) nh (cur.toList.take (nh*37)):=⟨by rw[List.length_take,Array.length_toList,h7,Nat.min_eq_left (Nat.mul_le_mul_right _ x3)],.inr ⟨bh,hc,cur,rfl,h3,h4,x3,h6,h7,rfl⟩⟩
    exact shp_owns hw (fun k e=>k3 k (.inl (by cases e;rfl))) ⟨x1,_,hc,rfl,x3,x4,x5,x6⟩
theorem Qv(k:IntKind)(w:World)(xs:List Int)(t:TypeId)(hx:xs.length≤1000):Ints k (w.alloc (.cells (xs.map (Value.int k)).toArray t)) (.slice (some ⟨w.heap.size,0,none⟩) xs.length xs.length) xs:=
  Sl.mk (QP w _ _ _) zC (sN _) yG
theorem box_set{w wa w1:World}{pb i:Nat}{xs:List Value}{row:Option Nat}{v:Value}(h:At w pb 0 xs)(hlt:pb<w.heap.size)(hb:Below w.heap.size w wa)(hg:wa.grownBy w1 row)(hr:∀k,row=some k→pb<k)(hi:i<xs.length):
    At (w1.setCell ⟨pb,i,none⟩ v) pb 0 (xs.set i v)∧(∀o,(w1.setCell ⟨pb,i,none⟩ v).frozen? ⟨pb,o,none⟩=w.frozen? ⟨pb,o,none⟩)∧(∀q,q<w.heap.size→q≠pb→row≠some q→(w1.setCell ⟨pb,i,none⟩ v).heap[q]? =w.heap[q]?)∧Below pb w (w1.setCell ⟨pb,i,none⟩ v):=by
  have hs:=hb.size
  have e:=(hg.block pb om (fun e=>by have:=hr pb e.symm;omega)).trans (hb.block pb hlt)
  have h1:At w1 pb 0 xs:=fun j hj=>(qA e _).trans (h j hj)
  refine⟨by simpa using h1.set i hi v,fun o=>(sL _ _ _ _).trans (qL e o),fun q h1 h2 h3=>(sT _ _ _ _ (by show q≠pb;exact h2)).trans ((hg.block q om (fun e=>h3 e.symm)).trans (hb.block q h1)), ?_⟩
  have h2:Below pb wa w1:=⟨hg.os,hg.tape,hg.output,hg.size,fun k hk=>hg.block k om (fun e=>by have:=hr k e.symm;omega)⟩
  exact((hb.mono om).trans h2).setCell (p:=⟨pb,i,none⟩) (sN _) v
theorem flat_len37:∀l:List Hart,(∀x∈l,x.Wf)→(l.flatMap qJ).length=l.length*37
  |[],_=>rfl
  | x :: r, hx => by
    rw[List.flatMap_cons,sW,qG (hx x zC),flat_len37 r (fun y hy=>hx y (by simp[hy])),List.length_cons]
    omega
end Go.Proofs.YtlfnddmncbkjaabGreatDoor.Fb
namespace Go.Proofs.YtlfnddmncbkjaabGreatDoor.W
open Go.RowKit Fb Go.Lib
structure Env (B:Nat) (w:World):Prop where
  t : Lib.TabBelow Tryz.prog B w "internal/strconv.uint64pow10" .u64 Lib.pow10Tab
  s : Lib.TabBelow Tryz.prog B w "strings.asciiSpace" .u8 Lib.asciiSpaceTab
  y : ErrD B w "strconv.ErrSyntax"
  r : ErrD B w "strconv.ErrRange"
theorem Env.keep{B:Nat}{w w':World}(h:Env B w)(hb:Below B w w'):Env B w':=
  ⟨fun W hW=>h.t W (hb.trans hW),fun W hW=>h.s W (hb.trans hW),by obtain⟨tp,p,e⟩:=h.y;exact⟨tp,p,fun W hW=>e W (hb.trans hW)⟩,by obtain⟨tp,p,e⟩:=h.r;exact⟨tp,p,fun W hW=>e W (hb.trans hW)⟩⟩
theorem Env.up{B C:Nat}{w:World}(h:Env B w)(hB:B≤C):Env C w:=
  ⟨fun W hW=>h.t W (hW.mono hB),fun W hW=>h.s W (hW.mono hB),by obtain⟨tp,p,e⟩:=h.y;exact⟨tp,p,fun W hW=>e W (hW.mono hB)⟩,by obtain⟨tp,p,e⟩:=h.r;exact⟨tp,p,fun W hW=>e W (hW.mono hB)⟩⟩
structure PAt (pb:Nat) (vm vh vp vd:Value) (us:List UndD) (w:World) (p:PlD):Prop where
  at_:At w pb 0 [vm,vh,vp,vd,.bool p.ran]
  frz:∀o,w.frozen? ⟨pb,o,none⟩=false
  om:w.ownsRow (pb+1) 5 1 vm p.m.mem.length (p.m.mem.map (Value.int .u8))
  oh:w.ownsRow (pb+1) 43 37 vh p.m.harts.length (p.m.harts.flatMap qJ)
  op:w.ownsRow (pb+1) 47 2 vp p.ps.length (p.ps.flatMap plist)
  up:p.ran=true→Up (pb+1) 136 5 142 w vd us∧us.map (·.d)=p.us∧(∀d∈p.us,URng d)∧p.us.length≤120000
  vd:∃a n c,vd=.slice a n c
  wf:p.m.Wf
  oks:∀x∈p.m.harts,x.ok=true
  lim:p.m.mem.length≤4096∧p.m.harts.length≤4∧p.ps.length≤300
  prs:∀q∈p.ps,U32 q.1∧U32 q.2
def PlAt(pb:Nat)(w:World)(p:PlD):Prop:=∃vm vh vp vd us,PAt pb vm vh vp vd us w p
section
variable {pb : Nat} {vm vh vp vd : Value} {us : List UndD} {w wa w1 w' : World} {p : PlD}
theorem PAt.lt(h:PAt pb vm vh vp vd us w p):pb<w.heap.size:=Fb.qD (h.at_ 0 zC)
theorem PAt.below(h:PAt pb vm vh vp vd us w p)(hb:Below w.heap.size w w'):PAt pb vm vh vp vd us w' p:=
  ⟨h.at_.below hb,fun o=>(hb.frozen (p:=⟨pb,o,none⟩) h.lt).trans (h.frz o),qQ h.om hb,qQ h.oh hb,qQ h.op hb,fun e=>⟨(h.up e).1.below hb,(h.up e).2⟩,h.vd,h.wf,h.oks,h.lim,h.prs⟩
theorem PAt.off(h:PAt pb vm vh vp vd us w p):PAt pb vm vh vp vd us (w.setCell ⟨pb,4,none⟩ (.bool false)) {p with ran:=false}:=by
  have hk:∀q,pb+1≤q→(w.setCell ⟨pb,4,none⟩ (.bool false)).heap[q]? =w.heap[q]? :=fun q hq=>sT _ _ _ _ yY
  exact⟨by simpa using h.at_.set 4 zC (.bool false),fun o=>(sL _ _ _ _).trans (h.frz o),qI h.om (fun g e=>hk g (h.om.lt g e).1),qI h.oh (fun g e=>hk g (h.oh.lt g e).1),qI h.op (fun g e=>hk g (h.op.lt g e).1),(fun e=>by cases e),h.vd,h.wf,h.oks,h.lim,h.prs⟩
theorem PAt.mem(h:PAt pb vm vh vp vd us w p)(hr:p.ran=false)(hb:Below w.heap.size w wa){v:Value}{bs:List Int}(hown:w1.ownsRow (pb+1) 5 1 v (p.m.mem.length+bs.length) (p.m.mem.map (Value.int .u8)++bs.map (Value.int .u8)))(hg:wa.grownBy w1 vm.ownBlock)(hl:p.m.mem.length+bs.length≤4096)(hbs:jE bs):
    PAt pb v vh vp vd us (w1.setCell ⟨pb,0,none⟩ v) {p with m:={p.m with mem:=p.m.mem++bs}}∧Below pb w (w1.setCell ⟨pb,0,none⟩ v)∧∀q,q<w.heap.size→q≠pb→vm.ownBlock≠some q→(w1.setCell ⟨pb,0,none⟩ v).heap[q]? =w.heap[q]? :=by
  obtain⟨b1,b2,b3,b4⟩:=box_set (v:=v) h.at_ h.lt hb hg (fun k e=>(h.om.lt k e).1) (i:=0) zC
  refine⟨⟨b1,fun o=>(b2 o).trans (h.frz o), ?_,qI h.oh (fun g e=>b3 g (h.oh.lt g e).2 (by have:=(h.oh.lt g e).1;omega) (QR h.oh h.om zF g e)),qI h.op (fun g e=>b3 g (h.op.lt g e).2 (by have:=(h.op.lt g e).1;omega) (QR h.op h.om zF g e)),(fun e=>by rw[hr]at e;cases e),h.vd,⟨fun x hx=> ?_,h.wf.harts⟩,h.oks,⟨by show(p.m.mem++bs).length≤_;rw[sW];exact hl,h.lim.2⟩,h.prs⟩,b4,b3⟩
  · show World.ownsRow _ _ _ _ _ (p.m.mem++bs).length ((p.m.mem++bs).map _)
    rw[sW,List.map_append]
    exact ownsRow_setCell_below hown (Nat.lt_succ_self pb) v
  · rcases List.mem_append.1 hx with hx|hx
    · exact h.wf.mem x hx
    · exact hbs x hx
theorem PAt.hart(h:PAt pb vm vh vp vd us w p)(hr:p.ran=false)(hb:Below w.heap.size w wa){v:Value}{x:Hart}(hown:w1.ownsRow (pb+1) 43 37 v (p.m.harts.length+1) (p.m.harts.flatMap qJ++qJ x))(hg:wa.grownBy w1 vh.ownBlock)(hl:p.m.harts.length<4)(hx:x.Wf)(hok:x.ok=true):
    PAt pb vm v vp vd us (w1.setCell ⟨pb,1,none⟩ v) {p with m:={p.m with harts:=p.m.harts++[x]}}∧Below pb w (w1.setCell ⟨pb,1,none⟩ v):=by
  obtain⟨b1,b2,b3,b4⟩:=box_set (v:=v) h.at_ h.lt hb hg (fun k e=>(h.oh.lt k e).1) (i:=1) zC
  refine⟨⟨b1,fun o=>(b2 o).trans (h.frz o),qI h.om (fun g e=>b3 g (h.om.lt g e).2 (by have:=(h.om.lt g e).1;omega) (QR h.om h.oh zF g e)), ?_,qI h.op (fun g e=>b3 g (h.op.lt g e).2 (by have:=(h.op.lt g e).1;omega) (QR h.op h.oh zF g e)),(fun e=>by rw[hr]at e;cases e),h.vd,⟨h.wf.mem,fun y hy=> ?_⟩,fun y hy=> ?_,⟨h.lim.1,by show(p.m.harts++[x]).length≤_;rw[sW];exact hl,h.lim.2.2⟩,h.prs⟩,b4⟩
  · show World.ownsRow _ _ _ _ _ (p.m.harts++[x]).length ((p.m.harts++[x]).flatMap qJ)
    rw[sW,List.flatMap_append]
    simpa using ownsRow_setCell_below hown (Nat.lt_succ_self pb) v
  · rcases List.mem_append.1 hy with hy|hy
    · exact h.wf.harts y hy
    · rw[List.mem_singleton]at hy;rw[hy];exact hx
  · rcases List.mem_append.1 hy with hy|hy
    · exact h.oks y hy
    · rw[List.mem_singleton]at hy;rw[hy];exact hok
theorem PAt.pick(h:PAt pb vm vh vp vd us w p)(hb:Below w.heap.size w wa){v:Value}{x:Int × Int}(hown:w1.ownsRow (pb+1) 47 2 v (p.ps.length+1) (p.ps.flatMap plist++plist x))(hg:wa.grownBy w1 vp.ownBlock)(hl:p.ps.length<300)(hx:U32 x.1∧U32 x.2):
    PAt pb vm vh v vd us (w1.setCell ⟨pb,2,none⟩ v) {p with ps:=p.ps++[x]}∧Below pb w (w1.setCell ⟨pb,2,none⟩ v):=by
  obtain⟨b1,b2,b3,b4⟩:=box_set (v:=v) h.at_ h.lt hb hg (fun k e=>(h.op.lt k e).1) (i:=2) zC
  refine⟨⟨b1,fun o=>(b2 o).trans (h.frz o),qI h.om (fun g e=>b3 g (h.om.lt g e).2 (by have:=(h.om.lt g e).1;omega) (QR h.om h.op zF g e)),qI h.oh (fun g e=>b3 g (h.oh.lt g e).2 (by have:=(h.oh.lt g e).1;omega) (QR h.oh h.op zF g e)), ?_,fun e=>⟨(h.up e).1.keep (fun q h1 h2 h3=>b3 q h1 om (fun e2=> ?_)),(h.up e).2⟩,h.vd,h.wf,h.oks,⟨h.lim.1,h.lim.2.1,by show(p.ps++[x]).length≤_;rw[sW];exact hl⟩,fun y hy=> ?_⟩,b4⟩
  · show World.ownsRow _ _ _ _ _ (p.ps++[x]).length ((p.ps++[x]).flatMap plist)
    rw[sW,List.flatMap_append]
    simpa using ownsRow_setCell_below hown (Nat.lt_succ_self pb) v
  · obtain⟨cs,f,e3⟩:=Qk h.op e2
    obtain⟨cs2,f2,e4|e4|e4⟩:=h3<;>(rw[e3]at e4;cases e4)
  · rcases List.mem_append.1 hy with hy|hy
    · exact h.prs y hy
    · rw[List.mem_singleton]at hy;rw[hy];exact hx
theorem PAt.reg(h:PAt pb vm vh vp vd us w p)(hr:p.ran=false){g cap k r:Nat}{x:Int}(e:vh=.slice (some ⟨g,0,none⟩) p.m.harts.length cap)(hk:k<p.m.harts.length)(h1:1≤r)(h2:r<32)(hx:U32 x):
    PAt pb vm vh vp vd us (w.setCell ⟨g,k*37+r,none⟩ (.int .u32 x)) {p with m:={p.m with harts:=p.m.harts.set k {(p.m.harts.getD k QC)with regs:=(p.m.harts.getD k QC).regs.set r x}}}∧Below pb w (w.setCell ⟨g,k*37+r,none⟩ (.int .u32 x)):=by
  subst e
  have hg:=h.oh.lt g rfl
  have hbk:∀q,q≠g→(w.setCell ⟨g,k*37+r,none⟩ (.int .u32 x)).heap[q]? =w.heap[q]? :=fun q hq=>sT _ _ _ _ (by show q≠g;exact hq)
  have eh:p.m.harts.getD k QC=p.m.harts[k]:=by rw[List.getD_eq_getElem?_getD,sU hk];rfl
  rw[eh]
  have wk:=h.wf.harts _ (sR hk)
  have hat:At w g 0 (p.m.harts.flatMap qJ):=by
    rcases jH h.oh with⟨e,e2,-⟩|⟨g',cap',e,-,-,-,-,h7,-⟩
    · omega
    · injection e with e1
      injection e1 with e1
      injection e1 with e1
      rw[e1];exact h7
  have hek:=je hat (fun y hy=>qG (h.wf.harts y hy)) hk
  have hlk:(qJ p.m.harts[k]).length=37:=qG wk
  have hwx:({p.m.harts[k]with regs:=p.m.harts[k].regs.set r x}:Hart).Wf:=⟨by show(List.set _ _ _).length=_;rw[List.length_set];exact wk.len,fun y hy=>by
    rcases List.mem_or_eq_of_mem_set hy with hy|rfl
    · exact wk.regs y hy
    · exact hx,wk.pc,wk.heldAt,wk.state,wk.cause⟩
  have hnew:At (w.setCell ⟨g,k*37+r,none⟩ (.int .u32 x)) g (k*37) (qJ {p.m.harts[k]with regs:=p.m.harts[k].regs.set r x}):=by
    rw[UY wk.len r h2]
    exact hek.set r om _
  have hall:=jp hat (fun y hy=>qG (h.wf.harts y hy)) (qG hwx) hnew (fun o ho=>sJ _ _ _ _ zD)
  obtain⟨hl1,ao,cap',e3,h4,h5,h6,h7⟩:=qn h.oh
  injection e3 with e3 _ e4
  subst e3 e4
  have hok:({p.m.harts[k]with regs:=p.m.harts[k].regs.set r x}:Hart).ok=true:=by
    have:=h.oks _ (sR hk)
    unfold Hart.ok at this ⊢
    have e0:(p.m.harts[k].regs.set r x).getD 0 0=p.m.harts[k].regs.getD 0 0:=by
      rw[List.getD_eq_getElem?_getD,List.getD_eq_getElem?_getD,List.getElem?_set_ne om]
    simp only[e0]
    exact this
  refine⟨⟨h.at_.set_other (by show g≠pb;omega) _,fun o=>(sL _ _ _ _).trans (h.frz o),qI h.om (fun q e=>hbk q (fun e2=>QR h.om h.oh zF q e (by rw[e2];rfl))), ?_,qI h.op (fun q e=>hbk q (fun e2=>QR h.op h.oh zF q e (by rw[e2];rfl))),(fun e=>by rw[hr]at e;cases e),h.vd,⟨h.wf.mem,fun y hy=> ?_⟩,fun y hy=> ?_,⟨h.lim.1,by show(List.set _ _ _).length≤_;rw[List.length_set];exact h.lim.2.1,h.lim.2.2⟩,h.prs⟩,(Below.refl pb w).setCell (p:=⟨g,k*37+r,none⟩) (by show pb≤g;omega) _⟩
  · show World.ownsRow _ _ _ _ _ (p.m.harts.set k _).length _
    rw[List.length_set]
    have hfl:((p.m.harts.set k {p.m.harts[k]with regs:=p.m.harts[k].regs.set r x}).flatMap qJ).length=p.m.harts.length*37:=by
      have:=flat_len37 (p.m.harts.set k {p.m.harts[k]with regs:=p.m.harts[k].regs.set r x}) (fun y hy=>by
        rcases List.mem_or_eq_of_mem_set hy with hy|rfl
        · exact h.wf.harts y hy
        · exact hwx)
      rw[List.length_set]at this
      exact this
    exact shp_owns h.oh (fun q _=>Qe _ _ _ _) ⟨hfl,_,_,rfl,h4,h5,h6,fun a ha _=>by cases ha;exact⟨rfl,hall⟩⟩
  · rcases List.mem_or_eq_of_mem_set hy with hy|rfl
    · exact h.wf.harts y hy
    · exact hwx
  · rcases List.mem_or_eq_of_mem_set hy with hy|rfl
    · exact h.oks y hy
    · exact hok
end
theorem info_u8:(Tryz.prog.info? 5).map (fun i=>(i.zero,i.size,i.bytes))=some (some (.int .u8 0),1,1):=by kernel_rfl
theorem cell_fourD(w:World)(a b c d:Value)(t:TypeId):∀j u,[a,b,c,d][j]? =some u→(w.alloc (.cells #[a,b,c,d] t)).cell? ((⟨w.heap.size,0,none⟩:Addr).add j)=some u:=by
  intro j u hj
  match j,hj with
  |0,hj=>simp at hj;subst hj;simp[Addr.add]
  |1,hj=>simp at hj;subst hj;simp[Addr.add]
  |2,hj=>simp at hj;subst hj;simp[Addr.add]
  |3,hj=>simp at hj;subst hj;simp[Addr.add]
  |(j+4),hj=>simp at hj
theorem say1_any(w:World)(pb:Nat)(wd:List UInt8)(n:Int)(hwd:wd.length≤1000000000)(hn:0≤n∧n≤9223372036854775807)(hpb:pb<w.heap.size)(hE:Env pb w):
    Calls Tryz.prog 10 #[.string (bs wd),.slice (some ⟨w.heap.size,0,none⟩) 1 1] (w.alloc (.cells #[.int .i64 n] 3)) fun e w'=>e=.returned (.string (bs (sayS wd [n])))∧Below (w.alloc (.cells #[.int .i64 n] 3)).heap.size (w.alloc (.cells #[.int .i64 n] 3)) w':=
  sayI_any _ wd [n] hwd zC (by intro m hm;rw[List.mem_singleton]at hm;rw[hm];exact hn) _ (Qv .i64 w [n] 3 zC) (lI (Jl hE.t (Below.alloc br (Nat.le_of_lt hpb) _) zN))
theorem uK:∀l:List Int,(l.flatMap Ja).length=4*l.length
  |[]=>rfl
  | x :: l => by
    rw[List.flatMap_cons,sW,uK l,List.length_cons]
    show 4+_=_
    omega
theorem pwords_any{pb:Nat}{vm vh vp vd:Value}{us:List UndD}{w:World}{p:PlD}(hp:PAt pb vm vh vp vd us w p)(hr:p.ran=false)(v:Value)(l:List Int)(hl:w.ownsRow (pb+1) 40 1 v l.length (l.map (Value.int .u32)))(hu:∀x∈l,U32 x)(hll:l.length≤1000000000)(HE:Hid (Env pb w)):
    Calls Tryz.prog 9 #[.pointer (some ⟨pb,0,none⟩),v] w fun e w'=>e=.returned (.string (bs (wordsS p l).1))∧PlAt pb w' (wordsS p l).2∧Below pb w w':=by
  obtain⟨al,cl,rfl⟩:=qE hl
  obtain⟨am,cm,rfl⟩:=qE hp.om
  have c0:=hp.at_.get (j:=0) rfl
  simp only[sM]at c0
  have hml:=hp.lim.1
  have HP:=lI hp
  have HL:=lI hl
  have HU:=lI hu
  have HR:=lI hr
  clear hp hl hu hr
  by_cases hbig:4096<p.m.mem.length+4*l.length
  · have hS:wordsS p l=(qS,p):=if_pos hbig
    rw[hS]
    have hi:(4096:Int)<(p.m.mem.length:Int)+4*(l.length:Int):=om
    clear hS hbig
    go_enter Tryz.func9,Tryz.ntmps9
    go_wp2_with fail
    go_ret
    exact⟨rfl,⟨_,_,_,_,_,HP.out⟩,Below.refl _ _⟩
  · have hi:¬(4096:Int)<(p.m.mem.length:Int)+4*(l.length:Int):=om
    go_enter Tryz.func9,Tryz.ntmps9
    go_wp2_with fail
    have HW0:Hid (wordsS p l=(sayS okS [((p.m.mem++l.flatMap Ja).length:Int)],{p with m:={p.m with mem:=p.m.mem++l.flatMap Ja}})):=lI (if_neg hbig)
    obtain⟨i0,hi0,hz0,hz1,hz2⟩:=info_parts info_u8
    clear c0 hi
    go_loopw [20] (fun i wr=>∃j:Nat,i=.int .i64 j∧j≤l.length∧∃vm,Hid (PAt pb vm vh vp vd us wr {p with m:={p.m with mem:=p.m.mem++(l.take j).flatMap Ja}}∧wr.ownsRow (pb+1) 40 1 (.slice al l.length cl) l.length (l.map (Value.int .u32))∧Below pb w wr)) (fun i _=>l.length-(intOf i).toNat)
    case atStart=>exact⟨0,rfl,Nat.zero_le _,_,lI ⟨by simpa using HP.out,HL.out,Below.refl _ _⟩⟩
    case round=>
      obtain⟨j,rfl,hj,vm,HI⟩:=hrel
      by_cases hlt:j<l.length
      · obtain⟨mj,hmj⟩:∃mj,mj=p.m.mem++(l.take j).flatMap Ja:=⟨_,rfl⟩
        rw[←hmj]at HI
        have hmjl:mj.length=p.m.mem.length+4*j:=by rw[hmj,sW,uK,List.length_take,Nat.min_eq_left hj]
        have HMJ:=lI hmj
        clear hmj
        obtain⟨g,rfl,h7⟩:∃g,al=some ⟨g,0,none⟩∧At wr g 0 (l.map (Value.int .u32)):=by
          rcases jH HI.out.2.1 with⟨e,e2,-⟩|⟨g,cap,e,-,-,-,-,h7,-⟩
          · omega
          · injection e with e1
            exact⟨g,e1,h7⟩
        have e0:=h7.get (j:=j) (v:=.int .u32 l[j]) (by simp[hlt])
        simp only[sM]at e0
        have hx:=HU.out l[j] (sR hlt)
        have HT:=lI (List.take_succ_eq_append_getElem hlt)
        generalize l[j]=x at *
        obtain⟨hx0,hx1⟩:=hx
        have c0:=HI.out.1.at_.get (j:=0) rfl
        simp only[sM]at c0
        have f0:=HI.out.1.frz 0
        obtain⟨am,cm,rfl⟩:=qE HI.out.1.om
        have k0:(0:Int)≤(j:Int):=om
        have k1:(j:Int)<(l.length:Int):=om
        have hwb:x / 16777216%256=x / 16777216:=om
        have HN:=lI (show mj++[x%256,x / 256%256,x / 65536%256,x / 16777216]=p.m.mem++(l.take (j+1)).flatMap Ja by
          rw[HT.out,List.flatMap_append,←List.append_assoc,←HMJ.out]
          show _=mj++(Ja x++[])
          unfold Ja
          rw[hwb,List.append_nil])
        obtain⟨mm,hmm⟩:∃mm,mm=p.m.mem.length:=⟨_,rfl⟩
        rw[←hmm]at hmjl hml hbig
        have HOM:Hid (wr.ownsRow (pb+1) 5 1 (.slice am mj.length cm) mj.length (mj.map (Value.int .u8))):=lI HI.out.1.om
        have hmb:mj.length+4≤4096:=om
        have HMM:=lI (And.intro hmm hmjl)
        clear h7 hwb hmm hmjl
        go_wp2_with (at_builtin;go_must (refine wpList_append_own _ rfl (.tmp 29) (.tmp 41) 27 rfl (pb+1) 5 i0 (.int .u8 0) 1 1 Tryz.underlying27 hi0 hz0 hz1 hz2 rfl zF _ _ _ rfl (HOM.out.alloc _) ⟨wr.heap.size,0,none⟩ 4 4 [.int .u8 (x%256),.int .u8 (x / 256%256),.int .u8 (x / 65536%256),.int .u8 (x / 16777216)] rfl rfl (cell_fourD _ _ _ _ _ _) (by intro u hu;simp at hu;rcases hu with rfl|rfl|rfl|rfl<;>rfl) yG om (by have:=HI.out.1.lt;simp;omega) ?_;intro v3 w3 hown3 hgrow3 hnil3;obtain⟨a3,c3,rfl⟩:=qE hown3;(have c0':=(hgrow3.cell_far ⟨pb,0,none⟩ (by simp;have:=HI.out.1.lt;omega) (fun e=>by have:=(HI.out.1.om.lt pb e.symm).1;omega)).trans ((sI _ _ ⟨pb,0,none⟩ HI.out.1.lt).trans c0));(have f0':=(hgrow3.frozen_far ⟨pb,0,none⟩ (by simp;have:=HI.out.1.lt;omega) (fun e=>by have:=(HI.out.1.om.lt pb e.symm).1;omega)).trans ((World.frozen?_alloc_old _ _ ⟨pb,0,none⟩ (Nat.ne_of_lt HI.out.1.lt)).trans f0));(have HO3:=lI hown3);(have HG3:=lI hgrow3);clear hown3 hgrow3 hnil3 c0 f0))
        go_wp2_with fail
        go_roundw
        case rel=>
          obtain⟨h1,h2,h3⟩:=HI.out.1.mem HR.out (br.alloc (sN _) _) (bs:=[x%256,x / 256%256,x / 65536%256,x / 16777216]) HO3.out HG3.out (by show mj.length+4≤4096;omega) (by
            intro y hy
            simp only[List.mem_cons,List.not_mem_nil,or_false]at hy
            rcases hy with rfl|rfl|rfl|rfl<;>(constructor<;>omega))
          rw[HN.out]at h1
          exact⟨j+1,by simp,hlt,.slice a3 (mj.length+4) c3,lI ⟨h1,qI HI.out.2.1 (fun q e=>h3 q (HI.out.2.1.lt q e).2 (by have:=(HI.out.2.1.lt q e).1;omega) (QR HI.out.2.1 HI.out.1.om zF q e)),HI.out.2.2.trans h2⟩⟩
        case measure=>simp[intOf];omega
      · obtain rfl:j=l.length:=om
        rw[List.take_length]at HI
        have hbl:(p.m.mem++l.flatMap Ja).length≤4096:=by rw[sW,uK];omega
        obtain⟨mj,hmj⟩:∃mj,mj=p.m.mem++l.flatMap Ja:=⟨_,rfl⟩
        rw[←hmj]at HI HW0 hbl
        have c0:=HI.out.1.at_.get (j:=0) rfl
        simp only[sM]at c0
        obtain⟨am,cm,rfl⟩:=qE HI.out.1.om
        have HS:Hid (Calls Tryz.prog 10 #[.string ⟨#[111,107]⟩,.slice (some ⟨wr.heap.size,0,none⟩) 1 1] (wr.alloc (.cells #[.int .i64 mj.length] 3)) fun e w'=>e=.returned (.string (bs (sayS okS [(mj.length:Int)])))∧Below (wr.alloc (.cells #[.int .i64 mj.length] 3)).heap.size (wr.alloc (.cells #[.int .i64 mj.length] 3)) w'):=lI (say1_any wr pb okS mj.length zF ⟨om,om⟩ HI.out.1.lt (HE.out.keep HI.out.2.2))
        have HW0':=lI HW0.out
        clear hmj HW0 hbig hlt
        go_wp2_with fail
        refine HS.out.mono ?_
        rintro e w5 ⟨rfl,hb5⟩
        have HB5:=lI hb5
        clear hb5
        go_wp2_with fail
        go_ret
        have hb:Below wr.heap.size wr w5:=((Below.refl wr.heap.size wr).alloc (sN _) _).trans (HB5.out.mono zC)
        rw[HW0'.out]
        exact⟨rfl,⟨_,_,_,_,_,HI.out.1.below hb⟩,HI.out.2.2.trans (hb.mono (Nat.le_of_lt HI.out.1.lt))⟩
theorem cf{p:Prop}(h:p:=by
 go_wp2_with fail
 go_ret
 rw[HS.out]
 exact⟨rfl,⟨_,_,_,_,_,HP.out⟩,Below.refl _ _⟩):p:=h
theorem pset_any{pb:Nat}{vm vh vp vd:Value}{us:List UndD}{w:World}{p:PlD}(hp:PAt pb vm vh vp vd us w p)(hr:p.ran=false)(h r x:Int)(hh:U32 h)(hrr:U32 r)(hx:U32 x):
    Calls Tryz.prog 11 #[.pointer (some ⟨pb,0,none⟩),.int .u32 h,.int .u32 r,.int .u32 x] w fun e w'=>e=.returned (.string (bs (setS p h r x).1))∧PlAt pb w' (setS p h r x).2∧Below pb w w':=by
  obtain⟨ah,ch,rfl⟩:=qE hp.oh
  have c1:=hp.at_.get (j:=1) rfl
  simp only[sM]at c1
  have hhl:=hp.lim.2.1
  obtain⟨hh0,hh1⟩:=hh
  obtain⟨hr0,hr1⟩:=hrr
  have HP:=lI hp
  have HR:=lI hr
  have HX:=lI hx
  have hw32:(p.m.harts.length:Int)%4294967296=p.m.harts.length:=om
  clear hp hr hx
  obtain⟨S,hS⟩:∃S,S=setS p h r x:=⟨_,rfl⟩
  rw[←hS]
  by_cases hb:(p.m.harts.length:Int)≤h∨r<1∨31<r
  · have HS:Hid (S=(qS,p)):=lI (by rw[hS];exact if_pos hb)
    clear hS
    go_enter Tryz.func11,Tryz.ntmps11
    by_cases h1:(p.m.harts.length:Int)≤h
    · exact cf
    · by_cases h2:r<1
      · exact cf
      · have h3:31<r:=om
        exact cf
  · have HS:Hid (S=(okS,{p with m:={p.m with harts:=p.m.harts.set h.toNat {(p.m.harts.getD h.toNat QC)with regs:=(p.m.harts.getD h.toNat QC).regs.set r.toNat x}}})):=lI (by rw[hS];exact if_neg hb)
    have h1:¬(p.m.harts.length:Int)≤h:=om
    have h2:¬r<1:=om
    have h3:¬31<r:=om
    obtain⟨k,rfl⟩:=sQ hh0
    obtain⟨q,rfl⟩:=sQ hr0
    have hk:k<p.m.harts.length:=om
    obtain⟨g,rfl,v0,cq,fq⟩:∃g,ah=some ⟨g,0,none⟩∧∃v0,w.cell? ⟨g,k*37+q,none⟩=some v0∧w.frozen? ⟨g,k*37+q,none⟩=false:=by
      rcases jH HP.out.oh with⟨e,e2,-⟩|⟨g,cap,e,-,-,-,-,h7,h8⟩
      · omega
      · injection e with e1
        have:=je h7 (fun y hy=>qG (HP.out.wf.harts y hy)) hk
        exact⟨g,e1,_,this q (by rw[qG (HP.out.wf.harts _ (sR hk))];omega),h8 _⟩
    have H7:=lI (HP.out.reg HR.out rfl hk (r:=q) om om HX.out)
    rw[sV,sV]at HS
    clear hS hb hh0 hh1 hr0 hr1
    go_enter Tryz.func11,Tryz.ntmps11
    go_wp2_with fail
    go_ret
    rw[HS.out]
    exact⟨rfl,⟨_,_,_,_,_,H7.out.1⟩,H7.out.2⟩
theorem PAt.mach{pb:Nat}{vm vh vp vd vm2 vh2:Value}{us:List UndD}{w w1:World}{p:PlD}{m2:Mach}(h:PAt pb vm vh vp vd us w p)(hb:Below w.heap.size w w1)
    (o1:w1.ownsRow (pb+1) 5 1 vm2 m2.mem.length (m2.mem.map (Value.int .u8))) (o2:w1.ownsRow (pb+1) 43 37 vh2 m2.harts.length (m2.harts.flatMap qJ)) (wf:m2.Wf) (oks:∀x∈m2.harts,x.ok=true) (l1:m2.mem.length≤4096) (l2:m2.harts.length≤4):
    PAt pb vm2 vh2 (.slice none 0 0) vd us (((w1.setCell ⟨pb,0,none⟩ vm2).setCell ⟨pb,1,none⟩ vh2).setCell ⟨pb,2,none⟩ (.slice none 0 0)) {p with m:=m2,ps:=[]}∧Below pb w (((w1.setCell ⟨pb,0,none⟩ vm2).setCell ⟨pb,1,none⟩ vh2).setCell ⟨pb,2,none⟩ (.slice none 0 0)):=by
  have h1:=h.below hb
  have hk:∀q,pb+1≤q→(((w1.setCell ⟨pb,0,none⟩ vm2).setCell ⟨pb,1,none⟩ vh2).setCell ⟨pb,2,none⟩ (.slice none 0 0)).heap[q]? =w1.heap[q]? :=fun q hq=>
    ((sT _ _ _ _ yY).trans (sT _ _ _ _ yY)).trans (sT _ _ _ _ yY)
  refine⟨⟨by simpa using ((h1.at_.set 0 zC vm2).set 1 zC vh2).set 2 zC (.slice none 0 0),fun o=>(sL _ _ _ _).trans ((sL _ _ _ _).trans ((sL _ _ _ _).trans (h1.frz o))),qI o1 (fun g e=>hk g (o1.lt g e).1),qI o2 (fun g e=>hk g (o2.lt g e).1),World.ownsRow_nil _ _ _ _,fun e=>⟨(h1.up e).1.keep (fun q _ h2 _=>hk q h2),(h1.up e).2⟩,h.vd,wf,oks,⟨l1,l2,Nat.zero_le _⟩,(by intro q hq;cases hq)⟩, ?_⟩
  exact(((hb.mono (Nat.le_of_lt h.lt)).setCell (p:=⟨pb,0,none⟩) (sN _) _).setCell (p:=⟨pb,1,none⟩) (sN _) _).setCell (p:=⟨pb,2,none⟩) (sN _) _
theorem UN{pb:Nat}{W:World}{v:Value}{wd:List UInt8}{l:List Int}(hwd:wd.length≤1000000000)(hll:l.length≤1000000000)(hr:∀n∈l,0≤n∧n≤9223372036854775807)(hv:Ints .i64 W v l)(hE:Env pb W)(hle:pb≤W.heap.size):
    Calls Tryz.prog 10 #[.string (bs wd),v] W fun e w'=>e=.returned (.string (bs (sayS wd l)))∧Below W.heap.size W w':=sayI_any v wd l hwd hll hr W hv (lI (Jl hE.t br hle))
theorem JW{pb:Nat}{W:World}{v:Value}{wd:List UInt8}{l:List Int}(hwd:wd.length≤1000000000)(hll:l.length≤1000000000)(hr:∀n∈l,0≤n∧n≤4294967295)(hv:Ints .u32 W v l)(hE:Env pb W)(hle:pb≤W.heap.size):
    Calls Tryz.prog 31 #[.string (bs wd),v] W fun e w'=>e=.returned (.string (bs (sayS wd l)))∧Below W.heap.size W w':=sayU_any v wd l hwd hll hr W hv (lI (Jl hE.t br hle))
structure JN (B:Nat) (w:World) (vm vh vo:Value) (s:St):Prop where
  o1:w.ownsRow B 5 1 vm s.mem.length (s.mem.map (Value.int .u8))
  o2:w.ownsRow B 43 37 vh s.harts.length (s.harts.flatMap qJ)
  out:Ints .u32 w vo s.out
  far:∀q,vo.ownBlock=some q→B≤q
  wf:s.Wf
  oks:∀x∈s.harts,x.ok=true
  lim:s.harts.length≤4∧s.out.length≤1000000∧s.steps≤1000000
theorem JN.below{B:Nat}{w w':World}{vm vh vo:Value}{s:St}(h:JN B w vm vh vo s)(hb:Below w.heap.size w w'):JN B w' vm vh vo s:=⟨qQ h.o1 hb,qQ h.o2 hb,h.out.below hb,h.far,h.wf,h.oks,h.lim⟩
theorem JN.keep{B:Nat}{w w':World}{vm vh vo:Value}{s:St}(h:JN B w vm vh vo s)(hk:∀q,B≤q→w'.heap[q]? =w.heap[q]?):JN B w' vm vh vo s:=⟨qI h.o1 (fun g e=>hk g (h.o1.lt g e).1),qI h.o2 (fun g e=>hk g (h.o2.lt g e).1),QZ h.out (fun g e=>hk g (h.far g e)),h.far,h.wf,h.oks,h.lim⟩
theorem JN.mono{B B':Nat}{w:World}{vm vh vo:Value}{s:St}(h:JN B w vm vh vo s)(hB:B'≤B):JN B' w vm vh vo s:=⟨qg h.o1 hB,qg h.o2 hB,h.out,fun q e=>Nat.le_trans hB (h.far q e),h.wf,h.oks,h.lim⟩
theorem pshown_any{pb:Nat}{vm vh vp vd:Value}{us:List UndD}{w:World}{p:PlD}(hp:PAt pb vm vh vp vd us w p)(vm2 vh2 vo:Value)(s:St)(steps e:Int)(HE:Hid (Env pb w))(he:0≤e∧e≤1000)(hz:(∃a n c,vm2=.slice a n c)∧(∃a n c,vh2=.slice a n c)∧∃a n c,vo=.slice a n c)(h0:e=0→steps=s.steps∧JN (pb+1) w vm2 vh2 vo s):
    Calls Tryz.prog 14 #[.pointer (some ⟨pb,0,none⟩),.agg #[vm2,vh2,vo,.int .i64 steps],.int .i64 e] w fun e' w'=>e'=.returned (.string (bs (ranS p s e).1))∧PlAt pb w' (ranS p s e).2∧Below pb w w':=by
  obtain⟨⟨a1,n1,c1',rfl⟩,⟨a2,n2,c2',rfl⟩,a3,n3,c3',rfl⟩:=hz
  have c0:=hp.at_.get (j:=0) rfl
  have c1:=hp.at_.get (j:=1) rfl
  have c2:=hp.at_.get (j:=2) rfl
  simp only[sM]at c0 c1 c2
  have f0:=hp.frz 0
  have f1:=hp.frz 1
  have f2:=hp.frz 2
  have hlt:=hp.lt
  have HP:=lI hp
  have H0:=lI h0
  obtain⟨w1,hw1⟩:∃w1,w1=w.alloc (.cells #[.slice a1 n1 c1',.slice a2 n2 c2',.slice a3 n3 c3',.int .i64 steps] 50):=⟨_,rfl⟩
  have hb1:Below w.heap.size w w1:=zG
  have s0:(w1).cell? ⟨w.heap.size,0,none⟩=some (.slice a1 n1 c1'):=zA
  have s1:(w1).cell? ⟨w.heap.size,1,none⟩=some (.slice a2 n2 c2'):=zA
  have s2:(w1).cell? ⟨w.heap.size,2,none⟩=some (.slice a3 n3 c3'):=zA
  have s3:(w1).cell? ⟨w.heap.size,3,none⟩=some (.int .i64 steps):=zA
  have hs1:w.heap.size<w1.heap.size:=zP
  have HW1:=lI hw1
  have HB1:=lI hb1
  clear hp h0 hw1
  go_enter Tryz.func14,Tryz.ntmps14
  go_upto_region 1 with(fail)
  rw[←HW1.out]
  by_cases hz0:e=0
  · subst hz0
    obtain⟨hst,hR⟩:=H0.out rfl
    subst hst
    have HRA:=lI hR
    clear hR
    have x0:=(hb1.cell (p:=⟨pb,0,none⟩) hlt).trans c0
    have x1:=(hb1.cell (p:=⟨pb,1,none⟩) hlt).trans c1
    have x2:=(hb1.cell (p:=⟨pb,2,none⟩) hlt).trans c2
    have g0:=(hb1.frozen (p:=⟨pb,0,none⟩) hlt).trans f0
    have g1:=(hb1.frozen (p:=⟨pb,1,none⟩) hlt).trans f1
    have g2:=(hb1.frozen (p:=⟨pb,2,none⟩) hlt).trans f2
    clear c0 c1 c2 f0 f1 f2
    have HRB:=lI (HRA.out.below HB1.out)
    have HPM:=lI (HP.out.mach HB1.out HRB.out.o1 HRB.out.o2 (m2:=s.mach) ⟨HRB.out.wf.mem,HRB.out.wf.harts⟩ HRB.out.oks HRB.out.wf.mlen HRB.out.lim.1)
    have hou:=HRB.out.wf.out
    have hol:=HRB.out.lim.2.1
    have hsl:=HRB.out.lim.2.2
    obtain⟨wz,hwz⟩:∃wz,wz=((w1.setCell ⟨pb,0,none⟩ (.slice a1 n1 c1')).setCell ⟨pb,1,none⟩ (.slice a2 n2 c2')).setCell ⟨pb,2,none⟩ (.slice none 0 0):=⟨_,rfl⟩
    have HWZ:=lI hwz
    rw[←hwz]at HPM
    have hkz:∀q,pb<q→wz.heap[q]? =w1.heap[q]? :=fun q hq=>by
      rw[hwz]
      exact((sT _ _ _ _ yY).trans (sT _ _ _ _ yY)).trans (sT _ _ _ _ yY)
    have hsz:wz.heap.size=w1.heap.size:=by rw[hwz];simp[World.setCell]
    have HOZ:Hid (Ints .u32 wz (.slice a3 n3 c3') s.out):=lI (QZ HRB.out.out (fun q e=>hkz q (HRB.out.far q e)))
    have z2:=(qA (hkz _ hlt) 2).trans s2
    have z3:=(qA (hkz _ hlt) 3).trans s3
    have HRS:Hid (ranS p s 0=(sayS (sayS [114,97,110] [(s.steps:Int)]) s.out,{p with m:=s.mach,ps:=[]})):=lI (if_pos rfl)
    have HSZ:=lI hsz
    clear hsz hwz hkz HRA HRB H0
    go_upto_region 4 with(fail)
    rw[←HWZ.out]
    clear x0 x1 x2 g0 g1 g2 s0 s1 s2 s3
    refine wp_region_held_drew (S:=fun W=>W.cell? ⟨w.heap.size,2,none⟩=some (.slice a3 n3 c3')∧W.cell? ⟨w.heap.size,3,none⟩=some (.int .i64 s.steps)) kr ⟨z2,z3⟩ (fun hHeld=> ?_)
    refine tak 0 (.pointer (some ⟨w.heap.size,3,none⟩)) ?_
    try simp only[sA,sB,sC,Act.put,sD,sE,sG]
    refine tak 1 (.int .i64 s.steps) ?_
    try simp only[sA,sB,sC,Act.put,sD,sE,sG]
    refine tak 4 (.pointer (some ⟨w.heap.size,2,none⟩)) ?_
    try simp only[sA,sB,sC,Act.put,sD,sE,sG]
    refine tak 5 (.slice a3 n3 c3') ?_
    try simp only[sA,sB,sC,Act.put,sD,sE,sG]
    refine wpAnyH_ready (rs:=[2]) kr zC ?_
    refine sS rfl (fun K hK=> ?_) AllReadyH.nil
    go_simp
    obtain⟨wa,hwa⟩:∃wa,wa=(wz.alloc (.cells #[.int .i64 s.steps] 3)).drew:=⟨_,rfl⟩
    have hba:Below wz.heap.size wz wa:=by rw[hwa];exact Below.drew (Below.alloc br (sN _) _)
    have hva:Ints .i64 wa (.slice (some ⟨wz.heap.size,0,none⟩) 1 1) [(s.steps:Int)]:=by rw[hwa];exact(Qv .i64 wz [(s.steps:Int)] 3 zC).below (Below.drew br)
    rw[←hwa]
    clear hwa
    have hwzl:w.heap.size<wz.heap.size:=by rw[HSZ.out];omega
    have HBZ:=lI (HPM.out.2)
    have HEZ:=lI ((HE.out.keep HBZ.out).keep (hba.mono om))
    have HSI:=lI (UN (pb:=pb) (wd:=[114,97,110]) zF zC (by intro m hm;rw[List.mem_singleton]at hm;rw[hm];omega) hva HEZ.out (by have:=hba.size;omega))
    refine hK.out _ _ ⟨(hba.cell (p:=⟨w.heap.size,2,none⟩) hwzl).trans z2,(hba.cell (p:=⟨w.heap.size,3,none⟩) hwzl).trans z3⟩ (fun hHeld2=> ?_)
    clear hK K
    refine wpAnyH_ready (rs:=[3]) kr zC ?_
    refine sS rfl (fun K hK=> ?_) AllReadyH.nil
    go_simp
    refine HSI.out.mono ?_
    rintro e3 wb ⟨rfl,hbb⟩
    have hsa:=hba.size
    have hzb:=hba.trans (hbb.mono hsa)
    have HZB:=lI hzb
    have HSU:=lI (JW (pb:=pb) (wd:=sayS [114,97,110] [(s.steps:Int)]) (by
      have:=uB [(s.steps:Int)] [114,97,110] (by intro m hm;rw[List.mem_singleton]at hm;rw[hm];omega)
      simp at this
      omega) om (fun x hx=>by have:=hou x hx;unfold U32 at this;omega) (HOZ.out.below hzb) ((HE.out.keep HBZ.out).keep (hzb.mono om)) (by have:=hzb.size;omega))
    refine hK.out _ _ ⟨(hzb.cell (p:=⟨w.heap.size,2,none⟩) hwzl).trans z2,(hzb.cell (p:=⟨w.heap.size,3,none⟩) hwzl).trans z3⟩ (fun hHeld3=> ?_)
    clear hK K hva hba hbb
    refine wpAnyH_ready (rs:=[6]) kr zC ?_
    refine sS rfl (fun K hK=> ?_) AllReadyH.nil
    go_simp
    refine HSU.out.mono ?_
    rintro e3 wc ⟨rfl,hbc⟩
    have hzc:=hzb.trans (hbc.mono hzb.size)
    refine hK.out _ _ ⟨(hzc.cell (p:=⟨w.heap.size,2,none⟩) hwzl).trans z2,(hzc.cell (p:=⟨w.heap.size,3,none⟩) hwzl).trans z3⟩ (fun hHeld4=> ?_)
    clear hK K
    refine tak 7 (.string (bs (sayS (sayS [114,97,110] [(s.steps:Int)]) s.out))) ?_
    try simp only[sA,sB,sC,Act.put,sD,sE,sG]
    refine wpAnyH_done kr ?_ _
    have HZC:=lI hzc
    clear hzc hbc hzb
    go_wp2_with fail
    go_ret
    rw[HRS.out]
    exact⟨rfl,⟨_,_,_,_,_,HPM.out.1.below HZC.out⟩,HBZ.out.trans (HZC.out.mono om)⟩
  · have hn:(e==0)=false:=by simpa using hz0
    have HRS:Hid (ranS p s e=(sayS [98,97,100] [e],p)):=lI (if_neg hz0)
    have HS:=lI (say1_any w1 pb [98,97,100] e zF ⟨om,om⟩ (by have:=hb1.size;omega) (HE.out.keep (hb1.mono (Nat.le_of_lt hlt))))
    clear c0 c1 c2 f0 f1 f2 s0 s1 s2 s3 hb1
    go_wp2_with fail
    refine HS.out.mono ?_
    rintro e2 w3 ⟨rfl,hb3⟩
    have HB3:=lI hb3
    clear hb3
    go_wp2_with fail
    go_ret
    have hb:Below w.heap.size w w3:=HB1.out.trans ((((Below.refl w1.heap.size w1).alloc (sN _) _).trans (HB3.out.mono zC)).mono HB1.out.size)
    rw[HRS.out]
    exact⟨rfl,⟨_,_,_,_,_,HP.out.below hb⟩,hb.mono (Nat.le_of_lt hlt)⟩
open Go.RowKit Fb
end Go.Proofs.YtlfnddmncbkjaabGreatDoor.W
namespace Go.Proofs.YtlfnddmncbkjaabGreatDoor.Fb
open Go.RowKit
theorem list32{l:List Int}(h:l.length=32):∃a0 a1 a2 a3 a4 a5 a6 a7 a8 a9 a10 a11 a12 a13 a14 a15 a16 a17 a18 a19 a20 a21 a22 a23 a24 a25 a26 a27 a28 a29 a30 a31:Int,l=[a0,a1,a2,a3,a4,a5,a6,a7,a8,a9,a10,a11,a12,a13,a14,a15,a16,a17,a18,a19,a20,a21,a22,a23,a24,a25,a26,a27,a28,a29,a30,a31]:=by
  match l,h with
  |[a0,a1,a2,a3,a4,a5,a6,a7,a8,a9,a10,a11,a12,a13,a14,a15,a16,a17,a18,a19,a20,a21,a22,a23,a24,a25,a26,a27,a28,a29,a30,a31],_=>exact⟨a0,a1,a2,a3,a4,a5,a6,a7,a8,a9,a10,a11,a12,a13,a14,a15,a16,a17,a18,a19,a20,a21,a22,a23,a24,a25,a26,a27,a28,a29,a30,a31,rfl⟩
theorem wpList_buildV{P:Program}{ops:Array Oper}{rest:List Oper}{o:Oper}{a:Act}{w:World}{Q:Exit→Act→World→Prop}(hgd:o.guard=none)(t:TypeId)(ps:Array (Nat × Operand))(ho:o.op=.build t ps)(vs:Array (Nat × Value))(hv:(ps.map fun(i,x)=>(i,a.eval x))=vs)
    (v:Value) (hr:(Instr.build t vs).run P w=.ok v w) (h:wpList P ops Q rest (a.put o.dst v) w):wpList P ops Q (o::rest) a w:=
  wpList_plain hgd fun K hK=>by
    unfold Oper.wp execOp
    simp only[ho,hv,Sem.run_bind,hr,Result.andThen_ok]
    exact hK _ _ h
end Go.Proofs.YtlfnddmncbkjaabGreatDoor.Fb
namespace Go.Proofs.YtlfnddmncbkjaabGreatDoor.W
open Go.RowKit Fb
end Go.Proofs.YtlfnddmncbkjaabGreatDoor.W
