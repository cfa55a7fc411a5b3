import Derived.Test.YtlfnddmncbkjaacGreatZGC
set_option linter.unusedVariables false
set_option linter.unusedSimpArgs false
set_option maxRecDepth 100000
set_option maxHeartbeats 4000000
namespace Go.Proofs.YtlfnddmncbkjaacGreat.Fb
open Go.RowKit
def QN(d:RunD)(cp:Nat)(vs:Value)(steps:Int):List Value:=
  [.pointer (some ⟨cp,0,none⟩),.int .u32 d.bf,.int .u32 d.bt,.int .i64 (steps-d.steps),.int .i64 d.steps,vs]++(d.temps.map (Value.int .u32)++[.int .u32 d.here,.bool d.own])
def RunD.core(d:RunD)(fr tw:Int):qD:=⟨d.h,d.m,d.out,fr,tw⟩
structure R8 (rp cp hb po:Nat) (vm:Value) (TU TS TR:TypeId) (w:World) (d:RunD) (vs:Value) (steps fr tw:Int):Prop where
  wf:d.Wf
  olen:d.out.length≤1099511627776
  mmax:d.m.length≤4096
  ufr:U32 fr
  utw:U32 tw
  core:qP cp hb po vm TU w (d.core fr tw)
  lt:cp<rp
  at_:At w rp 0 (QN d cp vs steps)
  frz:∀o,w.frozen? ⟨rp,o,none⟩=false
  ty:∃cs f,w.heap[rp]? =some (.cells cs TR f)
  sto:w.ownsRow (rp+1) TS 2 vs d.stores.length (d.stores.flatMap rg)
structure G8 (rp:Nat) (TU:TypeId) (cp hb po:Nat) (vm:Value) (w w':World):Prop where
  os:w'.os=w.os
  tape:w'.tape=w.tape
  output:w'.output=w.output
  size:w.heap.size≤w'.heap.size
  block:∀k,k<w.heap.size→k≠hb→vm.ownBlock≠some k→(k<cp∨(cp<k∧k<rp∧∀cs f,w.heap[k]? ≠some (.cells cs TU f)))→w'.heap[k]? =w.heap[k]?
  cell:∀o,(o<po∨po+37≤o)→w'.cell? ⟨hb,o,none⟩=w.cell? ⟨hb,o,none⟩
theorem jx{w:World}{b i:Nat}{v:Value}{T:TypeId}(h:∃cs f,w.heap[b]? =some (.cells cs T f)):∃cs f,(w.setCell ⟨b,i,none⟩ v).heap[b]? =some (.cells cs T f):=by
  obtain⟨cs,f,h⟩:=h
  simp only[World.setCell,Array.getElem?_modify]
  rw[if_pos trivial,h]
  exact⟨_,_,rfl⟩
section
variable {rp cp hb po : Nat} {vm : Value} {TU TS TR : TypeId} {w w' w'' : World} {d d' : RunD} {vs : Value} {steps fr tw : Int}
theorem G8.refl:G8 rp TU cp hb po vm w w:=⟨rfl,rfl,rfl,sO _,fun _ _ _ _ _=>rfl,fun _ _=>rfl⟩
theorem G8.trans(h:G8 rp TU cp hb po vm w w')(k:G8 rp TU cp hb po vm w' w''):G8 rp TU cp hb po vm w w'':=
  ⟨k.os.trans h.os,k.tape.trans h.tape,k.output.trans h.output,Nat.le_trans h.size k.size,fun j h0 h1 h2 h3=>by
    have e:=h.block j h0 h1 h2 h3
    refine(k.block j (Nat.lt_of_lt_of_le h0 h.size) h1 h2 ?_).trans e
    rw[e];exact h3,fun o ho=>(k.cell o ho).trans (h.cell o ho)⟩
theorem G8.below(hb':Below w.heap.size w w')(hc:hb<w.heap.size):G8 rp TU cp hb po vm w w':=⟨hb'.os,hb'.tape,hb'.output,hb'.size,fun k h0 _ _ _=>hb'.block k h0,fun o _=>hb'.cell (p:=⟨hb,o,none⟩) hc⟩
theorem G8.cgo(h:Cgo cp hb po vm TU w w')(_:hb<w.heap.size):G8 rp TU cp hb po vm w w':=
  ⟨h.os,h.tape,h.output,h.size,fun k h0 h1 h2 h3=>h.block k h0 h1 h2 (h3.imp id (fun h4=>⟨h4.1,h4.2.2⟩)),h.cell⟩
theorem G8.set(hh:cp≤rp∧hb<rp)(o:Nat)(v:Value):G8 rp TU cp hb po vm w (w.setCell ⟨rp,o,none⟩ v):=
  ⟨rfl,rfl,rfl,by simp,fun k _ _ _ h3=>sY _ _ _ _ (by show k≠rp;omega),fun o2 _=>sJ _ _ _ _ yL⟩
theorem r8_len(ht:d.temps.length=4):(QN d cp vs steps).length=12:=by simp[QN,ht]
theorem QT(j:Nat)(hj:j<6):(QN d cp vs steps)[j]? =[Value.pointer (some ⟨cp,0,none⟩),.int .u32 d.bf,.int .u32 d.bt,.int .i64 (steps-d.steps),.int .i64 d.steps,vs][j]? :=by
  unfold QN
  rw[List.getElem?_append_left (by simpa using hj)]
theorem r8_temp(ht:d.temps.length=4){k:Nat}(hk:k<4):(QN d cp vs steps)[6+k]? =some (.int .u32 (d.temps.getD k 0)):=by
  unfold QN
  rw[List.getElem?_append_right zG,List.getElem?_append_left zB]
  simp[List.getD,show k<d.temps.length by omega]
theorem Jr(ht:d.temps.length=4)(j:Nat):(QN d cp vs steps)[10+j]? =[Value.int .u32 d.here,.bool d.own][j]? :=by
  unfold QN
  rw[List.getElem?_append_right zB,List.getElem?_append_right (by simp[ht];omega)]
  congr 1
  simp[ht];omega
theorem r8_setTemp(ht:d.temps.length=4){k:Nat}(hk:k<4)(x:Int):(QN d cp vs steps).set (6+k) (.int .u32 x)=QN {d with temps:=d.temps.set k x} cp vs steps:=by
  unfold QN
  rw[List.set_append_right _ _ zG,List.set_append_left _ _ zB,List.map_set]
  simp
theorem r8_setEnd(ht:d.temps.length=4){j:Nat}{v:Value}(h1:d'.bf=d.bf)(h2:d'.bt=d.bt)(h3:d'.steps=d.steps)(h4:d'.temps=d.temps)(e:[Value.int .u32 d'.here,.bool d'.own]=[Value.int .u32 d.here,.bool d.own].set j v):
    (QN d cp vs steps).set (10+j) v=QN d' cp vs steps:=by
  unfold QN
  rw[List.set_append_right _ _ zB,List.set_append_right _ _ (by simp[ht];omega),h1,h2,h3,h4,e]
  congr 3
  simp[ht];omega
theorem qP.keeps{ty:TypeId}{d:qD}(h:qP cp hb po vm ty w d)(hs:w.heap.size≤w'.heap.size)(hk:∀k,k<w.heap.size→(k≤cp∨∃cs f,w.heap[k]? =some (.cells cs ty f))→w'.heap[k]? =w.heap[k]?):qP cp hb po vm ty w' d:=by
  have h1:=h.lt
  have h2:=h.hlt
  have hbl:=h.hbl
  have e1:=hk cp h1 (.inl (sO _))
  have e2:=hk hb h2 (.inl om)
  refine⟨h.hbl,(qE e1 _).trans h.ptr,(qE e1 _).trans h.mem,(qE e1 _).trans h.fr,(qE e1 _).trans h.tw,fun o=>(qW e1 o).trans (h.frz o),fun j hj=>(qE e2 _).trans (h.hart j hj),fun o=>(qW e2 o).trans (h.hfz o), ?_,fun b off n c e=> ?_, ?_,h.mlt⟩
  · refine r7ints_keep h.bytes (fun hn q e=> ?_)
    have hq:=h.mlt q e
    exact hk q om (.inl om)
  · obtain⟨x1,x2,x3,x4⟩:=h.mfz b off n c e
    have e3:=hk b x3 (.inl om)
    exact⟨x1,x2,Nat.lt_of_lt_of_le x3 hs,fun o=>(qW e3 o).trans (x4 o)⟩
  · obtain⟨vo,y1,y2⟩:=h.row
    refine⟨vo,(qE e1 _).trans y1,QF y2 (fun g e=> ?_)⟩
    refine hk g (y2.lt g e).2 (.inr ?_)
    rcases y2.2 with⟨rfl,_⟩|⟨g1,_,c1,rfl,_,q1,_⟩
    · cases e
    · cases e
      exact⟨_,_,q1⟩
theorem R8.rlt(h:R8 rp cp hb po vm TU TS TR w d vs steps fr tw):rp<w.heap.size:=by
  have h1:=h.at_ 0 (by rw[r8_len h.wf.tlen];omega)
  exact qH h1
theorem R8.clt(h:R8 rp cp hb po vm TU TS TR w d vs steps fr tw):hb<w.heap.size:=by have:=h.rlt;have:=h.lt;have:=h.core.hbl;omega
theorem R8.lts(h:R8 rp cp hb po vm TU TS TR w d vs steps fr tw):cp≤rp∧hb<rp:=by have:=h.lt;have:=h.core.hbl;omega
theorem R8.below(h:R8 rp cp hb po vm TU TS TR w d vs steps fr tw)(hb':Below w.heap.size w w'):R8 rp cp hb po vm TU TS TR w' d vs steps fr tw:=by
  have h1:=h.rlt
  obtain⟨cs,f,hty⟩:=h.ty
  exact⟨h.wf,h.olen,h.mmax,h.ufr,h.utw,h.core.below hb',h.lt,h.at_.below hb',fun o=>(hb'.frozen (p:=⟨rp,o,none⟩) h1).trans (h.frz o),⟨cs,f,(hb'.block rp h1).trans hty⟩,qy h.sto hb'⟩
theorem own_type{B:Nat}{e:TypeId}{k:Nat}{v:Value}{n:Nat}{xs:List Value}(h:w.ownsRow B e k v n xs){g:Nat}(hg:v.ownBlock=some g):∃cs f,w.heap[g]? =some (.cells cs e f):=by
  rcases h.2 with⟨rfl,_⟩|⟨g1,_,c1,rfl,_,q1,_⟩
  · cases hg
  · cases hg
    exact⟨_,_,q1⟩
theorem R8.cgo(h:R8 rp cp hb po vm TU TS TR w d vs steps fr tw){fr' tw':Int}(hc:qP cp hb po vm TU w' (d'.core fr' tw'))(hg:Cgo cp hb po vm TU w w')(hR:TR≠TU)(hS:TS≠TU)
    (wf:d'.Wf) (ho:d'.out.length≤1099511627776) (hm:d'.m.length≤4096) (hf:U32 fr') (ht:U32 tw') (e1:d'.bf=d.bf) (e2:d'.bt=d.bt) (e3:d'.steps=d.steps) (e4:d'.temps=d.temps) (e5:d'.here=d.here) (e6:d'.own=d.own) (e7:d'.stores=d.stores):
    R8 rp cp hb po vm TU TS TR w' d' vs steps fr' tw':=by
  have h1:=h.rlt
  have h2:=h.lt
  have h3:=h.core.hbl
  obtain⟨cs,f,hty⟩:=h.ty
  have hrp:w'.heap[rp]? =w.heap[rp]? :=hg.block rp h1 om (fun e=>by have:=h.core.mlt _ e;omega) (.inr ⟨h2,fun cs2 f2 e=>by rw[hty]at e;cases e;exact hR rfl⟩)
  have hl:QN d' cp vs steps=QN d cp vs steps:=by unfold QN;rw[e1,e2,e3,e4,e5,e6]
  refine⟨wf,ho,hm,hf,ht,hc,h2, ?_,fun o=>(qW hrp o).trans (h.frz o),⟨cs,f,hrp.trans hty⟩, ?_⟩
  · rw[hl];exact fun j hj=>(qE hrp _).trans (h.at_ j hj)
  · rw[e7]
    refine QF h.sto (fun g e=> ?_)
    have hg2:=h.sto.lt g e
    obtain⟨cs3,f3,hty3⟩:=own_type h.sto e
    exact hg.block g hg2.2 om (fun e=>by have:=h.core.mlt _ e;omega) (.inr ⟨om,fun cs2 f2 e=>by rw[hty3]at e;cases e;exact hS rfl⟩)
theorem R8.setCell2{steps':Int}(h:R8 rp cp hb po vm TU TS TR w d vs steps fr tw)(hR:TR≠TU)(i:Nat)(hi:i<12)(v:Value)(hl:(QN d cp vs steps).set i v=QN d' cp vs steps')(hh:d'.h=d.h)(hm:d'.m=d.m)(ho:d'.out=d.out)(hs:d'.stores=d.stores)(wf:d'.Wf):
    R8 rp cp hb po vm TU TS TR (w.setCell ⟨rp,i,none⟩ v) d' vs steps' fr tw:=by
  have h1:=h.rlt
  have h2:=h.lt
  obtain⟨cs,f,hty⟩:=h.ty
  refine⟨wf,by rw[ho];exact h.olen,by rw[hm];exact h.mmax,h.ufr,h.utw, ?_,h2, ?_,fun o=>(sL _ _ _ _).trans (h.frz o),jx h.ty, ?_⟩
  · have e:d'.core fr tw=d.core fr tw:=by unfold RunD.core;rw[hh,hm,ho]
    rw[e]
    refine h.core.keeps zG (fun k hk hor=>sY _ _ _ _ ?_)
    show k≠rp
    rcases hor with h3|⟨cs2,f2,h3⟩
    · omega
    · intro e2;subst e2;rw[hty]at h3;cases h3;exact hR rfl
  · have:=h.at_.set i (by rw[r8_len h.wf.tlen];exact hi) v
    rw[sM,hl]at this
    exact this
  · rw[hs];exact ownsRow_setCell_below h.sto (a:=⟨rp,i,none⟩) (Nat.lt_succ_self rp) v
theorem R8.setCell(h:R8 rp cp hb po vm TU TS TR w d vs steps fr tw)(hR:TR≠TU)(i:Nat)(hi:i<12)(v:Value)(hl:(QN d cp vs steps).set i v=QN d' cp vs steps)(hh:d'.h=d.h)(hm:d'.m=d.m)(ho:d'.out=d.out)(hs:d'.stores=d.stores)(wf:d'.Wf):
    R8 rp cp hb po vm TU TS TR (w.setCell ⟨rp,i,none⟩ v) d' vs steps fr tw:=h.setCell2 hR i hi v hl hh hm ho hs wf
theorem r8_sto{w2 w3:World}{v':Value}(h:R8 rp cp hb po vm TU TS TR w d vs steps fr tw)(hR:TR≠TU)(hS:TS≠TU)(hb':Below w.heap.size w w2){p:Int × Int}(hp:U32 p.1∧U32 p.2)
    (hown:w3.ownsRow (rp+1) TS 2 v' (d.stores.length+1) (d.stores.flatMap rg++rg p)) (hg:w2.grownBy w3 vs.ownBlock):
    R8 rp cp hb po vm TU TS TR (w3.setCell ⟨rp,5,none⟩ v') {d with stores:=d.stores++[p]} v' steps fr tw∧G8 rp TU cp hb po vm w (w3.setCell ⟨rp,5,none⟩ v'):=by
  have h2:=h.below hb'
  have h1:=h2.rlt
  have h3:=h2.lt
  obtain⟨cs,f,hty⟩:=h2.ty
  have hrp:vs.ownBlock≠some rp:=fun e=>by have:=(h2.sto.lt rp e).1;omega
  have e2:∀k,k<w2.heap.size→vs.ownBlock≠some k→w3.heap[k]? =w2.heap[k]? :=fun k hk1 hk2=>hg.block k hk1 (fun e=>hk2 e.symm)
  have hwf:({d with stores:=d.stores++[p]}:RunD).Wf:={h.wf with stores:=fun q hq=>(List.mem_append.1 hq).elim (h.wf.stores q) (fun hq=>(List.mem_singleton.1 hq) ▸ hp)}
  have hcore:qP cp hb po vm TU w3 (d.core fr tw):=h2.core.keeps hg.size (fun k hk hor=>e2 k hk (fun e=>by
    have hl:=h2.sto.lt k e
    rcases hor with h4|⟨cs2,f2,h4⟩
    · omega
    · obtain⟨cs3,f3,h5⟩:=own_type h2.sto e
      rw[h4]at h5;cases h5;exact hS rfl))
  have hat:At w3 rp 0 (QN d cp vs steps):=fun j hj=>(World.cell?_of_block (e2 rp h1 hrp)).trans (h2.at_ j hj)
  have hl:(QN d cp vs steps).set 5 v'=QN {d with stores:=d.stores++[p]} cp v' steps:=by
    unfold QN
    rw[List.set_append_left _ _ zG]
    rfl
  refine⟨⟨hwf,h.olen,h.mmax,h.ufr,h.utw, ?_,h3, ?_,fun o=>(sL _ _ _ _).trans ((qW (e2 rp h1 hrp) o).trans (h2.frz o)),jx ⟨cs,f,(e2 rp h1 hrp).trans hty⟩, ?_⟩, ?_⟩
  · refine qP.keeps hcore zG (fun k hk hor=>sY _ _ _ _ ?_)
    show k≠rp
    rcases hor with h4|⟨cs2,f2,h4⟩
    · omega
    · intro e3;subst e3;rw[e2 k h1 hrp,hty]at h4;cases h4;exact hR rfl
  · have:=hat.set 5 (by rw[r8_len h.wf.tlen];omega) v'
    rw[sM,hl]at this
    exact this
  · have:=ownsRow_setCell_below hown (a:=⟨rp,5,none⟩) (Nat.lt_succ_self rp) v'
    simpa using this
  · have hc:=h.clt
    refine(G8.below hb' hc).trans (G8.trans (w':=w3) ⟨hg.os,hg.tape,hg.output,hg.size,fun k h0 _ _ hk=>e2 k h0 (fun e=>by have:=(h2.sto.lt k e).1;omega),fun o _=>qE (e2 hb h2.clt (fun e=>by have:=(h2.sto.lt hb e).1;have:=h2.core.hbl;omega)) o⟩ (G8.set h2.lts _ _))
theorem R8.setFrTo(h:R8 rp cp hb po vm TU TS TR w d vs steps fr tw)(hR:TR≠TU)(hS:TS≠TU):R8 rp cp hb po vm TU TS TR ((w.setCell ⟨cp,3,none⟩ (.int .u32 0)).setCell ⟨cp,4,none⟩ (.int .u32 0)) d vs steps 0 0∧G8 rp TU cp hb po vm w ((w.setCell ⟨cp,3,none⟩ (.int .u32 0)).setCell ⟨cp,4,none⟩ (.int .u32 0)):=by
  have hbl:=h.core.hbl
  have hc:=(h.core.setFr 0).setTo 0
  have hg:Cgo cp hb po vm TU w ((w.setCell ⟨cp,3,none⟩ (.int .u32 0)).setCell ⟨cp,4,none⟩ (.int .u32 0)):=(Cgo.setCore w hbl 3 _).trans (Cgo.setCore _ hbl 4 _)
  exact⟨h.cgo (d':=d) (fr':=0) (tw':=0) hc hg hR hS h.wf h.olen h.mmax JF JF rfl rfl rfl rfl rfl rfl rfl,G8.cgo hg h.clt⟩
end
theorem hits_ends{a bf bt:Int}{n:Nat}(ha:0≤a)(hn:0<n)(hle:a+n≤4294967295):hits a bf bt n=(decide (bf<bt)&&decide (a<bt)&&decide (bf<a+n)):=by
  have e:∀k:Nat,k<n→u32 (a+(k:Int))=a+k:=fun k hk=>by unfold u32;omega
  rw[Bool.eq_iff_iff]
  unfold hits
  simp only[List.any_eq_true,List.mem_range,decide_eq_true_eq,Bool.and_eq_true]
  constructor
  · rintro⟨k,hk,h1,h2⟩
    rw[e k hk]at h1 h2
    omega
  · rintro⟨⟨h1,h2⟩,h3⟩
    by_cases hc:bf≤a
    · exact⟨0,hn,by rw[e 0 hn];omega⟩
    · exact⟨(bf-a).toNat,om,by rw[e _ om];omega⟩
def RunD.core0(d:RunD):qD:=⟨d.h,d.m,[],0,0⟩
def own8(bf bt:Int)(c:qD):Bool:=decide (c.fr<c.tw)&&(decide (c.fr<bt)&&decide (bf<c.tw))
def jU(d:RunD):RunD:={d with h:=(goS d.core0).h,m:=(goS d.core0).m,out:=d.out++(goS d.core0).out,steps:=d.steps+1,stores:=if(goS d.core0).fr<(goS d.core0).tw then d.stores++[((goS d.core0).fr,(goS d.core0).tw)]else d.stores}
def brk8(bf bt p:Int)(c:qD):Bool:=c.h.state !=0||c.h.pc !=p||own8 bf bt c
def pl8(pc:Int)(k:Nat):Int:=u32 (pc+u32 (4*(k:Int)))
def JH(bf bt steps:Int):Nat→Nat→RunD→RunD
  |0,_,d=>d
  |n+1,k,d=>if d.steps<steps then(if brk8 bf bt (pl8 bf (k+1)) (goS d.core0)=true then jU d else JH bf bt steps n (k+1) (jU d))else d
structure Did8 (d e:RunD) (c:qD) (p:Int) (last:Bool):Prop where
  m:e.m=c.m
  out:e.out=d.out++c.out
  steps:e.steps=d.steps
  here:e.here=p
  tl:e.temps.length=4
  bf:e.bf=d.bf
  bt:e.bt=d.bt
  stores:e.stores=if c.fr<c.tw then d.stores++[(c.fr,c.tw)]else d.stores
  own:e.own=(d.own||own8 d.bf d.bt c)
  yes:e.over=true→e.h=c.h∧(c.h.state≠0∨last=true)
  no:e.over=false→e.h.setPc (u32 (p+4))=c.h∧c.h.state=0
structure At8 (d:RunD) (p:Int):Prop where
  over:d.over=false
  here:d.here=p
  tl:d.temps.length=4
  state:d.h.state=0
  zero:d.h.regs.getD 0 0=0
  len:d.h.regs.length=32
  regs:∀x∈d.h.regs,U32 x
  mlen:d.m.length≤4096
  b:d.bf<d.bt
def QA(d:RunD)(p:Int):qD:=⟨d.h.setPc p,d.m,[],0,0⟩
section
variable {d : RunD} {p : Int} {last : Bool}
theorem JO(bf bt:Int){c:qD}(h:¬c.fr<c.tw):own8 bf bt c=false:=by unfold own8;rw[decide_eq_false h];rfl
theorem setReg_pc(h:Hart)(p q r x:Int):(h.setReg r x).setPc q=((h.setPc p).setReg r x).setPc q:=by
  unfold Hart.setReg;split<;>rfl
theorem UH(h:Hart)(r x:Int):(h.setReg r x).state=h.state:=by unfold Hart.setReg;split<;>rfl
theorem setReg_zero'(h:Hart)(x:Int):h.setReg 0 x=h:=by unfold Hart.setReg;rw[if_neg om]
theorem UK{k:Nat}(hk:k<32)(x:Int):d.put k x={d with h:=d.h.setReg k x}:=by unfold RunD.put;rw[if_neg om]
theorem get8_h{k:Nat}(hk:k<32):d.get k=(QA d p).h.reg (k:Int):=by
  unfold RunD.get Hart.reg;rw[if_pos hk]
  simp[QA,Hart.setPc]
theorem uM(a:At8 d p){k:Nat}(hk:k<32)(x:Int):Did8 d (d.put k x) (((QA d p).set k x).setPc (u32 (p+4))) p last:=by
  rw[UK hk]
  refine⟨rfl,(List.append_nil _).symm,rfl,a.here,a.tl,rfl,rfl,rfl, ?_,fun h=>absurd (show d.over=true from h) (by rw[a.over];decide),fun _=>⟨setReg_pc d.h p _ k x, ?_⟩⟩
  · rw[JO _ _ (by show ¬(0:Int)<0;omega),Bool.or_false]<;>rfl
  · show((d.h.setPc p).setReg k x).state=0
    rw[UH];exact a.state
theorem did8_nop(a:At8 d p):Did8 d d ((QA d p).setPc (u32 (p+4))) p last:=by
  refine⟨rfl,(List.append_nil _).symm,rfl,a.here,a.tl,rfl,rfl,rfl, ?_,fun h=>absurd h (by rw[a.over];decide),fun _=>⟨rfl,a.state⟩⟩
  rw[JO _ _ (by show ¬(0:Int)<0;omega),Bool.or_false]<;>rfl
theorem uv(a:At8 d p)(c:Int):Did8 d (d.trap c) ((QA d p).trap c) p last:=by
  refine⟨rfl,(List.append_nil _).symm,rfl,a.here,a.tl,rfl,rfl,rfl, ?_,fun _=>⟨?_,.inl (by show(2:Int)≠0;decide)⟩,fun h=>by cases h⟩
  · rw[JO _ _ (by show ¬(0:Int)<0;omega),Bool.or_false]<;>rfl
  · show(d.h.trap c).setPc d.here=(d.h.setPc p).trap c
    rw[a.here];rfl
theorem did8_stop(a:At8 d p)(q:Int):Did8 d (d.stop q) ((QA d p).setPc q) p true:=by
  refine⟨rfl,(List.append_nil _).symm,rfl,a.here,a.tl,rfl,rfl,rfl, ?_,fun _=>⟨rfl,.inr rfl⟩,fun h=>by cases h⟩
  rw[JO _ _ (by show ¬(0:Int)<0;omega),Bool.or_false]<;>rfl
theorem did8_jal(a:At8 d p){k:Nat}(hk:k<32)(x q:Int):Did8 d ((d.put k x).stop q) (((QA d p).set k x).setPc q) p true:=by
  rw[UK hk]
  refine⟨rfl,(List.append_nil _).symm,rfl,a.here,a.tl,rfl,rfl,rfl, ?_,fun _=>⟨setReg_pc d.h p q k x,.inr rfl⟩,fun h=>by cases h⟩
  rw[JO _ _ (by show ¬(0:Int)<0;omega),Bool.or_false]<;>rfl
theorem did8_jalr(a:At8 d p){k:Nat}(hk:k<32)(s x q:Int):Did8 d (((d.put 32 s).put k x).stop q) (((QA d p).set k x).setPc q) p true:=by
  have e:d.put 32 s={d with temps:=d.temps.set 0 s}:=by unfold RunD.put;rw[if_pos om]
  rw[e]
  have a':At8 {d with temps:=d.temps.set 0 s} p:={a with tl:=by show(d.temps.set 0 s).length=4;rw[List.length_set];exact a.tl}
  have h:=did8_jal a' hk x q
  exact⟨h.m,h.out,h.steps,h.here,h.tl,h.bf,h.bt,h.stores,h.own,h.yes,h.no⟩
theorem jalr_get(a:At8 d p){k:Nat}(hk:k<32)(s x:Int):((d.put 32 s).put k x).get 32=s:=by
  rw[UK hk]
  unfold RunD.get RunD.put
  rw[if_neg om,if_pos om]
  obtain⟨a0,t,ht⟩:∃a0 t,d.temps=a0::t:=by
    cases h:d.temps with
    |nil=>have:=a.tl;rw[h]at this;cases this
    |cons a0 t=>exact⟨a0,t,rfl⟩
  show(d.temps.set (32-32) s).getD (32-32) 0=s
  rw[ht];rfl
theorem jl{l:List Int}{op a:Int}(h:qU l op a=true):0<qM op∧qM op≤4∧a+qM op≤l.length:=by
  unfold qU there at h
  simp only[Bool.and_eq_true,decide_eq_true_eq]at h
  refine⟨h.2.1.1, ?_,h.2.2⟩
  unfold qM;repeat' split
  all_goals omega
theorem put8_eq(a:At8 d p){op at_:Int}(x:Int)(hq:qU d.m op at_=true)(ha:0≤at_):(QA d p).put op at_ x={(QA d p)with m:=qn d.m op at_ x,fr:=at_,tw:=at_+qM op}:=by
  obtain⟨h1,h2,h3⟩:=jl hq
  have hl:=a.mlen
  unfold qD.put
  rw[if_pos (show qU (QA d p).m op at_=true from hq)]
  show({(QA d p)with m:=qn d.m op at_ x,fr:=at_,tw:=(at_+qM op)%4294967296}:qD)=_
  rw[Int.emod_eq_of_lt om om]
theorem did8_store(a:At8 d p){op at_:Int}(x:Int)(hq:qU d.m op at_=true)(ha:0≤at_)(f:Hart→Hart)(hf:∀h q,(f h).setPc q=(f (h.setPc p)).setPc q)(hs:(f (d.h.setPc p)).state=0):
    Did8 d {(d.mem op at_ x).stored at_ (qM op).toNat with h:=f d.h} {(QA d p)with h:=(f (d.h.setPc p)).setPc (u32 (p+4)),m:=qn d.m op at_ x,fr:=at_,tw:=at_+qM op} p last:=by
  obtain⟨h1,h2,h3⟩:=jl hq
  have hl:=a.mlen
  have hc:at_<at_+qM op:=om
  have hn:((qM op).toNat:Int)=qM op:=Int.toNat_of_nonneg om
  have hu:u32 (at_+((qM op).toNat:Int))=at_+qM op:=by rw[hn];unfold u32;omega
  refine⟨rfl,(List.append_nil _).symm,rfl,a.here,a.tl,rfl,rfl, ?_, ?_,fun h=> ?_,fun _=>⟨hf d.h _,hs⟩⟩
  · show d.stores++[(at_,u32 (at_+((qM op).toNat:Int)))]=if at_<at_+qM op then _ else _
    rw[if_pos hc,hu]
  · show(d.own||hits at_ d.bf d.bt (qM op).toNat)=(d.own||own8 d.bf d.bt _)
    have e2:=hits_ends (bf:=d.bf) (bt:=d.bt) ha (show 0<(qM op).toNat by omega) om
    rw[e2,hn]
    unfold own8
    show _=(d.own||(decide (at_<at_+qM op)&&(decide (at_<d.bt)&&decide (d.bf<at_+qM op))))
    rw[sW a.b,sW hc,sV,sV]
  · exact absurd (show d.over=true from h) (by rw[a.over];decide)
theorem did8_f(a:At8 d p)(f:Hart→Hart)(hf:∀h q,(f h).setPc q=(f (h.setPc p)).setPc q)(hs:(f (d.h.setPc p)).state=0):
    Did8 d {d with h:=f d.h} {(QA d p)with h:=(f (d.h.setPc p)).setPc (u32 (p+4))} p last:=by
  refine⟨rfl,(List.append_nil _).symm,rfl,a.here,a.tl,rfl,rfl,rfl, ?_,fun h=>absurd (show d.over=true from h) (by rw[a.over];decide),fun _=>⟨hf d.h _,hs⟩⟩
  rw[JO _ _ (by show ¬(0:Int)<0;omega),Bool.or_false]<;>rfl
theorem Jj(m:MicD)(st c s:Int)(hm:m.op=c+s)(hc:c=100∨c=200∨c=300∨c=400∨c=500∨c=600)(h0:0≤s)(h1:s<100):d.one m st=
    if c=100 then(if holds s (d.get m.a.toNat) (d.get m.b.toNat)=true then d.stop m.n else d)
    else if c=200 then(if qN d.m s (u32 (d.get m.a.toNat+m.n))=true then d.put m.d.toNat (qa d.m s (u32 (d.get m.a.toNat+m.n)))else d.trap 3)
    else if c=300 then(if qU d.m s (u32 (d.get m.a.toNat+m.n))=true then(d.mem s (u32 (d.get m.a.toNat+m.n)) (d.get m.b.toNat)).stored (u32 (d.get m.a.toNat+m.n)) (qM s).toNat else d.trap 4)
    else if c=400 then d.put m.d.toNat (alu s (d.get m.a.toNat) (d.get m.b.toNat))
    else if c=500 then d.put m.d.toNat (alu s (d.get m.a.toNat) m.n)
    else if c=600 then d.atom s m.d.toNat m.a.toNat m.b.toNat
    else d:=by
  obtain⟨e1,e2⟩:=jW c s hc h0 h1
  unfold RunD.one
  rw[if_neg om,if_neg om,if_neg om,if_neg om,if_neg om,if_neg om,hm,e2,e1]
theorem jM{st:Int}(m:MicD)(h:d.over=false):runL st [m] d=d.one m st:=by
  rw[runL,if_neg (by rw[h];decide)]
  rfl
theorem uf{st:Int}(m:MicD)(r:List MicD)(h:d.over=false):runL st (m::r) d=runL st r (d.one m st):=by
  rw[runL,if_neg (by rw[h];decide)]
theorem runL_append{st:Int}:∀(a b:List MicD) (d:RunD),runL st (a++b) d=runL st b (runL st a d)
  |[],b,d=>rfl
  | m :: r, b, d => by
    rw[List.cons_append,runL,runL]
    split
    · rw[ue ‹_›]
    · exact runL_append r b _
theorem Jq(rd:Nat)(n st:Int):d.one ⟨2,rd,0,0,n⟩ st=d.put rd n:=by unfold RunD.one;rw[if_neg dm,if_pos rfl];rfl
theorem atom8(a:At8 d p){op:Int}(kd ka kb:Nat)(hd:kd<32)(ha:ka<32)(hb:kb<32):
    Did8 d (d.atom op kd ka kb) (if(qY (QA d p) op ((QA d p).h.reg ka) ((QA d p).h.reg kb)).2.2=true then((qY (QA d p) op ((QA d p).h.reg ka) ((QA d p).h.reg kb)).1.set kd (qY (QA d p) op ((QA d p).h.reg ka) ((QA d p).h.reg kb)).2.1).setPc (u32 (p+4))else(qY (QA d p) op ((QA d p).h.reg ka) ((QA d p).h.reg kb)).1) p last:=by
  have e1:=get8_h (d:=d) (p:=p) ha
  have e2:=get8_h (d:=d) (p:=p) hb
  have hu:0≤d.get ka:=by
    unfold RunD.get;rw[if_pos ha]
    rw[List.getD_eq_getElem?_getD,sZ (by rw[a.len];exact ha)]
    exact(a.regs _ (sU _)).1
  rw[←e1,←e2]
  unfold RunD.atom qY
  generalize d.get ka=x at *
  by_cases c1:qN d.m 13 x=true
  · rw[if_pos c1]
    simp only[if_pos (show qN (QA d p).m 13 x=true from c1)]
    have hF:∀(b:Bool) (y z:Int) (h:Hart) (q:Int),((h.hold b y).setReg kd z).setPc q=(((h.setPc p).hold b y).setReg kd z).setPc q:=fun b y z h q=>setReg_pc (h.hold b y) p q kd z
    have hS:∀(b:Bool) (y z:Int),(((d.h.setPc p).hold b y).setReg kd z).state=0:=fun b y z=>by rw[UH];exact a.state
    have hq:qU d.m 18 x=true:=by rw[uD];exact c1
    by_cases c2:op=46
    · simp only[if_pos c2]
      rw[UK hd]
      exact did8_f a (fun h=>(h.hold true x).setReg kd (qa d.m 13 x)) (hF _ _ _) (hS _ _ _)
    · simp only[if_neg c2]
      by_cases c3:op=47
      · simp only[if_pos c3]
        by_cases c4:(d.h.held&&d.h.heldAt==x)=true
        · rw[if_pos c4]
          simp only[if_pos (show((QA d p).h.held&&(QA d p).h.heldAt==x)=true from c4)]
          rw[UK hd,put8_eq a _ hq hu,if_pos trivial]
          exact did8_store a (d.get kb) hq hu (fun h=>(h.hold false 0).setReg kd 0) (hF _ _ _) (hS _ _ _)
        · rw[if_neg c4]
          simp only[if_neg (show ¬((QA d p).h.held&&(QA d p).h.heldAt==x)=true from c4)]
          rw[UK hd]
          exact did8_f a (fun h=>(h.hold false 0).setReg kd 1) (hF _ _ _) (hS _ _ _)
      · simp only[if_neg c3]
        rw[UK hd,put8_eq a _ hq hu,if_pos trivial]
        exact did8_store a (amo op (qa d.m 13 x) (d.get kb)) hq hu (fun h=>h.setReg kd (qa d.m 13 x)) (fun h q=>setReg_pc h p q kd _) (by rw[UH];exact a.state)
  · rw[if_neg c1]
    simp only[if_neg (show ¬qN (QA d p).m 13 x=true from c1)]
    exact uv a _
theorem call8(a:At8 d p):Did8 d d.call (if(qz (QA d p)).2=true then(qz (QA d p)).1.setPc (u32 (p+4))else(qz (QA d p)).1) p true:=by
  unfold RunD.call qz
  have e:∀r,(QA d p).h.reg r=d.h.reg r:=fun r=>rfl
  simp only[e]
  by_cases c0:d.h.reg 17=0
  · simp only[if_pos c0]
    refine⟨rfl,(List.append_nil _).symm,rfl,a.here,a.tl,rfl,rfl,rfl, ?_,fun _=>⟨?_,.inr rfl⟩,fun h=>by cases h⟩
    · rw[JO _ _ (by show ¬(0:Int)<0;omega),Bool.or_false]<;>rfl
    · show({d.h with state:=1}:Hart).setPc d.here=_
      rw[a.here];rfl
  · simp only[if_neg c0]
    by_cases c1:d.h.reg 17=1
    · simp only[if_pos c1]
      refine⟨rfl,rfl,rfl,a.here,a.tl,rfl,rfl,rfl, ?_,fun h=>absurd (show d.over=true from h) (by rw[a.over];decide),fun _=>⟨rfl,a.state⟩⟩
      rw[JO _ _ (by show ¬(0:Int)<0;omega),Bool.or_false]<;>rfl
    · simp only[if_neg c1]
      exact uv a _
theorem bits0(n:Int)(hn:U32 n):bits .or .u32 0 n=n∧bits .xor .u32 0 n=n∧bits .and .u32 0 n=0:=by
  refine⟨or0 n ⟨hn.1,by have:=hn.2;omega⟩, ?_, ?_⟩
  · rw[xor32 _ _ om om hn.1 (by have:=hn.2;omega)];simp;have:=hn.1;omega
  · rw[and32 _ _ om om hn.1 (by have:=hn.2;omega)];simp
theorem num8(a:At8 d p)(op n st:Int)(kd k1:Nat)(hd:kd<32)(h1:k1<32)(hop:28≤op∧op≤45)(hn:U32 n):
    Did8 d (runL st (numM op kd k1 n) d) (((QA d p).set kd (alu op ((QA d p).h.reg k1) n)).setPc (u32 (p+4))) p last:=by
  have e1:=get8_h (d:=d) (p:=p) h1
  rw[←e1]
  unfold numM
  by_cases c1:(kd:Int)=0
  · rw[if_pos c1]
    have e:(QA d p).set kd (alu op (d.get k1) n)=QA d p:=by unfold qD.set;rw[c1,setReg_zero']
    rw[e]
    exact did8_nop a
  rw[if_neg c1]
  have hz:(k1:Int)=0→d.get k1=0:=fun e=>by
    obtain rfl:k1=0:=om
    exact a.zero
  obtain⟨b1,b2,b3⟩:=bits0 n hn
  have hu:=hn.1
  have hu2:=hn.2
  by_cases c2:(k1:Int)=0∧(op=28∨op=36∨op=33)
  · rw[if_pos c2,jM _ a.over,Jq]
    have e:alu op (d.get k1) n=n:=by
      rw[hz c2.1]
      rcases c2.2 with rfl|rfl|rfl
      · show(0+n)%4294967296=n;omega
      · exact b1
      · exact b2
    rw[e]
    exact uM a hd n
  rw[if_neg c2]
  by_cases c3:(k1:Int)=0∧(op=37∨op=30∨op=34∨op=35)
  · rw[if_pos c3,jM _ a.over,Jq]
    have e:alu op (d.get k1) n=0:=by
      rw[hz c3.1]
      rcases c3.2 with rfl|rfl|rfl|rfl
      · exact b3
      · show(0*2 ^ (n%32).toNat)%4294967296=0;rw[Int.zero_mul];rfl
      · show(0:Int) / 2 ^ (n%32).toNat=0;exact Int.zero_ediv _
      · show(wrap32 0 / 2 ^ (n%32).toNat)%4294967296=0
        rw[show wrap32 0=0 by decide+kernel,Int.zero_ediv];rfl
    rw[e]
    exact uM a hd 0
  rw[if_neg c3,jM _ a.over,Jj _ st 500 op rfl om om om]
  simp only[show ¬(500:Int)=100 by omega,show ¬(500:Int)=200 by omega,show ¬(500:Int)=300 by omega,show ¬(500:Int)=400 by omega,if_false,if_true,rA]
  exact uM a hd _
theorem body8(a:At8 d p)(i:InsD)(his:isS i=true)(hb:1≤i.op∧i.op≤59)(hr:0≤i.rd∧i.rd≤31)(hr1:0≤i.rs1∧i.rs1≤31)(hr2:0≤i.rs2∧i.rs2≤31)(st:Int):
    Did8 d (runL st (jZ i p) d) (doS i (QA d p)) p (lastB i.op):=by
  obtain⟨op,rd,rs1,rs2,imm⟩:=i
  dsimp only at hb hr hr1 hr2
  obtain⟨kd,rfl⟩:=sS hr.1
  obtain⟨k1,rfl⟩:=sS hr1.1
  obtain⟨k2,rfl⟩:=sS hr2.1
  have hd:kd<32:=om
  have h1:k1<32:=om
  have h2:k2<32:=om
  have g1:=get8_h (d:=d) (p:=p) h1
  have g2:=get8_h (d:=d) (p:=p) h2
  have hn:u32 imm=imm%4294967296:=rfl
  have hnu:U32 (u32 imm):=jG imm
  unfold jZ doS
  dsimp only
  rw[←g1,←g2,←hn]
  generalize u32 imm=n at *
  clear hn his hr hr1 hr2
  have epc:(QA d p).h.pc=p:=rfl
  have em:(QA d p).m=d.m:=rfl
  rw[epc,em]
  by_cases e1:op=1
  · subst e1
    rw[if_pos rfl,if_pos rfl,jM _ a.over,Jq]
    exact uM a hd n
  rw[if_neg e1,if_neg e1]
  by_cases e2:op=2
  · subst e2
    rw[if_pos rfl,if_pos rfl,jM _ a.over,Jq]
    exact uM a hd _
  rw[if_neg e2,if_neg e2]
  by_cases e3:op=3
  · subst e3
    rw[if_pos rfl,if_pos rfl,uf _ _ a.over,Jq,jM _ (by rw[UK hd];exact a.over)]
    exact did8_jal a hd _ _
  rw[if_neg e3,if_neg e3]
  by_cases e4:op=4
  · subst e4
    rw[if_pos rfl,if_pos rfl,uf _ _ a.over,Jj _ st 500 28 rfl om om om]
    simp only[show ¬(500:Int)=100 by omega,show ¬(500:Int)=200 by omega,show ¬(500:Int)=300 by omega,show ¬(500:Int)=400 by omega,if_false,if_true,rA]
    have e5:alu 28 (d.get k1) n=(d.get k1+n)%4294967296:=rfl
    rw[e5]
    generalize hs:(d.get k1+n)%4294967296=s
    have h32:(32:Int).toNat=32:=rfl
    rw[h32]
    have o1:(d.put 32 s).over=false:=by unfold RunD.put;rw[if_pos om];exact a.over
    rw[uf _ _ o1,Jq]
    have o2:((d.put 32 s).put kd (u32 (p+4))).over=false:=by rw[UK hd];exact o1
    rw[jM _ o2]
    have e6:((d.put 32 s).put kd (u32 (p+4))).one ⟨4,0,32,0,0⟩ st=((d.put 32 s).put kd (u32 (p+4))).stop (s-s%2):=by
      unfold RunD.one
      rw[if_neg dm,if_neg dm,if_neg dm,if_pos rfl]
      dsimp only
      rw[h32,jalr_get a hd]
      have:u32 (s+0)=s:=by unfold u32;omega
      rw[this]
    rw[e6]
    exact did8_jalr a hd s _ _
  rw[if_neg e4,if_neg e4]
  by_cases e5:op≤10
  · rw[if_pos e5,if_pos e5,jM _ a.over,Jj _ st 100 op rfl om om om]
    simp only[if_true,rA]
    have hl:lastB op=true:=by unfold lastB;rw[sW om];rfl
    rw[hl]
    by_cases c:holds op (d.get k1) (d.get k2)=true
    · rw[if_pos c,if_pos c];exact did8_stop a _
    · rw[if_neg c,if_neg c];exact did8_nop a
  rw[if_neg e5,if_neg e5]
  by_cases e6:op≤15
  · rw[if_pos e6,if_pos e6,jM _ a.over,Jj _ st 200 op rfl om om om]
    simp only[show ¬(200:Int)=100 by omega,if_false,if_true,rA]
    show Did8 d (if qN d.m op (u32 (d.get k1+n))=true then _ else _) (if qN d.m op (u32 (d.get k1+n))=true then _ else _) p _
    by_cases c:qN d.m op (u32 (d.get k1+n))=true
    · rw[if_pos c,if_pos c];exact uM a hd _
    · rw[if_neg c,if_neg c];exact uv a _
  rw[if_neg e6,if_neg e6]
  by_cases e7:op≤18
  · rw[if_pos e7,if_pos e7,jM _ a.over,Jj _ st 300 op rfl om om om]
    simp only[show ¬(300:Int)=100 by omega,show ¬(300:Int)=200 by omega,if_false,if_true,rA]
    show Did8 d (if qU d.m op (u32 (d.get k1+n))=true then _ else _) (if qU d.m op (u32 (d.get k1+n))=true then((QA d p).put op (u32 (d.get k1+n)) (d.get k2)).setPc _ else _) p _
    by_cases c:qU d.m op (u32 (d.get k1+n))=true
    · rw[if_pos c,if_pos c,put8_eq a _ c (jG _).1]
      exact did8_store a (d.get k2) c (jG _).1 (fun h=>h) (fun h q=>rfl) a.state
    · rw[if_neg c,if_neg c];exact uv a _
  rw[if_neg e7,if_neg e7]
  by_cases e8:op≤27
  · rw[if_pos e8,if_pos e8]
    have:=num8 (last:=lastB op) a (numOp op) n st kd k1 hd h1 (numOp_in op) hnu
    rw[←g1]at this
    exact this
  rw[if_neg e8,if_neg e8]
  by_cases e9:op≤45
  · rw[if_pos e9,if_pos e9]
    by_cases c:(kd:Int)=0
    · rw[if_pos c]
      have e:(QA d p).set kd (alu op (d.get k1) (d.get k2))=QA d p:=by unfold qD.set;rw[c,setReg_zero']
      rw[e]
      exact did8_nop a
    · rw[if_neg c,jM _ a.over,Jj _ st 400 op rfl om om om]
      simp only[show ¬(400:Int)=100 by omega,show ¬(400:Int)=200 by omega,show ¬(400:Int)=300 by omega,if_false,if_true,rA]
      exact uM a hd _
  rw[if_neg e9,if_neg e9]
  by_cases e10:op≤56
  · rw[if_pos e10,if_pos e10,jM _ a.over,Jj _ st 600 op rfl om om om]
    simp only[show ¬(600:Int)=100 by omega,show ¬(600:Int)=200 by omega,show ¬(600:Int)=300 by omega,show ¬(600:Int)=400 by omega,show ¬(600:Int)=500 by omega,if_false,if_true,rA]
    have:=atom8 (last:=lastB op) (op:=op) a kd k1 k2 hd h1 h2
    rw[←g1,←g2]at this
    exact this
  rw[if_neg e10,if_neg e10]
  by_cases e11:op=58
  · subst e11
    rw[if_pos rfl,if_pos rfl,jM _ a.over]
    exact call8 a
  rw[if_neg e11,if_neg e11]
  by_cases e12:op=59
  · subst e12
    rw[if_pos rfl,if_pos rfl,jM _ a.over]
    exact uv a _
  rw[if_neg e12,if_neg e12]
  exact did8_nop a
end
end Go.Proofs.YtlfnddmncbkjaacGreat.Fb
