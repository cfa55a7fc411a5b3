import Derived.Test.YtlfnddmncbkjaabGreatDoorZGF
set_option linter.unusedVariables false
set_option linter.unusedSimpArgs false
set_option maxRecDepth 100000
set_option maxHeartbeats 4000000
namespace Go.Proofs.YtlfnddmncbkjaabGreatDoor.Fb
open Go.RowKit
theorem named_cls{op:Int}(h:0≤Qq op):(op=1∨op=2∨op=3∨op=4∨op=5∨op=6)∨(∃s,op=100+s∧5≤s∧s≤10)∨(∃s,op=200+s∧11≤s∧s≤15)∨(∃s,op=300+s∧16≤s∧s≤18)∨(∃s,op=400+s∧28≤s∧s≤45)∨(∃s,op=500+s∧28≤s∧s≤45)∨(∃s,op=600+s∧46≤s∧s≤56):=by
  by_cases hk:(op=1∨op=3)∨op=2∨op=4∨(op=5∨op=6)
  · left;omega
  rw[namedI_k ⟨fun e=>hk (.inl e),fun e=>hk (.inr (.inl e)),fun e=>hk (.inr (.inr (.inl e))),fun e=>hk (.inr (.inr (.inr e)))⟩]at h
  right
  obtain⟨s,hs⟩:∃s,s=op.tmod 100:=⟨_,rfl⟩
  obtain⟨c,hc⟩:∃c,c=op-s:=⟨_,rfl⟩
  rw[←hs,←hc]at h
  have e:op=c+s:=om
  unfold namedK at h
  by_cases c1:c=100
  · rw[if_pos c1]at h;split at h
    · left;exact⟨s,om,om,om⟩
    · omega
  rw[if_neg c1]at h
  by_cases c2:c=200
  · rw[if_pos c2]at h;split at h
    · right;left;exact⟨s,om,om,om⟩
    · omega
  rw[if_neg c2]at h
  by_cases c3:c=300
  · rw[if_pos c3]at h;split at h
    · right;right;left;exact⟨s,om,om,om⟩
    · omega
  rw[if_neg c3]at h
  by_cases c4:c=400
  · rw[if_pos c4]at h;split at h
    · right;right;right;left;exact⟨s,om,om,om⟩
    · omega
  rw[if_neg c4]at h
  by_cases c5:c=500
  · rw[if_pos c5]at h;split at h
    · right;right;right;right;left;exact⟨s,om,om,om⟩
    · omega
  rw[if_neg c5]at h
  by_cases c6:c=600
  · rw[if_pos c6]at h;split at h
    · right;right;right;right;right;exact⟨s,om,om,om⟩
    · omega
  rw[if_neg c6]at h
  omega
theorem mayM_named{m:MicD}(h:mayM m=true):0≤Qq m.op:=by
  unfold mayM at h
  rw[Bool.and_eq_true,Bool.and_eq_true,Bool.and_eq_true,Bool.and_eq_true]at h
  have:=h.1.1.1.1
  simp at this
  omega
end Go.Proofs.YtlfnddmncbkjaabGreatDoor.Fb
namespace Go.Proofs.YtlfnddmncbkjaabGreatDoor.W
open Go.RowKit Fb
end Go.Proofs.YtlfnddmncbkjaabGreatDoor.W
namespace Go.Proofs.YtlfnddmncbkjaabGreatDoor.Fb
open Go.RowKit
structure R7Near (d d':RunD):Prop where
  s0:d.steps≤d'.steps
  s1:d'.steps≤d.steps+1
  st:d'.stores.length≤d.stores.length+1
  ou:d'.out.length≤d.out.length+1
theorem put_same(d:RunD)(k:Nat)(x:Int):(d.put k x).steps=d.steps∧(d.put k x).stores=d.stores∧(d.put k x).out=d.out:=by
  unfold RunD.put;split<;>exact⟨rfl,rfl,rfl⟩
theorem UO(d:RunD)(k:Nat)(x:Int):R7Near d (d.put k x):=by
  obtain⟨h1,h2,h3⟩:=put_same d k x
  exact⟨by rw[h1];omega,by rw[h1];omega,by rw[h2];omega,by rw[h3];omega⟩
theorem Qt{d d':RunD}(h1:d'.steps=d.steps)(h2:d'.stores=d.stores)(h3:d'.out=d.out):R7Near d d':=⟨by rw[h1];omega,by rw[h1];omega,by rw[h2];omega,by rw[h3];omega⟩
theorem r7near_atom(d:RunD)(op:Int)(kd ka kb:Nat):R7Near d (d.atom op kd ka kb):=by
  have key:∀(e:RunD) (x:Int),e.steps=d.steps→e.stores.length≤d.stores.length+1→e.out=d.out→R7Near d (e.put kd x):=fun e x h1 h2 h3=>by
    obtain⟨q1,q2,q3⟩:=put_same e kd x
    exact⟨by rw[q1,h1];omega,by rw[q1,h1];omega,by rw[q2];exact h2,by rw[q3,h3];omega⟩
  unfold RunD.atom
  by_cases c1:qY d.m 13 (d.get ka)=true
  · rw[if_pos c1]
    by_cases c2:op=46
    · rw[if_pos c2];exact key _ _ rfl (by show d.stores.length≤_;omega) rfl
    rw[if_neg c2]
    by_cases c3:op=47
    · rw[if_pos c3]
      by_cases c4:(d.h.held&&d.h.heldAt==d.get ka)=true
      · rw[if_pos c4];exact key _ _ rfl (by show(d.stores++[_]).length≤_;simp) rfl
      · rw[if_neg c4];exact key _ _ rfl (by show d.stores.length≤_;omega) rfl
    · rw[if_neg c3];exact key _ _ rfl (by show(d.stores++[_]).length≤_;simp) rfl
  · rw[if_neg c1];exact Qt rfl rfl rfl
theorem r7near_one(d:RunD)(m:MicD)(steps:Int):R7Near d (d.one m steps):=by
  unfold RunD.one
  by_cases c1:m.op=1
  · rw[if_pos c1]
    by_cases c2:(d.steps==steps||d.own)=true
    · rw[if_pos c2];exact Qt rfl rfl rfl
    · rw[if_neg c2];exact⟨by show d.steps≤d.steps+1;omega,Int.le_refl _,by show d.stores.length≤_;omega,by show d.out.length≤_;omega⟩
  rw[if_neg c1]
  by_cases c2:m.op=2
  · rw[if_pos c2];exact UO _ _ _
  rw[if_neg c2]
  by_cases c3:m.op=3
  · rw[if_pos c3];exact Qt rfl rfl rfl
  rw[if_neg c3]
  by_cases c4:m.op=4
  · rw[if_pos c4];exact Qt rfl rfl rfl
  rw[if_neg c4]
  by_cases c6:m.op=6
  · rw[if_pos c6];exact Qt rfl rfl rfl
  rw[if_neg c6]
  by_cases c5:m.op=5
  · rw[if_pos c5]
    unfold RunD.call
    by_cases q0:d.h.reg 17=0
    · rw[if_pos q0];exact Qt rfl rfl rfl
    rw[if_neg q0]
    by_cases q1:d.h.reg 17=1
    · rw[if_pos q1];exact⟨Int.le_refl _,by show d.steps≤d.steps+1;omega,by show d.stores.length≤_;omega,by show(d.out++[_]).length≤_;simp⟩
    · rw[if_neg q1];exact Qt rfl rfl rfl
  rw[if_neg c5]
  generalize m.op.tmod 100=s
  by_cases k1:m.op-s=100
  · rw[if_pos k1]
    by_cases q:holds s (d.get m.a.toNat) (d.get m.b.toNat)=true
    · rw[if_pos q];exact Qt rfl rfl rfl
    · rw[if_neg q];exact Qt rfl rfl rfl
  rw[if_neg k1]
  by_cases k2:m.op-s=200
  · rw[if_pos k2]
    by_cases q:qY d.m s (u32 (d.get m.a.toNat+m.n))=true
    · rw[if_pos q];exact UO _ _ _
    · rw[if_neg q];exact Qt rfl rfl rfl
  rw[if_neg k2]
  by_cases k3:m.op-s=300
  · rw[if_pos k3]
    by_cases q:qU d.m s (u32 (d.get m.a.toNat+m.n))=true
    · rw[if_pos q];exact⟨Int.le_refl _,by show d.steps≤d.steps+1;omega,by show(d.stores++[_]).length≤_;simp,by show d.out.length≤_;omega⟩
    · rw[if_neg q];exact Qt rfl rfl rfl
  rw[if_neg k3]
  by_cases k4:m.op-s=400
  · rw[if_pos k4];exact UO _ _ _
  rw[if_neg k4]
  by_cases k5:m.op-s=500
  · rw[if_pos k5];exact UO _ _ _
  rw[if_neg k5]
  by_cases k6:m.op-s=600
  · rw[if_pos k6];exact r7near_atom _ _ _ _ _
  · rw[if_neg k6];exact Qt rfl rfl rfl
def runL(steps:Int):List MicD→RunD→RunD
  |[],d=>d
  |m::r,d=>if d.over=true then d else runL steps r (d.one m steps)
theorem uW{steps:Int}{l:List MicD}{d:RunD}(h:d.over=true):runL steps l d=d:=by
  cases l with
  |nil=>rfl
  |cons m r=>unfold runL;rw[if_pos h]
def RunD.fin(d:RunD):RunD:=if d.over=false∧0<d.steps then {d with h:=d.h.setPc (u32 (d.here+4))} else d
def run0(h:Hart)(m:List Int)(bf bt:Int):RunD:=⟨h,m,[],0,[],[0,0,0,0],h.pc,false,false,bf,bt⟩
theorem run0_wf{h:Hart}(wf:h.Wf){m:List Int}(hb:jC m)(hl:m.length≤140737488351232){bf bt:Int}(h1:U32 bf)(h2:U32 bt):(run0 h m bf bt).Wf:=
  ⟨wf,hb,hl,zW,⟨by show -9223372036854775808≤(0:Int);omega,by show(0:Int)≤9223372036854775807;omega⟩,zW,rfl,(by intro x hx;simp[run0]at hx;rw[hx];exact jp),wf.pc,h1,h2⟩
def QD(d:RunD)(cp:Nat)(vs:Value)(steps:Int):List Value:=
  [.pointer (some ⟨cp,0,none⟩),.int .u32 d.bf,.int .u32 d.bt,.int .i64 (steps-d.steps),.int .i64 d.steps,vs]++(d.temps.map (Value.int .u32)++[.int .u32 d.here,.bool d.own])
def RunD.core(d:RunD)(fr tw:Int):qF:=⟨d.h,d.m,d.out,fr,tw⟩
structure R8 (rp cp hb po:Nat) (vm:Value) (TU TS TR:TypeId) (w:World) (d:RunD) (vs:Value) (steps fr tw:Int):Prop where
  wf:d.Wf
  olen:d.out.length≤1099511627776
  mmax:d.m.length≤4096
  ufr:U32 fr
  utw:U32 tw
  core:qX cp hb po vm TU w (d.core fr tw)
  lt:cp<rp
  at_:At w rp 0 (QD d cp vs steps)
  frz:∀o,w.frozen? ⟨rp,o,none⟩=false
  ty:∃cs f,w.heap[rp]? =some (.cells cs TR f)
  sto:w.ownsRow (rp+1) TS 2 vs d.stores.length (d.stores.flatMap rg)
structure G8 (rp:Nat) (TU:TypeId) (cp hb po:Nat) (vm:Value) (w w':World):Prop where
  os:w'.os=w.os
  tape:w'.tape=w.tape
  output:w'.output=w.output
  size:w.heap.size≤w'.heap.size
  block:∀k,k<w.heap.size→k≠hb→vm.ownBlock≠some k→(k<cp∨(cp<k∧k<rp∧∀cs f,w.heap[k]? ≠some (.cells cs TU f)))→w'.heap[k]? =w.heap[k]?
  cell:∀o,(o<po∨po+37≤o)→w'.cell? ⟨hb,o,none⟩=w.cell? ⟨hb,o,none⟩
  shape:∀k,k<w.heap.size→k<cp→QH w'.heap[k]? w.heap[k]?
theorem jO{w:World}{b i:Nat}{v:Value}{T:TypeId}(h:∃cs f,w.heap[b]? =some (.cells cs T f)):∃cs f,(w.setCell ⟨b,i,none⟩ v).heap[b]? =some (.cells cs T f):=by
  obtain⟨cs,f,h⟩:=h
  simp only[World.setCell,Array.getElem?_modify]
  rw[if_pos trivial,h]
  exact⟨_,_,rfl⟩
section
variable {rp cp hb po : Nat} {vm : Value} {TU TS TR : TypeId} {w w' w'' : World} {d d' : RunD} {vs : Value} {steps fr tw : Int}
theorem G8.refl:G8 rp TU cp hb po vm w w:=⟨rfl,rfl,rfl,sN _,fun _ _ _ _ _=>rfl,fun _ _=>rfl,fun _ _ _=>QH.refl _⟩
theorem G8.trans(h:G8 rp TU cp hb po vm w w')(k:G8 rp TU cp hb po vm w' w''):G8 rp TU cp hb po vm w w'':=
  ⟨k.os.trans h.os,k.tape.trans h.tape,k.output.trans h.output,Nat.le_trans h.size k.size,fun j h0 h1 h2 h3=>by
    have e:=h.block j h0 h1 h2 h3
    refine(k.block j (Nat.lt_of_lt_of_le h0 h.size) h1 h2 ?_).trans e
    rw[e];exact h3,fun o ho=>(k.cell o ho).trans (h.cell o ho),fun i hi hc=>(k.shape i (Nat.lt_of_lt_of_le hi h.size) hc).trans (h.shape i hi hc)⟩
theorem G8.below(hb':Below w.heap.size w w')(hc:hb<w.heap.size):G8 rp TU cp hb po vm w w':=⟨hb'.os,hb'.tape,hb'.output,hb'.size,fun k h0 _ _ _=>hb'.block k h0,fun o _=>hb'.cell (p:=⟨hb,o,none⟩) hc,fun k h0 _=>QH.of_eq (hb'.block k h0)⟩
theorem G8.cgo(h:Cgo cp hb po vm TU w w')(_:hb<w.heap.size):G8 rp TU cp hb po vm w w':=
  ⟨h.os,h.tape,h.output,h.size,fun k h0 h1 h2 h3=>h.block k h0 h1 h2 (h3.imp id (fun h4=>⟨h4.1,h4.2.2⟩)),h.cell,h.shape⟩
theorem G8.set(hh:cp≤rp∧hb<rp)(o:Nat)(v:Value):G8 rp TU cp hb po vm w (w.setCell ⟨rp,o,none⟩ v):=
  ⟨rfl,rfl,rfl,by simp,fun k _ _ _ h3=>sT _ _ _ _ (by show k≠rp;omega),fun o2 _=>sJ _ _ _ _ xZ,fun k _ _=>Qd _ _ _ _⟩
theorem r8_len(ht:d.temps.length=4):(QD d cp vs steps).length=12:=by simp[QD,ht]
theorem QO(j:Nat)(hj:j<6):(QD d cp vs steps)[j]? =[Value.pointer (some ⟨cp,0,none⟩),.int .u32 d.bf,.int .u32 d.bt,.int .i64 (steps-d.steps),.int .i64 d.steps,vs][j]? :=by
  unfold QD
  rw[List.getElem?_append_left xW]
theorem r8_temp(ht:d.temps.length=4){k:Nat}(hk:k<4):(QD d cp vs steps)[6+k]? =some (.int .u32 (d.temps.getD k 0)):=by
  unfold QD
  rw[List.getElem?_append_right zC,List.getElem?_append_left zL]
  simp[List.getD,show k<d.temps.length by omega]
theorem Jb(ht:d.temps.length=4)(j:Nat):(QD d cp vs steps)[10+j]? =[Value.int .u32 d.here,.bool d.own][j]? :=by
  unfold QD
  rw[List.getElem?_append_right zL,List.getElem?_append_right (by simp[ht];omega)]
  congr 1
  simp[ht];omega
theorem r8_setTemp(ht:d.temps.length=4){k:Nat}(hk:k<4)(x:Int):(QD d cp vs steps).set (6+k) (.int .u32 x)=QD {d with temps:=d.temps.set k x} cp vs steps:=by
  unfold QD
  rw[List.set_append_right _ _ zC,List.set_append_left _ _ zL,List.map_set]
  simp
theorem r8_setEnd(ht:d.temps.length=4){j:Nat}{v:Value}(h1:d'.bf=d.bf)(h2:d'.bt=d.bt)(h3:d'.steps=d.steps)(h4:d'.temps=d.temps)(e:[Value.int .u32 d'.here,.bool d'.own]=[Value.int .u32 d.here,.bool d.own].set j v):
    (QD d cp vs steps).set (10+j) v=QD d' cp vs steps:=by
  unfold QD
  rw[List.set_append_right _ _ zL,List.set_append_right _ _ (by simp[ht];omega),h1,h2,h3,h4,e]
  congr 3
  simp[ht];omega
theorem qX.keeps{ty:TypeId}{d:qF}(h:qX cp hb po vm ty w d)(hs:w.heap.size≤w'.heap.size)(hk:∀k,k<w.heap.size→(k≤cp∨∃cs f,w.heap[k]? =some (.cells cs ty f))→w'.heap[k]? =w.heap[k]?):qX cp hb po vm ty w' d:=by
  have h1:=h.lt
  have h2:=h.hlt
  have hbl:=h.hbl
  have e1:=hk cp h1 (.inl (sN _))
  have e2:=hk hb h2 (.inl om)
  refine⟨h.hbl,(qA e1 _).trans h.ptr,(qA e1 _).trans h.mem,(qA e1 _).trans h.fr,(qA e1 _).trans h.tw,fun o=>(qK e1 o).trans (h.frz o),fun j hj=>(qA e2 _).trans (h.hart j hj),fun o=>(qK e2 o).trans (h.hfz o), ?_,fun b off n c e=> ?_, ?_,h.mlt⟩
  · refine r7ints_keep h.bytes (fun hn q e=> ?_)
    have hq:=h.mlt q e
    exact hk q om (.inl om)
  · obtain⟨x1,x2,x3,x4⟩:=h.mfz b off n c e
    have e3:=hk b x3 (.inl om)
    exact⟨x1,x2,Nat.lt_of_lt_of_le x3 hs,fun o=>(qK e3 o).trans (x4 o)⟩
  · obtain⟨vo,y1,y2⟩:=h.row
    refine⟨vo,(qA e1 _).trans y1,qI y2 (fun g e=> ?_)⟩
    refine hk g (y2.lt g e).2 (.inr ?_)
    rcases y2.2 with⟨rfl,_⟩|⟨g1,_,c1,rfl,_,q1,_⟩
    · cases e
    · cases e
      exact⟨_,_,q1⟩
theorem R8.rlt(h:R8 rp cp hb po vm TU TS TR w d vs steps fr tw):rp<w.heap.size:=by
  have h1:=h.at_ 0 (by rw[r8_len h.wf.tlen];omega)
  exact qD h1
theorem R8.clt(h:R8 rp cp hb po vm TU TS TR w d vs steps fr tw):hb<w.heap.size:=by have:=h.rlt;have:=h.lt;have:=h.core.hbl;omega
theorem R8.lts(h:R8 rp cp hb po vm TU TS TR w d vs steps fr tw):cp≤rp∧hb<rp:=by have:=h.lt;have:=h.core.hbl;omega
theorem R8.below(h:R8 rp cp hb po vm TU TS TR w d vs steps fr tw)(hb':Below w.heap.size w w'):R8 rp cp hb po vm TU TS TR w' d vs steps fr tw:=by
  have h1:=h.rlt
  obtain⟨cs,f,hty⟩:=h.ty
  exact⟨h.wf,h.olen,h.mmax,h.ufr,h.utw,h.core.below hb',h.lt,h.at_.below hb',fun o=>(hb'.frozen (p:=⟨rp,o,none⟩) h1).trans (h.frz o),⟨cs,f,(hb'.block rp h1).trans hty⟩,qP h.sto hb'⟩
theorem own_type{B:Nat}{e:TypeId}{k:Nat}{v:Value}{n:Nat}{xs:List Value}(h:w.ownsRow B e k v n xs){g:Nat}(hg:v.ownBlock=some g):∃cs f,w.heap[g]? =some (.cells cs e f):=by
  rcases h.2 with⟨rfl,_⟩|⟨g1,_,c1,rfl,_,q1,_⟩
  · cases hg
  · cases hg
    exact⟨_,_,q1⟩
theorem R8.cgo(h:R8 rp cp hb po vm TU TS TR w d vs steps fr tw){fr' tw':Int}(hc:qX cp hb po vm TU w' (d'.core fr' tw'))(hg:Cgo cp hb po vm TU w w')(hR:TR≠TU)(hS:TS≠TU)
    (wf:d'.Wf) (ho:d'.out.length≤1099511627776) (hm:d'.m.length≤4096) (hf:U32 fr') (ht:U32 tw') (e1:d'.bf=d.bf) (e2:d'.bt=d.bt) (e3:d'.steps=d.steps) (e4:d'.temps=d.temps) (e5:d'.here=d.here) (e6:d'.own=d.own) (e7:d'.stores=d.stores):
    R8 rp cp hb po vm TU TS TR w' d' vs steps fr' tw':=by
  have h1:=h.rlt
  have h2:=h.lt
  have h3:=h.core.hbl
  obtain⟨cs,f,hty⟩:=h.ty
  have hrp:w'.heap[rp]? =w.heap[rp]? :=hg.block rp h1 om (fun e=>by have:=h.core.mlt _ e;omega) (.inr ⟨h2,fun cs2 f2 e=>by rw[hty]at e;cases e;exact hR rfl⟩)
  have hl:QD d' cp vs steps=QD d cp vs steps:=by unfold QD;rw[e1,e2,e3,e4,e5,e6]
  refine⟨wf,ho,hm,hf,ht,hc,h2, ?_,fun o=>(qK hrp o).trans (h.frz o),⟨cs,f,hrp.trans hty⟩, ?_⟩
  · rw[hl];exact fun j hj=>(qA hrp _).trans (h.at_ j hj)
  · rw[e7]
    refine qI h.sto (fun g e=> ?_)
    have hg2:=h.sto.lt g e
    obtain⟨cs3,f3,hty3⟩:=own_type h.sto e
    exact hg.block g hg2.2 om (fun e=>by have:=h.core.mlt _ e;omega) (.inr ⟨om,fun cs2 f2 e=>by rw[hty3]at e;cases e;exact hS rfl⟩)
theorem R8.setCell2{steps':Int}(h:R8 rp cp hb po vm TU TS TR w d vs steps fr tw)(hR:TR≠TU)(i:Nat)(hi:i<12)(v:Value)(hl:(QD d cp vs steps).set i v=QD d' cp vs steps')(hh:d'.h=d.h)(hm:d'.m=d.m)(ho:d'.out=d.out)(hs:d'.stores=d.stores)(wf:d'.Wf):
    R8 rp cp hb po vm TU TS TR (w.setCell ⟨rp,i,none⟩ v) d' vs steps' fr tw:=by
  have h1:=h.rlt
  have h2:=h.lt
  obtain⟨cs,f,hty⟩:=h.ty
  refine⟨wf,by rw[ho];exact h.olen,by rw[hm];exact h.mmax,h.ufr,h.utw, ?_,h2, ?_,fun o=>(sL _ _ _ _).trans (h.frz o),jO h.ty, ?_⟩
  · have e:d'.core fr tw=d.core fr tw:=by unfold RunD.core;rw[hh,hm,ho]
    rw[e]
    refine h.core.keeps zC (fun k hk hor=>sT _ _ _ _ ?_)
    show k≠rp
    rcases hor with h3|⟨cs2,f2,h3⟩
    · omega
    · intro e2;subst e2;rw[hty]at h3;cases h3;exact hR rfl
  · have:=h.at_.set i (by rw[r8_len h.wf.tlen];exact hi) v
    rw[sM,hl]at this
    exact this
  · rw[hs];exact ownsRow_setCell_below h.sto (a:=⟨rp,i,none⟩) (Nat.lt_succ_self rp) v
theorem R8.setCell(h:R8 rp cp hb po vm TU TS TR w d vs steps fr tw)(hR:TR≠TU)(i:Nat)(hi:i<12)(v:Value)(hl:(QD d cp vs steps).set i v=QD d' cp vs steps)(hh:d'.h=d.h)(hm:d'.m=d.m)(ho:d'.out=d.out)(hs:d'.stores=d.stores)(wf:d'.Wf):
    R8 rp cp hb po vm TU TS TR (w.setCell ⟨rp,i,none⟩ v) d' vs steps fr tw:=h.setCell2 hR i hi v hl hh hm ho hs wf
theorem r8_sto{w2 w3:World}{v':Value}(h:R8 rp cp hb po vm TU TS TR w d vs steps fr tw)(hR:TR≠TU)(hS:TS≠TU)(hb':Below w.heap.size w w2){p:Int × Int}(hp:U32 p.1∧U32 p.2)
    (hown:w3.ownsRow (rp+1) TS 2 v' (d.stores.length+1) (d.stores.flatMap rg++rg p)) (hg:w2.grownBy w3 vs.ownBlock):
    R8 rp cp hb po vm TU TS TR (w3.setCell ⟨rp,5,none⟩ v') {d with stores:=d.stores++[p]} v' steps fr tw∧G8 rp TU cp hb po vm w (w3.setCell ⟨rp,5,none⟩ v'):=by
  have h2:=h.below hb'
  have h1:=h2.rlt
  have h3:=h2.lt
  obtain⟨cs,f,hty⟩:=h2.ty
  have hrp:vs.ownBlock≠some rp:=fun e=>by have:=(h2.sto.lt rp e).1;omega
  have e2:∀k,k<w2.heap.size→vs.ownBlock≠some k→w3.heap[k]? =w2.heap[k]? :=fun k hk1 hk2=>hg.block k hk1 (fun e=>hk2 e.symm)
  have hwf:({d with stores:=d.stores++[p]}:RunD).Wf:={h.wf with stores:=fun q hq=>(List.mem_append.1 hq).elim (h.wf.stores q) (fun hq=>(List.mem_singleton.1 hq) ▸ hp)}
  have hcore:qX cp hb po vm TU w3 (d.core fr tw):=h2.core.keeps hg.size (fun k hk hor=>e2 k hk (fun e=>by
    have hl:=h2.sto.lt k e
    rcases hor with h4|⟨cs2,f2,h4⟩
    · omega
    · obtain⟨cs3,f3,h5⟩:=own_type h2.sto e
      rw[h4]at h5;cases h5;exact hS rfl))
  have hat:At w3 rp 0 (QD d cp vs steps):=fun j hj=>(World.cell?_of_block (e2 rp h1 hrp)).trans (h2.at_ j hj)
  have hl:(QD d cp vs steps).set 5 v'=QD {d with stores:=d.stores++[p]} cp v' steps:=by
    unfold QD
    rw[List.set_append_left _ _ zC]
    rfl
  refine⟨⟨hwf,h.olen,h.mmax,h.ufr,h.utw, ?_,h3, ?_,fun o=>(sL _ _ _ _).trans ((qK (e2 rp h1 hrp) o).trans (h2.frz o)),jO ⟨cs,f,(e2 rp h1 hrp).trans hty⟩, ?_⟩, ?_⟩
  · refine qX.keeps hcore zC (fun k hk hor=>sT _ _ _ _ ?_)
    show k≠rp
    rcases hor with h4|⟨cs2,f2,h4⟩
    · omega
    · intro e3;subst e3;rw[e2 k h1 hrp,hty]at h4;cases h4;exact hR rfl
  · have:=hat.set 5 (by rw[r8_len h.wf.tlen];omega) v'
    rw[sM,hl]at this
    exact this
  · have:=ownsRow_setCell_below hown (a:=⟨rp,5,none⟩) (Nat.lt_succ_self rp) v'
    simpa using this
  · have hc:=h.clt
    refine(G8.below hb' hc).trans (G8.trans (w':=w3) ⟨hg.os,hg.tape,hg.output,hg.size,fun k h0 _ _ hk=>e2 k h0 (fun e=>by have:=(h2.sto.lt k e).1;omega),fun o _=>qA (e2 hb h2.clt (fun e=>by have:=(h2.sto.lt hb e).1;have:=h2.core.hbl;omega)) o,fun k h0 hk=>QH.of_eq (e2 k h0 (fun e=>by have:=(h2.sto.lt k e).1;have:=h2.lts;omega))⟩ (G8.set h2.lts _ _))
theorem R8.setFrTo(h:R8 rp cp hb po vm TU TS TR w d vs steps fr tw)(hR:TR≠TU)(hS:TS≠TU):R8 rp cp hb po vm TU TS TR ((w.setCell ⟨cp,3,none⟩ (.int .u32 0)).setCell ⟨cp,4,none⟩ (.int .u32 0)) d vs steps 0 0∧G8 rp TU cp hb po vm w ((w.setCell ⟨cp,3,none⟩ (.int .u32 0)).setCell ⟨cp,4,none⟩ (.int .u32 0)):=by
  have hbl:=h.core.hbl
  have hc:=(h.core.setFr 0).setTo 0
  have hg:Cgo cp hb po vm TU w ((w.setCell ⟨cp,3,none⟩ (.int .u32 0)).setCell ⟨cp,4,none⟩ (.int .u32 0)):=(Cgo.setCore w hbl 3 _).trans (Cgo.setCore _ hbl 4 _)
  exact⟨h.cgo (d':=d) (fr':=0) (tw':=0) hc hg hR hS h.wf h.olen h.mmax jp jp rfl rfl rfl rfl rfl rfl rfl,G8.cgo hg h.clt⟩
end
theorem hits_ends{a bf bt:Int}{n:Nat}(ha:0≤a)(hn:0<n)(hle:a+n≤4294967295):hits a bf bt n=(decide (bf<bt)&&decide (a<bt)&&decide (bf<a+n)):=by
  have e:∀k:Nat,k<n→u32 (a+(k:Int))=a+k:=fun k hk=>by unfold u32;omega
  rw[Bool.eq_iff_iff]
  unfold hits
  simp only[List.any_eq_true,List.mem_range,decide_eq_true_eq,Bool.and_eq_true]
  constructor
  · rintro⟨k,hk,h1,h2⟩
    rw[e k hk]at h1 h2
    omega
  · rintro⟨⟨h1,h2⟩,h3⟩
    by_cases hc:bf≤a
    · exact⟨0,hn,by rw[e 0 hn];omega⟩
    · exact⟨(bf-a).toNat,om,by rw[e _ om];omega⟩
def RunD.core0(d:RunD):qF:=⟨d.h,d.m,[],0,0⟩
def own8(bf bt:Int)(c:qF):Bool:=decide (c.fr<c.tw)&&(decide (c.fr<bt)&&decide (bf<c.tw))
def jB(d:RunD):RunD:={d with h:=(goS d.core0).h,m:=(goS d.core0).m,out:=d.out++(goS d.core0).out,steps:=d.steps+1,stores:=if(goS d.core0).fr<(goS d.core0).tw then d.stores++[((goS d.core0).fr,(goS d.core0).tw)]else d.stores}
def brk8(bf bt p:Int)(c:qF):Bool:=c.h.state !=0||c.h.pc !=p||own8 bf bt c
def pl8(pc:Int)(k:Nat):Int:=u32 (pc+u32 (4*(k:Int)))
def jq(bf bt steps:Int):Nat→Nat→RunD→RunD
  |0,_,d=>d
  |n+1,k,d=>if d.steps<steps then(if brk8 bf bt (pl8 bf (k+1)) (goS d.core0)=true then jB d else jq bf bt steps n (k+1) (jB d))else d
structure Did8 (d e:RunD) (c:qF) (p:Int) (last:Bool):Prop where
  m:e.m=c.m
  out:e.out=d.out++c.out
  steps:e.steps=d.steps
  here:e.here=p
  tl:e.temps.length=4
  bf:e.bf=d.bf
  bt:e.bt=d.bt
  stores:e.stores=if c.fr<c.tw then d.stores++[(c.fr,c.tw)]else d.stores
  own:e.own=(d.own||own8 d.bf d.bt c)
  yes:e.over=true→e.h=c.h∧(c.h.state≠0∨last=true)
  no:e.over=false→e.h.setPc (u32 (p+4))=c.h∧c.h.state=0
structure At8 (d:RunD) (p:Int):Prop where
  over:d.over=false
  here:d.here=p
  tl:d.temps.length=4
  state:d.h.state=0
  zero:d.h.regs.getD 0 0=0
  len:d.h.regs.length=32
  regs:∀x∈d.h.regs,U32 x
  mlen:d.m.length≤4096
  b:d.bf<d.bt
def qn(d:RunD)(p:Int):qF:=⟨d.h.setPc p,d.m,[],0,0⟩
section
variable {d : RunD} {p : Int} {last : Bool}
theorem jz(bf bt:Int){c:qF}(h:¬c.fr<c.tw):own8 bf bt c=false:=by unfold own8;rw[decide_eq_false h];rfl
theorem setReg_pc(h:Hart)(p q r x:Int):(h.setReg r x).setPc q=((h.setPc p).setReg r x).setPc q:=by
  unfold Hart.setReg;split<;>rfl
theorem UL(h:Hart)(r x:Int):(h.setReg r x).state=h.state:=by unfold Hart.setReg;split<;>rfl
theorem setReg_zero'(h:Hart)(x:Int):h.setReg 0 x=h:=by unfold Hart.setReg;rw[if_neg om]
theorem UP{k:Nat}(hk:k<32)(x:Int):d.put k x={d with h:=d.h.setReg k x}:=by unfold RunD.put;rw[if_neg om]
theorem get8_h{k:Nat}(hk:k<32):d.get k=(qn d p).h.reg (k:Int):=by
  unfold RunD.get Hart.reg;rw[if_pos hk]
  simp[qn,Hart.setPc]
theorem cZ{p:Prop}(h:p:=by
 rw[jz _ _ (by show ¬(0:Int)<0;omega),Bool.or_false]<;>rfl):p:=h
theorem Ju(a:At8 d p){k:Nat}(hk:k<32)(x:Int):Did8 d (d.put k x) (((qn d p).set k x).setPc (u32 (p+4))) p last:=by
  rw[UP hk]
  refine⟨rfl,(List.append_nil _).symm,rfl,a.here,a.tl,rfl,rfl,rfl, ?_,fun h=>absurd (show d.over=true from h) (by rw[a.over];decide),fun _=>⟨setReg_pc d.h p _ k x, ?_⟩⟩
  · exact cZ
  · show((d.h.setPc p).setReg k x).state=0
    rw[UL];exact a.state
theorem did8_nop(a:At8 d p):Did8 d d ((qn d p).setPc (u32 (p+4))) p last:=by
  refine⟨rfl,(List.append_nil _).symm,rfl,a.here,a.tl,rfl,rfl,rfl, ?_,fun h=>absurd h (by rw[a.over];decide),fun _=>⟨rfl,a.state⟩⟩
  exact cZ
theorem uo(a:At8 d p)(c:Int):Did8 d (d.trap c) ((qn d p).trap c) p last:=by
  refine⟨rfl,(List.append_nil _).symm,rfl,a.here,a.tl,rfl,rfl,rfl, ?_,fun _=>⟨?_,.inl (by show(2:Int)≠0;decide)⟩,fun h=>by cases h⟩
  · exact cZ
  · show(d.h.trap c).setPc d.here=(d.h.setPc p).trap c
    rw[a.here];rfl
theorem did8_stop(a:At8 d p)(q:Int):Did8 d (d.stop q) ((qn d p).setPc q) p true:=by
  refine⟨rfl,(List.append_nil _).symm,rfl,a.here,a.tl,rfl,rfl,rfl, ?_,fun _=>⟨rfl,.inr rfl⟩,fun h=>by cases h⟩
  exact cZ
theorem did8_jal(a:At8 d p){k:Nat}(hk:k<32)(x q:Int):Did8 d ((d.put k x).stop q) (((qn d p).set k x).setPc q) p true:=by
  rw[UP hk]
  refine⟨rfl,(List.append_nil _).symm,rfl,a.here,a.tl,rfl,rfl,rfl, ?_,fun _=>⟨setReg_pc d.h p q k x,.inr rfl⟩,fun h=>by cases h⟩
  exact cZ
theorem did8_jalr(a:At8 d p){k:Nat}(hk:k<32)(s x q:Int):Did8 d (((d.put 32 s).put k x).stop q) (((qn d p).set k x).setPc q) p true:=by
  have e:d.put 32 s={d with temps:=d.temps.set 0 s}:=by unfold RunD.put;rw[if_pos om]
  rw[e]
  have a':At8 {d with temps:=d.temps.set 0 s} p:={a with tl:=by show(d.temps.set 0 s).length=4;rw[List.length_set];exact a.tl}
  have h:=did8_jal a' hk x q
  exact⟨h.m,h.out,h.steps,h.here,h.tl,h.bf,h.bt,h.stores,h.own,h.yes,h.no⟩
theorem jalr_get(a:At8 d p){k:Nat}(hk:k<32)(s x:Int):((d.put 32 s).put k x).get 32=s:=by
  rw[UP hk]
  unfold RunD.get RunD.put
  rw[if_neg om,if_pos om]
  obtain⟨a0,t,ht⟩:∃a0 t,d.temps=a0::t:=by
    cases h:d.temps with
    |nil=>have:=a.tl;rw[h]at this;cases this
    |cons a0 t=>exact⟨a0,t,rfl⟩
  show(d.temps.set (32-32) s).getD (32-32) 0=s
  rw[ht];rfl
theorem jV{l:List Int}{op a:Int}(h:qU l op a=true):0<qO op∧qO op≤4∧a+qO op≤l.length:=by
  unfold qU there at h
  simp only[Bool.and_eq_true,decide_eq_true_eq]at h
  refine⟨h.2.1.1, ?_,h.2.2⟩
  unfold qO;repeat' split
  all_goals omega
theorem put8_eq(a:At8 d p){op at_:Int}(x:Int)(hq:qU d.m op at_=true)(ha:0≤at_):(qn d p).put op at_ x={(qn d p)with m:=Qg d.m op at_ x,fr:=at_,tw:=at_+qO op}:=by
  obtain⟨h1,h2,h3⟩:=jV hq
  have hl:=a.mlen
  unfold qF.put
  rw[if_pos (show qU (qn d p).m op at_=true from hq)]
  show({(qn d p)with m:=Qg d.m op at_ x,fr:=at_,tw:=(at_+qO op)%4294967296}:qF)=_
  rw[Int.emod_eq_of_lt om om]
theorem did8_store(a:At8 d p){op at_:Int}(x:Int)(hq:qU d.m op at_=true)(ha:0≤at_)(f:Hart→Hart)(hf:∀h q,(f h).setPc q=(f (h.setPc p)).setPc q)(hs:(f (d.h.setPc p)).state=0):
    Did8 d {(d.mem op at_ x).stored at_ (qO op).toNat with h:=f d.h} {(qn d p)with h:=(f (d.h.setPc p)).setPc (u32 (p+4)),m:=Qg d.m op at_ x,fr:=at_,tw:=at_+qO op} p last:=by
  obtain⟨h1,h2,h3⟩:=jV hq
  have hl:=a.mlen
  have hc:at_<at_+qO op:=om
  have hn:((qO op).toNat:Int)=qO op:=Int.toNat_of_nonneg om
  have hu:u32 (at_+((qO op).toNat:Int))=at_+qO op:=by rw[hn];unfold u32;omega
  refine⟨rfl,(List.append_nil _).symm,rfl,a.here,a.tl,rfl,rfl, ?_, ?_,fun h=> ?_,fun _=>⟨hf d.h _,hs⟩⟩
  · show d.stores++[(at_,u32 (at_+((qO op).toNat:Int)))]=if at_<at_+qO op then _ else _
    rw[if_pos hc,hu]
  · show(d.own||hits at_ d.bf d.bt (qO op).toNat)=(d.own||own8 d.bf d.bt _)
    have e2:=hits_ends (bf:=d.bf) (bt:=d.bt) ha (show 0<(qO op).toNat by omega) om
    rw[e2,hn]
    unfold own8
    show _=(d.own||(decide (at_<at_+qO op)&&(decide (at_<d.bt)&&decide (d.bf<at_+qO op))))
    rw[decide_eq_true a.b,decide_eq_true hc,Bool.true_and,Bool.true_and]
  · exact absurd (show d.over=true from h) (by rw[a.over];decide)
theorem did8_f(a:At8 d p)(f:Hart→Hart)(hf:∀h q,(f h).setPc q=(f (h.setPc p)).setPc q)(hs:(f (d.h.setPc p)).state=0):
    Did8 d {d with h:=f d.h} {(qn d p)with h:=(f (d.h.setPc p)).setPc (u32 (p+4))} p last:=by
  refine⟨rfl,(List.append_nil _).symm,rfl,a.here,a.tl,rfl,rfl,rfl, ?_,fun h=>absurd (show d.over=true from h) (by rw[a.over];decide),fun _=>⟨hf d.h _,hs⟩⟩
  exact cZ
theorem JR(m:MicD)(st c s:Int)(hm:m.op=c+s)(hc:c=100∨c=200∨c=300∨c=400∨c=500∨c=600)(h0:0≤s)(h1:s<100):d.one m st=
    if c=100 then(if holds s (d.get m.a.toNat) (d.get m.b.toNat)=true then d.stop m.n else d)
    else if c=200 then(if qY d.m s (u32 (d.get m.a.toNat+m.n))=true then d.put m.d.toNat (QB d.m s (u32 (d.get m.a.toNat+m.n)))else d.trap 3)
    else if c=300 then(if qU d.m s (u32 (d.get m.a.toNat+m.n))=true then(d.mem s (u32 (d.get m.a.toNat+m.n)) (d.get m.b.toNat)).stored (u32 (d.get m.a.toNat+m.n)) (qO s).toNat else d.trap 4)
    else if c=400 then d.put m.d.toNat (alu s (d.get m.a.toNat) (d.get m.b.toNat))
    else if c=500 then d.put m.d.toNat (alu s (d.get m.a.toNat) m.n)
    else if c=600 then d.atom s m.d.toNat m.a.toNat m.b.toNat
    else d:=by
  obtain⟨e1,e2⟩:=jG c s hc h0 h1
  unfold RunD.one
  rw[if_neg om,if_neg om,if_neg om,if_neg om,if_neg om,if_neg om,hm,e2,e1]
theorem Qx{st:Int}(m:MicD)(h:d.over=false):runL st [m] d=d.one m st:=by
  rw[runL,if_neg (by rw[h];decide)]
  rfl
theorem uY{st:Int}(m:MicD)(r:List MicD)(h:d.over=false):runL st (m::r) d=runL st r (d.one m st):=by
  rw[runL,if_neg (by rw[h];decide)]
theorem runL_append{st:Int}:∀(a b:List MicD) (d:RunD),runL st (a++b) d=runL st b (runL st a d)
  |[],b,d=>rfl
  | m :: r, b, d => by
    rw[List.cons_append,runL,runL]
    split
    · rw[uW ‹_›]
    · exact runL_append r b _
theorem ug(rd:Nat)(n st:Int):d.one ⟨2,rd,0,0,n⟩ st=d.put rd n:=by unfold RunD.one;rw[if_neg dm,if_pos rfl];rfl
theorem atom8(a:At8 d p){op:Int}(kd ka kb:Nat)(hd:kd<32)(ha:ka<32)(hb:kb<32):
    Did8 d (d.atom op kd ka kb) (if(qb (qn d p) op ((qn d p).h.reg ka) ((qn d p).h.reg kb)).2.2=true then((qb (qn d p) op ((qn d p).h.reg ka) ((qn d p).h.reg kb)).1.set kd (qb (qn d p) op ((qn d p).h.reg ka) ((qn d p).h.reg kb)).2.1).setPc (u32 (p+4))else(qb (qn d p) op ((qn d p).h.reg ka) ((qn d p).h.reg kb)).1) p last:=by
  have e1:=get8_h (d:=d) (p:=p) ha
  have e2:=get8_h (d:=d) (p:=p) hb
  have hu:0≤d.get ka:=by
    unfold RunD.get;rw[if_pos ha]
    rw[List.getD_eq_getElem?_getD,sU (by rw[a.len];exact ha)]
    exact(a.regs _ (sR _)).1
  rw[←e1,←e2]
  unfold RunD.atom qb
  generalize d.get ka=x at *
  by_cases c1:qY d.m 13 x=true
  · rw[if_pos c1]
    simp only[if_pos (show qY (qn d p).m 13 x=true from c1)]
    have hF:∀(b:Bool) (y z:Int) (h:Hart) (q:Int),((h.hold b y).setReg kd z).setPc q=(((h.setPc p).hold b y).setReg kd z).setPc q:=fun b y z h q=>setReg_pc (h.hold b y) p q kd z
    have hS:∀(b:Bool) (y z:Int),(((d.h.setPc p).hold b y).setReg kd z).state=0:=fun b y z=>by rw[UL];exact a.state
    have hq:qU d.m 18 x=true:=by rw[store_load];exact c1
    by_cases c2:op=46
    · simp only[if_pos c2]
      rw[UP hd]
      exact did8_f a (fun h=>(h.hold true x).setReg kd (QB d.m 13 x)) (hF _ _ _) (hS _ _ _)
    · simp only[if_neg c2]
      by_cases c3:op=47
      · simp only[if_pos c3]
        by_cases c4:(d.h.held&&d.h.heldAt==x)=true
        · rw[if_pos c4]
          simp only[if_pos (show((qn d p).h.held&&(qn d p).h.heldAt==x)=true from c4)]
          rw[UP hd,put8_eq a _ hq hu,if_pos trivial]
          exact did8_store a (d.get kb) hq hu (fun h=>(h.hold false 0).setReg kd 0) (hF _ _ _) (hS _ _ _)
        · rw[if_neg c4]
          simp only[if_neg (show ¬((qn d p).h.held&&(qn d p).h.heldAt==x)=true from c4)]
          rw[UP hd]
          exact did8_f a (fun h=>(h.hold false 0).setReg kd 1) (hF _ _ _) (hS _ _ _)
      · simp only[if_neg c3]
        rw[UP hd,put8_eq a _ hq hu,if_pos trivial]
        exact did8_store a (amo op (QB d.m 13 x) (d.get kb)) hq hu (fun h=>h.setReg kd (QB d.m 13 x)) (fun h q=>setReg_pc h p q kd _) (by rw[UL];exact a.state)
  · rw[if_neg c1]
    simp only[if_neg (show ¬qY (qn d p).m 13 x=true from c1)]
    exact uo a _
theorem call8(a:At8 d p):Did8 d d.call (if(qx (qn d p)).2=true then(qx (qn d p)).1.setPc (u32 (p+4))else(qx (qn d p)).1) p true:=by
  unfold RunD.call qx
  have e:∀r,(qn d p).h.reg r=d.h.reg r:=fun r=>rfl
  simp only[e]
  by_cases c0:d.h.reg 17=0
  · simp only[if_pos c0]
    refine⟨rfl,(List.append_nil _).symm,rfl,a.here,a.tl,rfl,rfl,rfl, ?_,fun _=>⟨?_,.inr rfl⟩,fun h=>by cases h⟩
    · exact cZ
    · show({d.h with state:=1}:Hart).setPc d.here=_
      rw[a.here];rfl
  · simp only[if_neg c0]
    by_cases c1:d.h.reg 17=1
    · simp only[if_pos c1]
      refine⟨rfl,rfl,rfl,a.here,a.tl,rfl,rfl,rfl, ?_,fun h=>absurd (show d.over=true from h) (by rw[a.over];decide),fun _=>⟨rfl,a.state⟩⟩
      exact cZ
    · simp only[if_neg c1]
      exact uo a _
theorem bits0(n:Int)(hn:U32 n):bits .or .u32 0 n=n∧bits .xor .u32 0 n=n∧bits .and .u32 0 n=0:=by
  refine⟨or0 n ⟨hn.1,by have:=hn.2;omega⟩, ?_, ?_⟩
  · rw[xor32 _ _ om om hn.1 (by have:=hn.2;omega)];simp;have:=hn.1;omega
  · rw[and32 _ _ om om hn.1 (by have:=hn.2;omega)];simp
theorem num8(a:At8 d p)(op n st:Int)(kd k1:Nat)(hd:kd<32)(h1:k1<32)(hop:28≤op∧op≤45)(hn:U32 n):
    Did8 d (runL st (numM op kd k1 n) d) (((qn d p).set kd (alu op ((qn d p).h.reg k1) n)).setPc (u32 (p+4))) p last:=by
  have e1:=get8_h (d:=d) (p:=p) h1
  rw[←e1]
  unfold numM
  by_cases c1:(kd:Int)=0
  · rw[if_pos c1]
    have e:(qn d p).set kd (alu op (d.get k1) n)=qn d p:=by unfold qF.set;rw[c1,setReg_zero']
    rw[e]
    exact did8_nop a
  rw[if_neg c1]
  have hz:(k1:Int)=0→d.get k1=0:=fun e=>by
    obtain rfl:k1=0:=om
    exact a.zero
  obtain⟨b1,b2,b3⟩:=bits0 n hn
  have hu:=hn.1
  have hu2:=hn.2
  by_cases c2:(k1:Int)=0∧(op=28∨op=36∨op=33)
  · rw[if_pos c2,Qx _ a.over,ug]
    have e:alu op (d.get k1) n=n:=by
      rw[hz c2.1]
      rcases c2.2 with rfl|rfl|rfl
      · show(0+n)%4294967296=n;omega
      · exact b1
      · exact b2
    rw[e]
    exact Ju a hd n
  rw[if_neg c2]
  by_cases c3:(k1:Int)=0∧(op=37∨op=30∨op=34∨op=35)
  · rw[if_pos c3,Qx _ a.over,ug]
    have e:alu op (d.get k1) n=0:=by
      rw[hz c3.1]
      rcases c3.2 with rfl|rfl|rfl|rfl
      · exact b3
      · show(0*2 ^ (n%32).toNat)%4294967296=0;rw[Int.zero_mul];rfl
      · show(0:Int) / 2 ^ (n%32).toNat=0;exact Int.zero_ediv _
      · show(wrap32 0 / 2 ^ (n%32).toNat)%4294967296=0
        rw[show wrap32 0=0 by decide+kernel,Int.zero_ediv];rfl
    rw[e]
    exact Ju a hd 0
  rw[if_neg c3,Qx _ a.over,JR _ st 500 op rfl om om om]
  simp only[show ¬(500:Int)=100 by omega,show ¬(500:Int)=200 by omega,show ¬(500:Int)=300 by omega,show ¬(500:Int)=400 by omega,if_false,if_true,sV]
  exact Ju a hd _
theorem body8(a:At8 d p)(i:InsD)(his:isS i=true)(hb:1≤i.op∧i.op≤59)(hr:0≤i.rd∧i.rd≤31)(hr1:0≤i.rs1∧i.rs1≤31)(hr2:0≤i.rs2∧i.rs2≤31)(st:Int):
    Did8 d (runL st (uv i p) d) (doS i (qn d p)) p (lastB i.op):=by
  obtain⟨op,rd,rs1,rs2,imm⟩:=i
  dsimp only at hb hr hr1 hr2
  obtain⟨kd,rfl⟩:=sQ hr.1
  obtain⟨k1,rfl⟩:=sQ hr1.1
  obtain⟨k2,rfl⟩:=sQ hr2.1
  have hd:kd<32:=om
  have h1:k1<32:=om
  have h2:k2<32:=om
  have g1:=get8_h (d:=d) (p:=p) h1
  have g2:=get8_h (d:=d) (p:=p) h2
  have hn:u32 imm=imm%4294967296:=rfl
  have hnu:U32 (u32 imm):=Qp imm
  unfold uv doS
  dsimp only
  rw[←g1,←g2,←hn]
  generalize u32 imm=n at *
  clear hn his hr hr1 hr2
  have epc:(qn d p).h.pc=p:=rfl
  have em:(qn d p).m=d.m:=rfl
  rw[epc,em]
  by_cases e1:op=1
  · subst e1
    rw[if_pos rfl,if_pos rfl,Qx _ a.over,ug]
    exact Ju a hd n
  rw[if_neg e1,if_neg e1]
  by_cases e2:op=2
  · subst e2
    rw[if_pos rfl,if_pos rfl,Qx _ a.over,ug]
    exact Ju a hd _
  rw[if_neg e2,if_neg e2]
  by_cases e3:op=3
  · subst e3
    rw[if_pos rfl,if_pos rfl,uY _ _ a.over,ug,Qx _ (by rw[UP hd];exact a.over)]
    exact did8_jal a hd _ _
  rw[if_neg e3,if_neg e3]
  by_cases e4:op=4
  · subst e4
    rw[if_pos rfl,if_pos rfl,uY _ _ a.over,JR _ st 500 28 rfl om om om]
    simp only[show ¬(500:Int)=100 by omega,show ¬(500:Int)=200 by omega,show ¬(500:Int)=300 by omega,show ¬(500:Int)=400 by omega,if_false,if_true,sV]
    have e5:alu 28 (d.get k1) n=(d.get k1+n)%4294967296:=rfl
    rw[e5]
    generalize hs:(d.get k1+n)%4294967296=s
    have h32:(32:Int).toNat=32:=rfl
    rw[h32]
    have o1:(d.put 32 s).over=false:=by unfold RunD.put;rw[if_pos om];exact a.over
    rw[uY _ _ o1,ug]
    have o2:((d.put 32 s).put kd (u32 (p+4))).over=false:=by rw[UP hd];exact o1
    rw[Qx _ o2]
    have e6:((d.put 32 s).put kd (u32 (p+4))).one ⟨4,0,32,0,0⟩ st=((d.put 32 s).put kd (u32 (p+4))).stop (s-s%2):=by
      unfold RunD.one
      rw[if_neg dm,if_neg dm,if_neg dm,if_pos rfl]
      dsimp only
      rw[h32,jalr_get a hd]
      have:u32 (s+0)=s:=by unfold u32;omega
      rw[this]
    rw[e6]
    exact did8_jalr a hd s _ _
  rw[if_neg e4,if_neg e4]
  by_cases e5:op≤10
  · rw[if_pos e5,if_pos e5,Qx _ a.over,JR _ st 100 op rfl om om om]
    simp only[if_true,sV]
    have hl:lastB op=true:=by unfold lastB;rw[decide_eq_true om];rfl
    rw[hl]
    by_cases c:holds op (d.get k1) (d.get k2)=true
    · rw[if_pos c,if_pos c];exact did8_stop a _
    · rw[if_neg c,if_neg c];exact did8_nop a
  rw[if_neg e5,if_neg e5]
  by_cases e6:op≤15
  · rw[if_pos e6,if_pos e6,Qx _ a.over,JR _ st 200 op rfl om om om]
    simp only[show ¬(200:Int)=100 by omega,if_false,if_true,sV]
    show Did8 d (if qY d.m op (u32 (d.get k1+n))=true then _ else _) (if qY d.m op (u32 (d.get k1+n))=true then _ else _) p _
    by_cases c:qY d.m op (u32 (d.get k1+n))=true
    · rw[if_pos c,if_pos c];exact Ju a hd _
    · rw[if_neg c,if_neg c];exact uo a _
  rw[if_neg e6,if_neg e6]
  by_cases e7:op≤18
  · rw[if_pos e7,if_pos e7,Qx _ a.over,JR _ st 300 op rfl om om om]
    simp only[show ¬(300:Int)=100 by omega,show ¬(300:Int)=200 by omega,if_false,if_true,sV]
    show Did8 d (if qU d.m op (u32 (d.get k1+n))=true then _ else _) (if qU d.m op (u32 (d.get k1+n))=true then((qn d p).put op (u32 (d.get k1+n)) (d.get k2)).setPc _ else _) p _
    by_cases c:qU d.m op (u32 (d.get k1+n))=true
    · rw[if_pos c,if_pos c,put8_eq a _ c (Qp _).1]
      exact did8_store a (d.get k2) c (Qp _).1 (fun h=>h) (fun h q=>rfl) a.state
    · rw[if_neg c,if_neg c];exact uo a _
  rw[if_neg e7,if_neg e7]
  by_cases e8:op≤27
  · rw[if_pos e8,if_pos e8]
    have:=num8 (last:=lastB op) a (numOp op) n st kd k1 hd h1 (numOp_in op) hnu
    rw[←g1]at this
    exact this
  rw[if_neg e8,if_neg e8]
  by_cases e9:op≤45
  · rw[if_pos e9,if_pos e9]
    by_cases c:(kd:Int)=0
    · rw[if_pos c]
      have e:(qn d p).set kd (alu op (d.get k1) (d.get k2))=qn d p:=by unfold qF.set;rw[c,setReg_zero']
      rw[e]
      exact did8_nop a
    · rw[if_neg c,Qx _ a.over,JR _ st 400 op rfl om om om]
      simp only[show ¬(400:Int)=100 by omega,show ¬(400:Int)=200 by omega,show ¬(400:Int)=300 by omega,if_false,if_true,sV]
      exact Ju a hd _
  rw[if_neg e9,if_neg e9]
  by_cases e10:op≤56
  · rw[if_pos e10,if_pos e10,Qx _ a.over,JR _ st 600 op rfl om om om]
    simp only[show ¬(600:Int)=100 by omega,show ¬(600:Int)=200 by omega,show ¬(600:Int)=300 by omega,show ¬(600:Int)=400 by omega,show ¬(600:Int)=500 by omega,if_false,if_true,sV]
    have:=atom8 (last:=lastB op) (op:=op) a kd k1 k2 hd h1 h2
    rw[←g1,←g2]at this
    exact this
  rw[if_neg e10,if_neg e10]
  by_cases e11:op=58
  · subst e11
    rw[if_pos rfl,if_pos rfl,Qx _ a.over]
    exact call8 a
  rw[if_neg e11,if_neg e11]
  by_cases e12:op=59
  · subst e12
    rw[if_pos rfl,if_pos rfl,Qx _ a.over]
    exact uo a _
  rw[if_neg e12,if_neg e12]
  exact did8_nop a
end
end Go.Proofs.YtlfnddmncbkjaabGreatDoor.Fb
