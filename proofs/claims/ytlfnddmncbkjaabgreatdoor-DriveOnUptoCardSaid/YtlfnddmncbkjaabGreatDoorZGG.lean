import Derived.Test.YtlfnddmncbkjaabGreatDoorZGF
set_option linter.unusedVariables false
set_option linter.unusedSimpArgs false
set_option maxRecDepth 100000
set_option maxHeartbeats 4000000
namespace Go.Proofs.YtlfnddmncbkjaabGreatDoor.W
open Go.RowKit Fb
end Go.Proofs.YtlfnddmncbkjaabGreatDoor.W
namespace Go.Proofs.YtlfnddmncbkjaabGreatDoor.Fb
open Go.RowKit
def RunD.hold(d:RunD)(b:Bool)(x:Int):RunD:={d with h:=d.h.hold b x}
def RunD.mem(d:RunD)(op a x:Int):RunD:={d with m:=Qh d.m op a x}
def RunD.atom(d:RunD)(op:Int)(kd ka kb:Nat):RunD:=
  if qX d.m 13 (d.get ka)=true then
    if op=46 then(d.hold true (d.get ka)).put kd (QB d.m 13 (d.get ka))
    else if op=47 then(if(d.h.held&&d.h.heldAt==d.get ka)=true then(((d.hold false 0).mem 18 (d.get ka) (d.get kb)).stored (d.get ka) 4).put kd 0 else(d.hold false 0).put kd 1)
    else((d.mem 18 (d.get ka) (amo op (QB d.m 13 (d.get ka)) (d.get kb))).stored (d.get ka) 4).put kd (QB d.m 13 (d.get ka))
  else d.trap (if op=46 then 3 else 4)
theorem get_u32{d:RunD}(wf:d.Wf)(k:Nat):U32 (d.get k):=by
  have key:∀(l:List Int) (j:Nat),(∀x∈l,U32 x)→U32 (l.getD j 0):=fun l j hl=>by
    by_cases hj:j<l.length
    · rw[List.getD_eq_getElem?_getD,sU hj];exact hl _ (sR hj)
    · rw[List.getD_eq_getElem?_getD,List.getElem?_eq_none om];exact jr
  unfold RunD.get;split
  · exact key _ _ wf.h.regs
  · exact key _ _ wf.temps
section
variable {rp : Nat} {TO TS : TypeId} {w : World} {d : RunD} {vm vo vs : Value}
end
end Go.Proofs.YtlfnddmncbkjaabGreatDoor.Fb
namespace Go.Proofs.YtlfnddmncbkjaabGreatDoor.W
open Go.RowKit Fb
end Go.Proofs.YtlfnddmncbkjaabGreatDoor.W
namespace Go.Proofs.YtlfnddmncbkjaabGreatDoor.Fb
open Go.RowKit
def namedK(c s:Int):Int:=
  if c=100 then(if 5≤s∧s≤10 then 14 else -1)
  else if c=200 then(if 11≤s∧s≤15 then 11 else -1)
  else if c=300 then(if 16≤s∧s≤18 then 14 else -1)
  else if c=400 then(if 28≤s∧s≤45 then 7 else -1)
  else if c=500 then(if 28≤s∧s≤45 then 11 else -1)
  else if c=600 then(if 46≤s∧s≤56 then 7 else -1)
  else -1
theorem namedI_k{op:Int}(h:¬(op=1∨op=3)∧¬op=2∧¬op=4∧¬(op=5∨op=6)):Qr op=namedK (op-op.tmod 100) (op.tmod 100):=by
  unfold Qr namedK
  rw[if_neg h.1,if_neg h.2.1,if_neg h.2.2.1,if_neg h.2.2.2]
end Go.Proofs.YtlfnddmncbkjaabGreatDoor.Fb
namespace Go.Proofs.YtlfnddmncbkjaabGreatDoor.W
open Go.RowKit Fb
end Go.Proofs.YtlfnddmncbkjaabGreatDoor.W
namespace Go.Proofs.YtlfnddmncbkjaabGreatDoor.Fb
open Go.RowKit
def RunD.call(d:RunD):RunD:=
  if d.h.reg 17=0 then {d with over:=true,h:=({d.h with state:=1}:Hart).setPc d.here}
  else if d.h.reg 17=1 then {d with out:=d.out++[d.h.reg 10]}
  else d.trap 5
def RunD.one(d:RunD)(m:MicD)(steps:Int):RunD:=
  if m.op=1 then(if(d.steps==steps||d.own)=true then d.stop m.n else {d with steps:=d.steps+1,here:=m.n})
  else if m.op=2 then d.put m.d.toNat m.n
  else if m.op=3 then d.stop m.n
  else if m.op=4 then d.stop (u32 (d.get m.a.toNat+m.n)-u32 (d.get m.a.toNat+m.n)%2)
  else if m.op=6 then d.trap 6
  else if m.op=5 then d.call
  else if m.op-m.op.tmod 100=100 then(if holds (m.op.tmod 100) (d.get m.a.toNat) (d.get m.b.toNat)=true then d.stop m.n else d)
  else if m.op-m.op.tmod 100=200 then(if qX d.m (m.op.tmod 100) (u32 (d.get m.a.toNat+m.n))=true then d.put m.d.toNat (QB d.m (m.op.tmod 100) (u32 (d.get m.a.toNat+m.n)))else d.trap 3)
  else if m.op-m.op.tmod 100=300 then(if qW d.m (m.op.tmod 100) (u32 (d.get m.a.toNat+m.n))=true then(d.mem (m.op.tmod 100) (u32 (d.get m.a.toNat+m.n)) (d.get m.b.toNat)).stored (u32 (d.get m.a.toNat+m.n)) (qP (m.op.tmod 100)).toNat else d.trap 4)
  else if m.op-m.op.tmod 100=400 then d.put m.d.toNat (alu (m.op.tmod 100) (d.get m.a.toNat) (d.get m.b.toNat))
  else if m.op-m.op.tmod 100=500 then d.put m.d.toNat (alu (m.op.tmod 100) (d.get m.a.toNat) m.n)
  else if m.op-m.op.tmod 100=600 then d.atom (m.op.tmod 100) m.d.toNat m.a.toNat m.b.toNat
  else d
section
variable {rp : Nat} {TO TS : TypeId} {w : World} {d : RunD} {vm vo vs : Value}
end
end Go.Proofs.YtlfnddmncbkjaabGreatDoor.Fb
namespace Go.Proofs.YtlfnddmncbkjaabGreatDoor.W
open Go.RowKit Fb
end Go.Proofs.YtlfnddmncbkjaabGreatDoor.W
namespace Go.Proofs.YtlfnddmncbkjaabGreatDoor.Fb
open Go.RowKit
end Go.Proofs.YtlfnddmncbkjaabGreatDoor.Fb
namespace Go.Proofs.YtlfnddmncbkjaabGreatDoor.W
open Go.RowKit Fb
end Go.Proofs.YtlfnddmncbkjaabGreatDoor.W
namespace Go.Proofs.YtlfnddmncbkjaabGreatDoor.Fb
open Go.RowKit
theorem Qd{P:Program}{w:World}{ops:Array Oper}{o:Oper}{a:Act}{K:Act→World→Prop}{Q:Exit→Act→World→Prop}{E:Prop}(hgd:o.guard=none)(s x:Operand)(t:TypeId)
    (ho:o.op=.call {callee:=.builtin .append,args:=#[s,x],argTypes:=#[t,t]})
    (base:Nat) (e:TypeId) (i:TypeInfo) (z:Value) (size bytes:Nat) (ht:P.underlying t=some (.slice e)) (hi:P.info? e=some i) (hz:i.zero=some z)
    (hsize:i.size=size) (hby:i.bytes=bytes) (hzs:z.cells.size=size) (hsz:0<size)
    (v:Value) (n:Nat) (xs:List Value) (hs:a.eval s=v) (hown:w.ownsRow base e size v n xs)
    (ad:Addr) (m c:Nat) (news:List Value) (hx:a.eval x=.slice (some ad) m c) (hl:news.length=m*size) (hnews:∀j u,news[j]? =some u→w.cell? (ad.add j)=some u) (h1:∀u∈news,u.oneCell'=true)
    (h63:n+m≤maxLen) (hbytes:(n+m)*bytes≤140737488355328) (hbase:base≤w.heap.size)
    (h:∀v' w',w'.ownsRow base e size v' (n+m) (xs++news)→w.grownBy w' v.ownBlock→(∀k,v'.ownBlock=some k→v.ownBlock=some k∨w.heap.size≤k)→K (a.put o.dst v') w'):
    if Region.wanted o (yielded ops a.tmps)=true then Oper.wp P o a w K Q else E:=by
  have hw:Region.wanted o (yielded ops a.tmps)=true:=wJ
  rw[if_pos hw]
  obtain⟨v',w',hr,h2,h3,_,h5⟩:=run_append_own_at (P:=P) w base t o.type e i z size bytes ht hi hz hsize hby hzs hsz v n xs hown ad m c news hl hnews h1 h63 hbytes hbase
  unfold Oper.wp execOp
  simp only[ho,resolve,invoke,builtin,Sem.run_bind,Sem.run_pure,Result.andThen_ok,List.map_toArray,List.map_cons,List.map_nil,hs,hx,hr]
  exact h v' w' h2 h3 (fun k e=>h5.elim (fun e2=>.inl (e2 ▸ e)) (fun e2=>.inr (by rw[e]at e2;cases e2;exact sN _)))
end Go.Proofs.YtlfnddmncbkjaabGreatDoor.Fb
namespace Go.Proofs.YtlfnddmncbkjaabGreatDoor.W
open Go.RowKit Fb
end Go.Proofs.YtlfnddmncbkjaabGreatDoor.W
namespace Go.Proofs.YtlfnddmncbkjaabGreatDoor.Fb
open Go.RowKit
theorem named_cls{op:Int}(h:0≤Qr op):(op=1∨op=2∨op=3∨op=4∨op=5∨op=6)∨(∃s,op=100+s∧5≤s∧s≤10)∨(∃s,op=200+s∧11≤s∧s≤15)∨(∃s,op=300+s∧16≤s∧s≤18)∨(∃s,op=400+s∧28≤s∧s≤45)∨(∃s,op=500+s∧28≤s∧s≤45)∨(∃s,op=600+s∧46≤s∧s≤56):=by
  by_cases hk:(op=1∨op=3)∨op=2∨op=4∨(op=5∨op=6)
  · left;omega
  rw[namedI_k ⟨fun e=>hk (.inl e),fun e=>hk (.inr (.inl e)),fun e=>hk (.inr (.inr (.inl e))),fun e=>hk (.inr (.inr (.inr e)))⟩]at h
  right
  obtain⟨s,hs⟩:∃s,s=op.tmod 100:=⟨_,rfl⟩
  obtain⟨c,hc⟩:∃c,c=op-s:=⟨_,rfl⟩
  rw[←hs,←hc]at h
  have e:op=c+s:=om
  unfold namedK at h
  by_cases c1:c=100
  · rw[if_pos c1]at h;split at h
    · left;exact⟨s,om,om,om⟩
    · omega
  rw[if_neg c1]at h
  by_cases c2:c=200
  · rw[if_pos c2]at h;split at h
    · right;left;exact⟨s,om,om,om⟩
    · omega
  rw[if_neg c2]at h
  by_cases c3:c=300
  · rw[if_pos c3]at h;split at h
    · right;right;left;exact⟨s,om,om,om⟩
    · omega
  rw[if_neg c3]at h
  by_cases c4:c=400
  · rw[if_pos c4]at h;split at h
    · right;right;right;left;exact⟨s,om,om,om⟩
    · omega
  rw[if_neg c4]at h
  by_cases c5:c=500
  · rw[if_pos c5]at h;split at h
    · right;right;right;right;left;exact⟨s,om,om,om⟩
    · omega
  rw[if_neg c5]at h
  by_cases c6:c=600
  · rw[if_pos c6]at h;split at h
    · right;right;right;right;right;exact⟨s,om,om,om⟩
    · omega
  rw[if_neg c6]at h
  omega
theorem mayM_named{m:MicD}(h:mayM m=true):0≤Qr m.op:=by
  unfold mayM at h
  rw[Bool.and_eq_true,Bool.and_eq_true,Bool.and_eq_true,Bool.and_eq_true]at h
  have:=h.1.1.1.1
  simp at this
  omega
end Go.Proofs.YtlfnddmncbkjaabGreatDoor.Fb
namespace Go.Proofs.YtlfnddmncbkjaabGreatDoor.W
open Go.RowKit Fb
end Go.Proofs.YtlfnddmncbkjaabGreatDoor.W
namespace Go.Proofs.YtlfnddmncbkjaabGreatDoor.Fb
open Go.RowKit
structure R7Near (d d':RunD):Prop where
  s0:d.steps≤d'.steps
  s1:d'.steps≤d.steps+1
  st:d'.stores.length≤d.stores.length+1
  ou:d'.out.length≤d.out.length+1
theorem put_same(d:RunD)(k:Nat)(x:Int):(d.put k x).steps=d.steps∧(d.put k x).stores=d.stores∧(d.put k x).out=d.out:=by
  unfold RunD.put;split<;>exact⟨rfl,rfl,rfl⟩
theorem UP(d:RunD)(k:Nat)(x:Int):R7Near d (d.put k x):=by
  obtain⟨h1,h2,h3⟩:=put_same d k x
  exact⟨by rw[h1];omega,by rw[h1];omega,by rw[h2];omega,by rw[h3];omega⟩
theorem Qu{d d':RunD}(h1:d'.steps=d.steps)(h2:d'.stores=d.stores)(h3:d'.out=d.out):R7Near d d':=⟨by rw[h1];omega,by rw[h1];omega,by rw[h2];omega,by rw[h3];omega⟩
theorem r7near_atom(d:RunD)(op:Int)(kd ka kb:Nat):R7Near d (d.atom op kd ka kb):=by
  have key:∀(e:RunD) (x:Int),e.steps=d.steps→e.stores.length≤d.stores.length+1→e.out=d.out→R7Near d (e.put kd x):=fun e x h1 h2 h3=>by
    obtain⟨q1,q2,q3⟩:=put_same e kd x
    exact⟨by rw[q1,h1];omega,by rw[q1,h1];omega,by rw[q2];exact h2,by rw[q3,h3];omega⟩
  unfold RunD.atom
  by_cases c1:qX d.m 13 (d.get ka)=true
  · rw[if_pos c1]
    by_cases c2:op=46
    · rw[if_pos c2];exact key _ _ rfl (by show d.stores.length≤_;omega) rfl
    rw[if_neg c2]
    by_cases c3:op=47
    · rw[if_pos c3]
      by_cases c4:(d.h.held&&d.h.heldAt==d.get ka)=true
      · rw[if_pos c4];exact key _ _ rfl (by show(d.stores++[_]).length≤_;simp) rfl
      · rw[if_neg c4];exact key _ _ rfl (by show d.stores.length≤_;omega) rfl
    · rw[if_neg c3];exact key _ _ rfl (by show(d.stores++[_]).length≤_;simp) rfl
  · rw[if_neg c1];exact Qu rfl rfl rfl
theorem r7near_one(d:RunD)(m:MicD)(steps:Int):R7Near d (d.one m steps):=by
  unfold RunD.one
  by_cases c1:m.op=1
  · rw[if_pos c1]
    by_cases c2:(d.steps==steps||d.own)=true
    · rw[if_pos c2];exact Qu rfl rfl rfl
    · rw[if_neg c2];exact⟨by show d.steps≤d.steps+1;omega,Int.le_refl _,by show d.stores.length≤_;omega,by show d.out.length≤_;omega⟩
  rw[if_neg c1]
  by_cases c2:m.op=2
  · rw[if_pos c2];exact UP _ _ _
  rw[if_neg c2]
  by_cases c3:m.op=3
  · rw[if_pos c3];exact Qu rfl rfl rfl
  rw[if_neg c3]
  by_cases c4:m.op=4
  · rw[if_pos c4];exact Qu rfl rfl rfl
  rw[if_neg c4]
  by_cases c6:m.op=6
  · rw[if_pos c6];exact Qu rfl rfl rfl
  rw[if_neg c6]
  by_cases c5:m.op=5
  · rw[if_pos c5]
    unfold RunD.call
    by_cases q0:d.h.reg 17=0
    · rw[if_pos q0];exact Qu rfl rfl rfl
    rw[if_neg q0]
    by_cases q1:d.h.reg 17=1
    · rw[if_pos q1];exact⟨Int.le_refl _,by show d.steps≤d.steps+1;omega,by show d.stores.length≤_;omega,by show(d.out++[_]).length≤_;simp⟩
    · rw[if_neg q1];exact Qu rfl rfl rfl
  rw[if_neg c5]
  generalize m.op.tmod 100=s
  by_cases k1:m.op-s=100
  · rw[if_pos k1]
    by_cases q:holds s (d.get m.a.toNat) (d.get m.b.toNat)=true
    · rw[if_pos q];exact Qu rfl rfl rfl
    · rw[if_neg q];exact Qu rfl rfl rfl
  rw[if_neg k1]
  by_cases k2:m.op-s=200
  · rw[if_pos k2]
    by_cases q:qX d.m s (u32 (d.get m.a.toNat+m.n))=true
    · rw[if_pos q];exact UP _ _ _
    · rw[if_neg q];exact Qu rfl rfl rfl
  rw[if_neg k2]
  by_cases k3:m.op-s=300
  · rw[if_pos k3]
    by_cases q:qW d.m s (u32 (d.get m.a.toNat+m.n))=true
    · rw[if_pos q];exact⟨Int.le_refl _,by show d.steps≤d.steps+1;omega,by show(d.stores++[_]).length≤_;simp,by show d.out.length≤_;omega⟩
    · rw[if_neg q];exact Qu rfl rfl rfl
  rw[if_neg k3]
  by_cases k4:m.op-s=400
  · rw[if_pos k4];exact UP _ _ _
  rw[if_neg k4]
  by_cases k5:m.op-s=500
  · rw[if_pos k5];exact UP _ _ _
  rw[if_neg k5]
  by_cases k6:m.op-s=600
  · rw[if_pos k6];exact r7near_atom _ _ _ _ _
  · rw[if_neg k6];exact Qu rfl rfl rfl
def runL(steps:Int):List MicD→RunD→RunD
  |[],d=>d
  |m::r,d=>if d.over=true then d else runL steps r (d.one m steps)
theorem uW{steps:Int}{l:List MicD}{d:RunD}(h:d.over=true):runL steps l d=d:=by
  cases l with
  |nil=>rfl
  |cons m r=>unfold runL;rw[if_pos h]
def RunD.fin(d:RunD):RunD:=if d.over=false∧0<d.steps then {d with h:=d.h.setPc (u32 (d.here+4))} else d
def run0(h:Hart)(m:List Int)(bf bt:Int):RunD:=⟨h,m,[],0,[],[0,0,0,0],h.pc,false,false,bf,bt⟩
theorem run0_wf{h:Hart}(wf:h.Wf){m:List Int}(hb:jE m)(hl:m.length≤140737488351232){bf bt:Int}(h1:U32 bf)(h2:U32 bt):(run0 h m bf bt).Wf:=
  ⟨wf,hb,hl,yD,⟨by show -9223372036854775808≤(0:Int);omega,by show(0:Int)≤9223372036854775807;omega⟩,yD,rfl,(by intro x hx;simp[run0]at hx;rw[hx];exact jr),wf.pc,h1,h2⟩
def QG(d:RunD)(cp:Nat)(vs:Value)(steps:Int):List Value:=
  [.pointer (some ⟨cp,0,none⟩),.int .u32 d.bf,.int .u32 d.bt,.int .i64 (steps-d.steps),.int .i64 d.steps,vs]++(d.temps.map (Value.int .u32)++[.int .u32 d.here,.bool d.own])
def RunD.core(d:RunD)(fr tw:Int):qF:=⟨d.h,d.m,d.out,fr,tw⟩
structure R8 (rp cp hb po:Nat) (vm:Value) (TU TS TR:TypeId) (w:World) (d:RunD) (vs:Value) (steps fr tw:Int):Prop where
  wf:d.Wf
  olen:d.out.length≤1099511627776
  mmax:d.m.length≤4096
  ufr:U32 fr
  utw:U32 tw
  core:qK cp hb po vm TU w (d.core fr tw)
  lt:cp<rp
  at_:At w rp 0 (QG d cp vs steps)
  frz:∀o,w.frozen? ⟨rp,o,none⟩=false
  ty:∃cs f,w.heap[rp]? =some (.cells cs TR f)
  sto:w.ownsRow (rp+1) TS 2 vs d.stores.length (d.stores.flatMap rg)
structure G8 (rp:Nat) (TU:TypeId) (cp hb po:Nat) (vm:Value) (w w':World):Prop where
  os:w'.os=w.os
  tape:w'.tape=w.tape
  output:w'.output=w.output
  size:w.heap.size≤w'.heap.size
  block:∀k,k<w.heap.size→k≠hb→vm.ownBlock≠some k→(k<cp∨(cp<k∧k<rp∧∀cs f,w.heap[k]? ≠some (.cells cs TU f)))→w'.heap[k]? =w.heap[k]?
  cell:∀o,(o<po∨po+37≤o)→w'.cell? ⟨hb,o,none⟩=w.cell? ⟨hb,o,none⟩
  shape:∀k,k<w.heap.size→k<cp→QK w'.heap[k]? w.heap[k]?
theorem jQ{w:World}{b i:Nat}{v:Value}{T:TypeId}(h:∃cs f,w.heap[b]? =some (.cells cs T f)):∃cs f,(w.setCell ⟨b,i,none⟩ v).heap[b]? =some (.cells cs T f):=by
  obtain⟨cs,f,h⟩:=h
  simp only[World.setCell,Array.getElem?_modify]
  rw[if_pos trivial,h]
  exact⟨_,_,rfl⟩
section
variable {rp cp hb po : Nat} {vm : Value} {TU TS TR : TypeId} {w w' w'' : World} {d d' : RunD} {vs : Value} {steps fr tw : Int}
theorem G8.refl:G8 rp TU cp hb po vm w w:=⟨rfl,rfl,rfl,sN _,fun _ _ _ _ _=>rfl,fun _ _=>rfl,fun _ _ _=>QK.refl _⟩
theorem G8.trans(h:G8 rp TU cp hb po vm w w')(k:G8 rp TU cp hb po vm w' w''):G8 rp TU cp hb po vm w w'':=
  ⟨k.os.trans h.os,k.tape.trans h.tape,k.output.trans h.output,Nat.le_trans h.size k.size,fun j h0 h1 h2 h3=>by
    have e:=h.block j h0 h1 h2 h3
    refine(k.block j (Nat.lt_of_lt_of_le h0 h.size) h1 h2 ?_).trans e
    rw[e];exact h3,fun o ho=>(k.cell o ho).trans (h.cell o ho),fun i hi hc=>(k.shape i (Nat.lt_of_lt_of_le hi h.size) hc).trans (h.shape i hi hc)⟩
theorem G8.below(hb':Below w.heap.size w w')(hc:hb<w.heap.size):G8 rp TU cp hb po vm w w':=⟨hb'.os,hb'.tape,hb'.output,hb'.size,fun k h0 _ _ _=>hb'.block k h0,fun o _=>hb'.cell (p:=⟨hb,o,none⟩) hc,fun k h0 _=>QK.of_eq (hb'.block k h0)⟩
theorem G8.cgo(h:Cgo cp hb po vm TU w w')(_:hb<w.heap.size):G8 rp TU cp hb po vm w w':=
  ⟨h.os,h.tape,h.output,h.size,fun k h0 h1 h2 h3=>h.block k h0 h1 h2 (h3.imp id (fun h4=>⟨h4.1,h4.2.2⟩)),h.cell,h.shape⟩
theorem G8.set(hh:cp≤rp∧hb<rp)(o:Nat)(v:Value):G8 rp TU cp hb po vm w (w.setCell ⟨rp,o,none⟩ v):=
  ⟨rfl,rfl,rfl,by simp,fun k _ _ _ h3=>sT _ _ _ _ (by show k≠rp;omega),fun o2 _=>sJ _ _ _ _ wI,fun k _ _=>Qe _ _ _ _⟩
theorem r8_len(ht:d.temps.length=4):(QG d cp vs steps).length=12:=by simp[QG,ht]
theorem QQ(j:Nat)(hj:j<6):(QG d cp vs steps)[j]? =[Value.pointer (some ⟨cp,0,none⟩),.int .u32 d.bf,.int .u32 d.bt,.int .i64 (steps-d.steps),.int .i64 d.steps,vs][j]? :=by
  unfold QG
  rw[List.getElem?_append_left wF]
theorem r8_temp(ht:d.temps.length=4){k:Nat}(hk:k<4):(QG d cp vs steps)[6+k]? =some (.int .u32 (d.temps.getD k 0)):=by
  unfold QG
  rw[List.getElem?_append_right zC,List.getElem?_append_left zN]
  simp[List.getD,show k<d.temps.length by omega]
theorem Jc(ht:d.temps.length=4)(j:Nat):(QG d cp vs steps)[10+j]? =[Value.int .u32 d.here,.bool d.own][j]? :=by
  unfold QG
  rw[List.getElem?_append_right zN,List.getElem?_append_right (by simp[ht];omega)]
  congr 1
  simp[ht];omega
theorem r8_setTemp(ht:d.temps.length=4){k:Nat}(hk:k<4)(x:Int):(QG d cp vs steps).set (6+k) (.int .u32 x)=QG {d with temps:=d.temps.set k x} cp vs steps:=by
  unfold QG
  rw[List.set_append_right _ _ zC,List.set_append_left _ _ zN,List.map_set]
  simp
theorem r8_setEnd(ht:d.temps.length=4){j:Nat}{v:Value}(h1:d'.bf=d.bf)(h2:d'.bt=d.bt)(h3:d'.steps=d.steps)(h4:d'.temps=d.temps)(e:[Value.int .u32 d'.here,.bool d'.own]=[Value.int .u32 d.here,.bool d.own].set j v):
    (QG d cp vs steps).set (10+j) v=QG d' cp vs steps:=by
  unfold QG
  rw[List.set_append_right _ _ zN,List.set_append_right _ _ (by simp[ht];omega),h1,h2,h3,h4,e]
  congr 3
  simp[ht];omega
theorem qK.keeps{ty:TypeId}{d:qF}(h:qK cp hb po vm ty w d)(hs:w.heap.size≤w'.heap.size)(hk:∀k,k<w.heap.size→(k≤cp∨∃cs f,w.heap[k]? =some (.cells cs ty f))→w'.heap[k]? =w.heap[k]?):qK cp hb po vm ty w' d:=by
  have h1:=h.lt
  have h2:=h.hlt
  have hbl:=h.hbl
  have e1:=hk cp h1 (.inl (sN _))
  have e2:=hk hb h2 (.inl om)
  refine⟨h.hbl,(qA e1 _).trans h.ptr,(qA e1 _).trans h.mem,(qA e1 _).trans h.fr,(qA e1 _).trans h.tw,fun o=>(qL e1 o).trans (h.frz o),fun j hj=>(qA e2 _).trans (h.hart j hj),fun o=>(qL e2 o).trans (h.hfz o), ?_,fun b off n c e=> ?_, ?_,h.mlt⟩
  · refine r7ints_keep h.bytes (fun hn q e=> ?_)
    have hq:=h.mlt q e
    exact hk q om (.inl om)
  · obtain⟨x1,x2,x3,x4⟩:=h.mfz b off n c e
    have e3:=hk b x3 (.inl om)
    exact⟨x1,x2,Nat.lt_of_lt_of_le x3 hs,fun o=>(qL e3 o).trans (x4 o)⟩
  · obtain⟨vo,y1,y2⟩:=h.row
    refine⟨vo,(qA e1 _).trans y1,qI y2 (fun g e=> ?_)⟩
    refine hk g (y2.lt g e).2 (.inr ?_)
    rcases y2.2 with⟨rfl,_⟩|⟨g1,_,c1,rfl,_,q1,_⟩
    · cases e
    · cases e
      exact⟨_,_,q1⟩
theorem R8.rlt(h:R8 rp cp hb po vm TU TS TR w d vs steps fr tw):rp<w.heap.size:=by
  have h1:=h.at_ 0 (by rw[r8_len h.wf.tlen];omega)
  exact qD h1
theorem R8.clt(h:R8 rp cp hb po vm TU TS TR w d vs steps fr tw):hb<w.heap.size:=by have:=h.rlt;have:=h.lt;have:=h.core.hbl;omega
theorem R8.lts(h:R8 rp cp hb po vm TU TS TR w d vs steps fr tw):cp≤rp∧hb<rp:=by have:=h.lt;have:=h.core.hbl;omega
theorem R8.below(h:R8 rp cp hb po vm TU TS TR w d vs steps fr tw)(hb':Below w.heap.size w w'):R8 rp cp hb po vm TU TS TR w' d vs steps fr tw:=by
  have h1:=h.rlt
  obtain⟨cs,f,hty⟩:=h.ty
  exact⟨h.wf,h.olen,h.mmax,h.ufr,h.utw,h.core.below hb',h.lt,h.at_.below hb',fun o=>(hb'.frozen (p:=⟨rp,o,none⟩) h1).trans (h.frz o),⟨cs,f,(hb'.block rp h1).trans hty⟩,qQ h.sto hb'⟩
theorem own_type{B:Nat}{e:TypeId}{k:Nat}{v:Value}{n:Nat}{xs:List Value}(h:w.ownsRow B e k v n xs){g:Nat}(hg:v.ownBlock=some g):∃cs f,w.heap[g]? =some (.cells cs e f):=by
  rcases h.2 with⟨rfl,_⟩|⟨g1,_,c1,rfl,_,q1,_⟩
  · cases hg
  · cases hg
    exact⟨_,_,q1⟩
theorem R8.cgo(h:R8 rp cp hb po vm TU TS TR w d vs steps fr tw){fr' tw':Int}(hc:qK cp hb po vm TU w' (d'.core fr' tw'))(hg:Cgo cp hb po vm TU w w')(hR:TR≠TU)(hS:TS≠TU)
    (wf:d'.Wf) (ho:d'.out.length≤1099511627776) (hm:d'.m.length≤4096) (hf:U32 fr') (ht:U32 tw') (e1:d'.bf=d.bf) (e2:d'.bt=d.bt) (e3:d'.steps=d.steps) (e4:d'.temps=d.temps) (e5:d'.here=d.here) (e6:d'.own=d.own) (e7:d'.stores=d.stores):
    R8 rp cp hb po vm TU TS TR w' d' vs steps fr' tw':=by
  have h1:=h.rlt
  have h2:=h.lt
  have h3:=h.core.hbl
  obtain⟨cs,f,hty⟩:=h.ty
  have hrp:w'.heap[rp]? =w.heap[rp]? :=hg.block rp h1 om (fun e=>by have:=h.core.mlt _ e;omega) (.inr ⟨h2,fun cs2 f2 e=>by rw[hty]at e;cases e;exact hR rfl⟩)
  have hl:QG d' cp vs steps=QG d cp vs steps:=by unfold QG;rw[e1,e2,e3,e4,e5,e6]
  refine⟨wf,ho,hm,hf,ht,hc,h2, ?_,fun o=>(qL hrp o).trans (h.frz o),⟨cs,f,hrp.trans hty⟩, ?_⟩
  · rw[hl];exact fun j hj=>(qA hrp _).trans (h.at_ j hj)
  · rw[e7]
    refine qI h.sto (fun g e=> ?_)
    have hg2:=h.sto.lt g e
    obtain⟨cs3,f3,hty3⟩:=own_type h.sto e
    exact hg.block g hg2.2 om (fun e=>by have:=h.core.mlt _ e;omega) (.inr ⟨om,fun cs2 f2 e=>by rw[hty3]at e;cases e;exact hS rfl⟩)
theorem R8.setCell2{steps':Int}(h:R8 rp cp hb po vm TU TS TR w d vs steps fr tw)(hR:TR≠TU)(i:Nat)(hi:i<12)(v:Value)(hl:(QG d cp vs steps).set i v=QG d' cp vs steps')(hh:d'.h=d.h)(hm:d'.m=d.m)(ho:d'.out=d.out)(hs:d'.stores=d.stores)(wf:d'.Wf):
    R8 rp cp hb po vm TU TS TR (w.setCell ⟨rp,i,none⟩ v) d' vs steps' fr tw:=by
  have h1:=h.rlt
  have h2:=h.lt
  obtain⟨cs,f,hty⟩:=h.ty
  refine⟨wf,by rw[ho];exact h.olen,by rw[hm];exact h.mmax,h.ufr,h.utw, ?_,h2, ?_,fun o=>(sL _ _ _ _).trans (h.frz o),jQ h.ty, ?_⟩
  · have e:d'.core fr tw=d.core fr tw:=by unfold RunD.core;rw[hh,hm,ho]
    rw[e]
    refine h.core.keeps zC (fun k hk hor=>sT _ _ _ _ ?_)
    show k≠rp
    rcases hor with h3|⟨cs2,f2,h3⟩
    · omega
    · intro e2;subst e2;rw[hty]at h3;cases h3;exact hR rfl
  · have:=h.at_.set i (by rw[r8_len h.wf.tlen];exact hi) v
    rw[sM,hl]at this
    exact this
  · rw[hs];exact ownsRow_setCell_below h.sto (a:=⟨rp,i,none⟩) (Nat.lt_succ_self rp) v
theorem R8.setCell(h:R8 rp cp hb po vm TU TS TR w d vs steps fr tw)(hR:TR≠TU)(i:Nat)(hi:i<12)(v:Value)(hl:(QG d cp vs steps).set i v=QG d' cp vs steps)(hh:d'.h=d.h)(hm:d'.m=d.m)(ho:d'.out=d.out)(hs:d'.stores=d.stores)(wf:d'.Wf):
    R8 rp cp hb po vm TU TS TR (w.setCell ⟨rp,i,none⟩ v) d' vs steps fr tw:=h.setCell2 hR i hi v hl hh hm ho hs wf
theorem r8_sto{w2 w3:World}{v':Value}(h:R8 rp cp hb po vm TU TS TR w d vs steps fr tw)(hR:TR≠TU)(hS:TS≠TU)(hb':Below w.heap.size w w2){p:Int × Int}(hp:U32 p.1∧U32 p.2)
    (hown:w3.ownsRow (rp+1) TS 2 v' (d.stores.length+1) (d.stores.flatMap rg++rg p)) (hg:w2.grownBy w3 vs.ownBlock):
    R8 rp cp hb po vm TU TS TR (w3.setCell ⟨rp,5,none⟩ v') {d with stores:=d.stores++[p]} v' steps fr tw∧G8 rp TU cp hb po vm w (w3.setCell ⟨rp,5,none⟩ v'):=by
  have h2:=h.below hb'
  have h1:=h2.rlt
  have h3:=h2.lt
  obtain⟨cs,f,hty⟩:=h2.ty
  have hrp:vs.ownBlock≠some rp:=fun e=>by have:=(h2.sto.lt rp e).1;omega
  have e2:∀k,k<w2.heap.size→vs.ownBlock≠some k→w3.heap[k]? =w2.heap[k]? :=fun k hk1 hk2=>hg.block k hk1 (fun e=>hk2 e.symm)
  have hwf:({d with stores:=d.stores++[p]}:RunD).Wf:={h.wf with stores:=fun q hq=>(List.mem_append.1 hq).elim (h.wf.stores q) (fun hq=>(List.mem_singleton.1 hq) ▸ hp)}
  have hcore:qK cp hb po vm TU w3 (d.core fr tw):=h2.core.keeps hg.size (fun k hk hor=>e2 k hk (fun e=>by
    have hl:=h2.sto.lt k e
    rcases hor with h4|⟨cs2,f2,h4⟩
    · omega
    · obtain⟨cs3,f3,h5⟩:=own_type h2.sto e
      rw[h4]at h5;cases h5;exact hS rfl))
  have hat:At w3 rp 0 (QG d cp vs steps):=fun j hj=>(World.cell?_of_block (e2 rp h1 hrp)).trans (h2.at_ j hj)
  have hl:(QG d cp vs steps).set 5 v'=QG {d with stores:=d.stores++[p]} cp v' steps:=by
    unfold QG
    rw[List.set_append_left _ _ zC]
    rfl
  refine⟨⟨hwf,h.olen,h.mmax,h.ufr,h.utw, ?_,h3, ?_,fun o=>(sL _ _ _ _).trans ((qL (e2 rp h1 hrp) o).trans (h2.frz o)),jQ ⟨cs,f,(e2 rp h1 hrp).trans hty⟩, ?_⟩, ?_⟩
  · refine qK.keeps hcore zC (fun k hk hor=>sT _ _ _ _ ?_)
    show k≠rp
    rcases hor with h4|⟨cs2,f2,h4⟩
    · omega
    · intro e3;subst e3;rw[e2 k h1 hrp,hty]at h4;cases h4;exact hR rfl
  · have:=hat.set 5 (by rw[r8_len h.wf.tlen];omega) v'
    rw[sM,hl]at this
    exact this
  · have:=ownsRow_setCell_below hown (a:=⟨rp,5,none⟩) (Nat.lt_succ_self rp) v'
    simpa using this
  · have hc:=h.clt
    refine(G8.below hb' hc).trans (G8.trans (w':=w3) ⟨hg.os,hg.tape,hg.output,hg.size,fun k h0 _ _ hk=>e2 k h0 (fun e=>by have:=(h2.sto.lt k e).1;omega),fun o _=>qA (e2 hb h2.clt (fun e=>by have:=(h2.sto.lt hb e).1;have:=h2.core.hbl;omega)) o,fun k h0 hk=>QK.of_eq (e2 k h0 (fun e=>by have:=(h2.sto.lt k e).1;have:=h2.lts;omega))⟩ (G8.set h2.lts _ _))
theorem R8.setFrTo(h:R8 rp cp hb po vm TU TS TR w d vs steps fr tw)(hR:TR≠TU)(hS:TS≠TU):R8 rp cp hb po vm TU TS TR ((w.setCell ⟨cp,3,none⟩ (.int .u32 0)).setCell ⟨cp,4,none⟩ (.int .u32 0)) d vs steps 0 0∧G8 rp TU cp hb po vm w ((w.setCell ⟨cp,3,none⟩ (.int .u32 0)).setCell ⟨cp,4,none⟩ (.int .u32 0)):=by
  have hbl:=h.core.hbl
  have hc:=(h.core.setFr 0).setTo 0
  have hg:Cgo cp hb po vm TU w ((w.setCell ⟨cp,3,none⟩ (.int .u32 0)).setCell ⟨cp,4,none⟩ (.int .u32 0)):=(Cgo.setCore w hbl 3 _).trans (Cgo.setCore _ hbl 4 _)
  exact⟨h.cgo (d':=d) (fr':=0) (tw':=0) hc hg hR hS h.wf h.olen h.mmax jr jr rfl rfl rfl rfl rfl rfl rfl,G8.cgo hg h.clt⟩
end
theorem hits_ends{a bf bt:Int}{n:Nat}(ha:0≤a)(hn:0<n)(hle:a+n≤4294967295):hits a bf bt n=(decide (bf<bt)&&decide (a<bt)&&decide (bf<a+n)):=by
  have e:∀k:Nat,k<n→u32 (a+(k:Int))=a+k:=fun k hk=>by unfold u32;omega
  rw[Bool.eq_iff_iff]
  unfold hits
  simp only[List.any_eq_true,List.mem_range,decide_eq_true_eq,Bool.and_eq_true]
  constructor
  · rintro⟨k,hk,h1,h2⟩
    rw[e k hk]at h1 h2
    omega
  · rintro⟨⟨h1,h2⟩,h3⟩
    by_cases hc:bf≤a
    · exact⟨0,hn,by rw[e 0 hn];omega⟩
    · exact⟨(bf-a).toNat,om,by rw[e _ om];omega⟩
end Go.Proofs.YtlfnddmncbkjaabGreatDoor.Fb
