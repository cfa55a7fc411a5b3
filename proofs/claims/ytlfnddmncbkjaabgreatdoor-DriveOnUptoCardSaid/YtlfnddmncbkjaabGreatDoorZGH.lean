import Derived.Test.YtlfnddmncbkjaabGreatDoorZGG
set_option linter.unusedVariables false
set_option linter.unusedSimpArgs false
set_option maxRecDepth 100000
set_option maxHeartbeats 4000000
namespace Go.Proofs.YtlfnddmncbkjaabGreatDoor.Fb
open Go.RowKit
def RunD.core0(d:RunD):qF:=⟨d.h,d.m,[],0,0⟩
def own8(bf bt:Int)(c:qF):Bool:=decide (c.fr<c.tw)&&(decide (c.fr<bt)&&decide (bf<c.tw))
def jD(d:RunD):RunD:={d with h:=(goS d.core0).h,m:=(goS d.core0).m,out:=d.out++(goS d.core0).out,steps:=d.steps+1,stores:=if(goS d.core0).fr<(goS d.core0).tw then d.stores++[((goS d.core0).fr,(goS d.core0).tw)]else d.stores}
def brk8(bf bt p:Int)(c:qF):Bool:=c.h.state !=0||c.h.pc !=p||own8 bf bt c
def pl8(pc:Int)(k:Nat):Int:=u32 (pc+u32 (4*(k:Int)))
def js(bf bt steps:Int):Nat→Nat→RunD→RunD
  |0,_,d=>d
  |n+1,k,d=>if d.steps<steps then(if brk8 bf bt (pl8 bf (k+1)) (goS d.core0)=true then jD d else js bf bt steps n (k+1) (jD d))else d
structure Did8 (d e:RunD) (c:qF) (p:Int) (last:Bool):Prop where
  m:e.m=c.m
  out:e.out=d.out++c.out
  steps:e.steps=d.steps
  here:e.here=p
  tl:e.temps.length=4
  bf:e.bf=d.bf
  bt:e.bt=d.bt
  stores:e.stores=if c.fr<c.tw then d.stores++[(c.fr,c.tw)]else d.stores
  own:e.own=(d.own||own8 d.bf d.bt c)
  yes:e.over=true→e.h=c.h∧(c.h.state≠0∨last=true)
  no:e.over=false→e.h.setPc (u32 (p+4))=c.h∧c.h.state=0
structure At8 (d:RunD) (p:Int):Prop where
  over:d.over=false
  here:d.here=p
  tl:d.temps.length=4
  state:d.h.state=0
  zero:d.h.regs.getD 0 0=0
  len:d.h.regs.length=32
  regs:∀x∈d.h.regs,U32 x
  mlen:d.m.length≤4096
  b:d.bf<d.bt
def qp(d:RunD)(p:Int):qF:=⟨d.h.setPc p,d.m,[],0,0⟩
section
variable {d : RunD} {p : Int} {last : Bool}
theorem JB(bf bt:Int){c:qF}(h:¬c.fr<c.tw):own8 bf bt c=false:=by unfold own8;rw[decide_eq_false h];rfl
theorem setReg_pc(h:Hart)(p q r x:Int):(h.setReg r x).setPc q=((h.setPc p).setReg r x).setPc q:=by
  unfold Hart.setReg;split<;>rfl
theorem UM(h:Hart)(r x:Int):(h.setReg r x).state=h.state:=by unfold Hart.setReg;split<;>rfl
theorem setReg_zero'(h:Hart)(x:Int):h.setReg 0 x=h:=by unfold Hart.setReg;rw[if_neg om]
theorem UQ{k:Nat}(hk:k<32)(x:Int):d.put k x={d with h:=d.h.setReg k x}:=by unfold RunD.put;rw[if_neg om]
theorem get8_h{k:Nat}(hk:k<32):d.get k=(qp d p).h.reg (k:Int):=by
  unfold RunD.get Hart.reg;rw[if_pos hk]
  simp[qp,Hart.setPc]
theorem cZ{p:Prop}(h:p:=by
 rw[JB _ _ (by show ¬(0:Int)<0;omega),Bool.or_false]<;>rfl):p:=h
theorem Jv(a:At8 d p){k:Nat}(hk:k<32)(x:Int):Did8 d (d.put k x) (((qp d p).set k x).setPc (u32 (p+4))) p last:=by
  rw[UQ hk]
  refine⟨rfl,(List.append_nil _).symm,rfl,a.here,a.tl,rfl,rfl,rfl, ?_,fun h=>absurd (show d.over=true from h) (by rw[a.over];decide),fun _=>⟨setReg_pc d.h p _ k x, ?_⟩⟩
  · exact cZ
  · show((d.h.setPc p).setReg k x).state=0
    rw[UM];exact a.state
theorem did8_nop(a:At8 d p):Did8 d d ((qp d p).setPc (u32 (p+4))) p last:=by
  refine⟨rfl,(List.append_nil _).symm,rfl,a.here,a.tl,rfl,rfl,rfl, ?_,fun h=>absurd h (by rw[a.over];decide),fun _=>⟨rfl,a.state⟩⟩
  exact cZ
theorem uq(a:At8 d p)(c:Int):Did8 d (d.trap c) ((qp d p).trap c) p last:=by
  refine⟨rfl,(List.append_nil _).symm,rfl,a.here,a.tl,rfl,rfl,rfl, ?_,fun _=>⟨?_,.inl (by show(2:Int)≠0;decide)⟩,fun h=>by cases h⟩
  · exact cZ
  · show(d.h.trap c).setPc d.here=(d.h.setPc p).trap c
    rw[a.here];rfl
theorem did8_stop(a:At8 d p)(q:Int):Did8 d (d.stop q) ((qp d p).setPc q) p true:=by
  refine⟨rfl,(List.append_nil _).symm,rfl,a.here,a.tl,rfl,rfl,rfl, ?_,fun _=>⟨rfl,.inr rfl⟩,fun h=>by cases h⟩
  exact cZ
theorem did8_jal(a:At8 d p){k:Nat}(hk:k<32)(x q:Int):Did8 d ((d.put k x).stop q) (((qp d p).set k x).setPc q) p true:=by
  rw[UQ hk]
  refine⟨rfl,(List.append_nil _).symm,rfl,a.here,a.tl,rfl,rfl,rfl, ?_,fun _=>⟨setReg_pc d.h p q k x,.inr rfl⟩,fun h=>by cases h⟩
  exact cZ
theorem did8_jalr(a:At8 d p){k:Nat}(hk:k<32)(s x q:Int):Did8 d (((d.put 32 s).put k x).stop q) (((qp d p).set k x).setPc q) p true:=by
  have e:d.put 32 s={d with temps:=d.temps.set 0 s}:=by unfold RunD.put;rw[if_pos om]
  rw[e]
  have a':At8 {d with temps:=d.temps.set 0 s} p:={a with tl:=by show(d.temps.set 0 s).length=4;rw[List.length_set];exact a.tl}
  have h:=did8_jal a' hk x q
  exact⟨h.m,h.out,h.steps,h.here,h.tl,h.bf,h.bt,h.stores,h.own,h.yes,h.no⟩
theorem jalr_get(a:At8 d p){k:Nat}(hk:k<32)(s x:Int):((d.put 32 s).put k x).get 32=s:=by
  rw[UQ hk]
  unfold RunD.get RunD.put
  rw[if_neg om,if_pos om]
  obtain⟨a0,t,ht⟩:∃a0 t,d.temps=a0::t:=by
    cases h:d.temps with
    |nil=>have:=a.tl;rw[h]at this;cases this
    |cons a0 t=>exact⟨a0,t,rfl⟩
  show(d.temps.set (32-32) s).getD (32-32) 0=s
  rw[ht];rfl
theorem jX{l:List Int}{op a:Int}(h:qW l op a=true):0<qP op∧qP op≤4∧a+qP op≤l.length:=by
  unfold qW there at h
  simp only[Bool.and_eq_true,decide_eq_true_eq]at h
  refine⟨h.2.1.1, ?_,h.2.2⟩
  unfold qP;repeat' split
  all_goals omega
theorem put8_eq(a:At8 d p){op at_:Int}(x:Int)(hq:qW d.m op at_=true)(ha:0≤at_):(qp d p).put op at_ x={(qp d p)with m:=Qh d.m op at_ x,fr:=at_,tw:=at_+qP op}:=by
  obtain⟨h1,h2,h3⟩:=jX hq
  have hl:=a.mlen
  unfold qF.put
  rw[if_pos (show qW (qp d p).m op at_=true from hq)]
  show({(qp d p)with m:=Qh d.m op at_ x,fr:=at_,tw:=(at_+qP op)%4294967296}:qF)=_
  rw[Int.emod_eq_of_lt om om]
theorem did8_store(a:At8 d p){op at_:Int}(x:Int)(hq:qW d.m op at_=true)(ha:0≤at_)(f:Hart→Hart)(hf:∀h q,(f h).setPc q=(f (h.setPc p)).setPc q)(hs:(f (d.h.setPc p)).state=0):
    Did8 d {(d.mem op at_ x).stored at_ (qP op).toNat with h:=f d.h} {(qp d p)with h:=(f (d.h.setPc p)).setPc (u32 (p+4)),m:=Qh d.m op at_ x,fr:=at_,tw:=at_+qP op} p last:=by
  obtain⟨h1,h2,h3⟩:=jX hq
  have hl:=a.mlen
  have hc:at_<at_+qP op:=om
  have hn:((qP op).toNat:Int)=qP op:=Int.toNat_of_nonneg om
  have hu:u32 (at_+((qP op).toNat:Int))=at_+qP op:=by rw[hn];unfold u32;omega
  refine⟨rfl,(List.append_nil _).symm,rfl,a.here,a.tl,rfl,rfl, ?_, ?_,fun h=> ?_,fun _=>⟨hf d.h _,hs⟩⟩
  · show d.stores++[(at_,u32 (at_+((qP op).toNat:Int)))]=if at_<at_+qP op then _ else _
    rw[if_pos hc,hu]
  · show(d.own||hits at_ d.bf d.bt (qP op).toNat)=(d.own||own8 d.bf d.bt _)
    have e2:=hits_ends (bf:=d.bf) (bt:=d.bt) ha (show 0<(qP op).toNat by omega) om
    rw[e2,hn]
    unfold own8
    show _=(d.own||(decide (at_<at_+qP op)&&(decide (at_<d.bt)&&decide (d.bf<at_+qP op))))
    rw[decide_eq_true a.b,decide_eq_true hc,Bool.true_and,Bool.true_and]
  · exact absurd (show d.over=true from h) (by rw[a.over];decide)
theorem did8_f(a:At8 d p)(f:Hart→Hart)(hf:∀h q,(f h).setPc q=(f (h.setPc p)).setPc q)(hs:(f (d.h.setPc p)).state=0):
    Did8 d {d with h:=f d.h} {(qp d p)with h:=(f (d.h.setPc p)).setPc (u32 (p+4))} p last:=by
  refine⟨rfl,(List.append_nil _).symm,rfl,a.here,a.tl,rfl,rfl,rfl, ?_,fun h=>absurd (show d.over=true from h) (by rw[a.over];decide),fun _=>⟨hf d.h _,hs⟩⟩
  exact cZ
theorem JS(m:MicD)(st c s:Int)(hm:m.op=c+s)(hc:c=100∨c=200∨c=300∨c=400∨c=500∨c=600)(h0:0≤s)(h1:s<100):d.one m st=
    if c=100 then(if holds s (d.get m.a.toNat) (d.get m.b.toNat)=true then d.stop m.n else d)
    else if c=200 then(if qX d.m s (u32 (d.get m.a.toNat+m.n))=true then d.put m.d.toNat (QB d.m s (u32 (d.get m.a.toNat+m.n)))else d.trap 3)
    else if c=300 then(if qW d.m s (u32 (d.get m.a.toNat+m.n))=true then(d.mem s (u32 (d.get m.a.toNat+m.n)) (d.get m.b.toNat)).stored (u32 (d.get m.a.toNat+m.n)) (qP s).toNat else d.trap 4)
    else if c=400 then d.put m.d.toNat (alu s (d.get m.a.toNat) (d.get m.b.toNat))
    else if c=500 then d.put m.d.toNat (alu s (d.get m.a.toNat) m.n)
    else if c=600 then d.atom s m.d.toNat m.a.toNat m.b.toNat
    else d:=by
  obtain⟨e1,e2⟩:=jI c s hc h0 h1
  unfold RunD.one
  rw[if_neg om,if_neg om,if_neg om,if_neg om,if_neg om,if_neg om,hm,e2,e1]
theorem Qy{st:Int}(m:MicD)(h:d.over=false):runL st [m] d=d.one m st:=by
  rw[runL,if_neg (by rw[h];decide)]
  rfl
theorem uY{st:Int}(m:MicD)(r:List MicD)(h:d.over=false):runL st (m::r) d=runL st r (d.one m st):=by
  rw[runL,if_neg (by rw[h];decide)]
theorem runL_append{st:Int}:∀(a b:List MicD) (d:RunD),runL st (a++b) d=runL st b (runL st a d)
  |[],b,d=>rfl
  | m :: r, b, d => by
    rw[List.cons_append,runL,runL]
    split
    · rw[uW ‹_›]
    · exact runL_append r b _
theorem JY(rd:Nat)(n st:Int):d.one ⟨2,rd,0,0,n⟩ st=d.put rd n:=by unfold RunD.one;rw[if_neg dm,if_pos rfl];rfl
theorem atom8(a:At8 d p){op:Int}(kd ka kb:Nat)(hd:kd<32)(ha:ka<32)(hb:kb<32):
    Did8 d (d.atom op kd ka kb) (if(qb (qp d p) op ((qp d p).h.reg ka) ((qp d p).h.reg kb)).2.2=true then((qb (qp d p) op ((qp d p).h.reg ka) ((qp d p).h.reg kb)).1.set kd (qb (qp d p) op ((qp d p).h.reg ka) ((qp d p).h.reg kb)).2.1).setPc (u32 (p+4))else(qb (qp d p) op ((qp d p).h.reg ka) ((qp d p).h.reg kb)).1) p last:=by
  have e1:=get8_h (d:=d) (p:=p) ha
  have e2:=get8_h (d:=d) (p:=p) hb
  have hu:0≤d.get ka:=by
    unfold RunD.get;rw[if_pos ha]
    rw[List.getD_eq_getElem?_getD,sU (by rw[a.len];exact ha)]
    exact(a.regs _ (sR _)).1
  rw[←e1,←e2]
  unfold RunD.atom qb
  generalize d.get ka=x at *
  by_cases c1:qX d.m 13 x=true
  · rw[if_pos c1]
    simp only[if_pos (show qX (qp d p).m 13 x=true from c1)]
    have hF:∀(b:Bool) (y z:Int) (h:Hart) (q:Int),((h.hold b y).setReg kd z).setPc q=(((h.setPc p).hold b y).setReg kd z).setPc q:=fun b y z h q=>setReg_pc (h.hold b y) p q kd z
    have hS:∀(b:Bool) (y z:Int),(((d.h.setPc p).hold b y).setReg kd z).state=0:=fun b y z=>by rw[UM];exact a.state
    have hq:qW d.m 18 x=true:=by rw[store_load];exact c1
    by_cases c2:op=46
    · simp only[if_pos c2]
      rw[UQ hd]
      exact did8_f a (fun h=>(h.hold true x).setReg kd (QB d.m 13 x)) (hF _ _ _) (hS _ _ _)
    · simp only[if_neg c2]
      by_cases c3:op=47
      · simp only[if_pos c3]
        by_cases c4:(d.h.held&&d.h.heldAt==x)=true
        · rw[if_pos c4]
          simp only[if_pos (show((qp d p).h.held&&(qp d p).h.heldAt==x)=true from c4)]
          rw[UQ hd,put8_eq a _ hq hu,if_pos trivial]
          exact did8_store a (d.get kb) hq hu (fun h=>(h.hold false 0).setReg kd 0) (hF _ _ _) (hS _ _ _)
        · rw[if_neg c4]
          simp only[if_neg (show ¬((qp d p).h.held&&(qp d p).h.heldAt==x)=true from c4)]
          rw[UQ hd]
          exact did8_f a (fun h=>(h.hold false 0).setReg kd 1) (hF _ _ _) (hS _ _ _)
      · simp only[if_neg c3]
        rw[UQ hd,put8_eq a _ hq hu,if_pos trivial]
        exact did8_store a (amo op (QB d.m 13 x) (d.get kb)) hq hu (fun h=>h.setReg kd (QB d.m 13 x)) (fun h q=>setReg_pc h p q kd _) (by rw[UM];exact a.state)
  · rw[if_neg c1]
    simp only[if_neg (show ¬qX (qp d p).m 13 x=true from c1)]
    exact uq a _
theorem call8(a:At8 d p):Did8 d d.call (if(qt (qp d p)).2=true then(qt (qp d p)).1.setPc (u32 (p+4))else(qt (qp d p)).1) p true:=by
  unfold RunD.call qt
  have e:∀r,(qp d p).h.reg r=d.h.reg r:=fun r=>rfl
  simp only[e]
  by_cases c0:d.h.reg 17=0
  · simp only[if_pos c0]
    refine⟨rfl,(List.append_nil _).symm,rfl,a.here,a.tl,rfl,rfl,rfl, ?_,fun _=>⟨?_,.inr rfl⟩,fun h=>by cases h⟩
    · exact cZ
    · show({d.h with state:=1}:Hart).setPc d.here=_
      rw[a.here];rfl
  · simp only[if_neg c0]
    by_cases c1:d.h.reg 17=1
    · simp only[if_pos c1]
      refine⟨rfl,rfl,rfl,a.here,a.tl,rfl,rfl,rfl, ?_,fun h=>absurd (show d.over=true from h) (by rw[a.over];decide),fun _=>⟨rfl,a.state⟩⟩
      exact cZ
    · simp only[if_neg c1]
      exact uq a _
theorem bits0(n:Int)(hn:U32 n):bits .or .u32 0 n=n∧bits .xor .u32 0 n=n∧bits .and .u32 0 n=0:=by
  refine⟨or0 n ⟨hn.1,by have:=hn.2;omega⟩, ?_, ?_⟩
  · rw[xor32 _ _ om om hn.1 (by have:=hn.2;omega)];simp;have:=hn.1;omega
  · rw[and32 _ _ om om hn.1 (by have:=hn.2;omega)];simp
theorem num8(a:At8 d p)(op n st:Int)(kd k1:Nat)(hd:kd<32)(h1:k1<32)(hop:28≤op∧op≤45)(hn:U32 n):
    Did8 d (runL st (numM op kd k1 n) d) (((qp d p).set kd (alu op ((qp d p).h.reg k1) n)).setPc (u32 (p+4))) p last:=by
  have e1:=get8_h (d:=d) (p:=p) h1
  rw[←e1]
  unfold numM
  by_cases c1:(kd:Int)=0
  · rw[if_pos c1]
    have e:(qp d p).set kd (alu op (d.get k1) n)=qp d p:=by unfold qF.set;rw[c1,setReg_zero']
    rw[e]
    exact did8_nop a
  rw[if_neg c1]
  have hz:(k1:Int)=0→d.get k1=0:=fun e=>by
    obtain rfl:k1=0:=om
    exact a.zero
  obtain⟨b1,b2,b3⟩:=bits0 n hn
  have hu:=hn.1
  have hu2:=hn.2
  by_cases c2:(k1:Int)=0∧(op=28∨op=36∨op=33)
  · rw[if_pos c2,Qy _ a.over,JY]
    have e:alu op (d.get k1) n=n:=by
      rw[hz c2.1]
      rcases c2.2 with rfl|rfl|rfl
      · show(0+n)%4294967296=n;omega
      · exact b1
      · exact b2
    rw[e]
    exact Jv a hd n
  rw[if_neg c2]
  by_cases c3:(k1:Int)=0∧(op=37∨op=30∨op=34∨op=35)
  · rw[if_pos c3,Qy _ a.over,JY]
    have e:alu op (d.get k1) n=0:=by
      rw[hz c3.1]
      rcases c3.2 with rfl|rfl|rfl|rfl
      · exact b3
      · show(0*2 ^ (n%32).toNat)%4294967296=0;rw[Int.zero_mul];rfl
      · show(0:Int) / 2 ^ (n%32).toNat=0;exact Int.zero_ediv _
      · show(wrap32 0 / 2 ^ (n%32).toNat)%4294967296=0
        rw[show wrap32 0=0 by decide+kernel,Int.zero_ediv];rfl
    rw[e]
    exact Jv a hd 0
  rw[if_neg c3,Qy _ a.over,JS _ st 500 op rfl om om om]
  simp only[show ¬(500:Int)=100 by omega,show ¬(500:Int)=200 by omega,show ¬(500:Int)=300 by omega,show ¬(500:Int)=400 by omega,if_false,if_true,sV]
  exact Jv a hd _
theorem body8(a:At8 d p)(i:InsD)(his:isS i=true)(hb:1≤i.op∧i.op≤59)(hr:0≤i.rd∧i.rd≤31)(hr1:0≤i.rs1∧i.rs1≤31)(hr2:0≤i.rs2∧i.rs2≤31)(st:Int):
    Did8 d (runL st (uw i p) d) (doS i (qp d p)) p (lastB i.op):=by
  obtain⟨op,rd,rs1,rs2,imm⟩:=i
  dsimp only at hb hr hr1 hr2
  obtain⟨kd,rfl⟩:=sQ hr.1
  obtain⟨k1,rfl⟩:=sQ hr1.1
  obtain⟨k2,rfl⟩:=sQ hr2.1
  have hd:kd<32:=om
  have h1:k1<32:=om
  have h2:k2<32:=om
  have g1:=get8_h (d:=d) (p:=p) h1
  have g2:=get8_h (d:=d) (p:=p) h2
  have hn:u32 imm=imm%4294967296:=rfl
  have hnu:U32 (u32 imm):=Qq imm
  unfold uw doS
  dsimp only
  rw[←g1,←g2,←hn]
  generalize u32 imm=n at *
  clear hn his hr hr1 hr2
  have epc:(qp d p).h.pc=p:=rfl
  have em:(qp d p).m=d.m:=rfl
  rw[epc,em]
  by_cases e1:op=1
  · subst e1
    rw[if_pos rfl,if_pos rfl,Qy _ a.over,JY]
    exact Jv a hd n
  rw[if_neg e1,if_neg e1]
  by_cases e2:op=2
  · subst e2
    rw[if_pos rfl,if_pos rfl,Qy _ a.over,JY]
    exact Jv a hd _
  rw[if_neg e2,if_neg e2]
  by_cases e3:op=3
  · subst e3
    rw[if_pos rfl,if_pos rfl,uY _ _ a.over,JY,Qy _ (by rw[UQ hd];exact a.over)]
    exact did8_jal a hd _ _
  rw[if_neg e3,if_neg e3]
  by_cases e4:op=4
  · subst e4
    rw[if_pos rfl,if_pos rfl,uY _ _ a.over,JS _ st 500 28 rfl om om om]
    simp only[show ¬(500:Int)=100 by omega,show ¬(500:Int)=200 by omega,show ¬(500:Int)=300 by omega,show ¬(500:Int)=400 by omega,if_false,if_true,sV]
    have e5:alu 28 (d.get k1) n=(d.get k1+n)%4294967296:=rfl
    rw[e5]
    generalize hs:(d.get k1+n)%4294967296=s
    have h32:(32:Int).toNat=32:=rfl
    rw[h32]
    have o1:(d.put 32 s).over=false:=by unfold RunD.put;rw[if_pos om];exact a.over
    rw[uY _ _ o1,JY]
    have o2:((d.put 32 s).put kd (u32 (p+4))).over=false:=by rw[UQ hd];exact o1
    rw[Qy _ o2]
    have e6:((d.put 32 s).put kd (u32 (p+4))).one ⟨4,0,32,0,0⟩ st=((d.put 32 s).put kd (u32 (p+4))).stop (s-s%2):=by
      unfold RunD.one
      rw[if_neg dm,if_neg dm,if_neg dm,if_pos rfl]
      dsimp only
      rw[h32,jalr_get a hd]
      have:u32 (s+0)=s:=by unfold u32;omega
      rw[this]
    rw[e6]
    exact did8_jalr a hd s _ _
  rw[if_neg e4,if_neg e4]
  by_cases e5:op≤10
  · rw[if_pos e5,if_pos e5,Qy _ a.over,JS _ st 100 op rfl om om om]
    simp only[if_true,sV]
    have hl:lastB op=true:=by unfold lastB;rw[decide_eq_true om];rfl
    rw[hl]
    by_cases c:holds op (d.get k1) (d.get k2)=true
    · rw[if_pos c,if_pos c];exact did8_stop a _
    · rw[if_neg c,if_neg c];exact did8_nop a
  rw[if_neg e5,if_neg e5]
  by_cases e6:op≤15
  · rw[if_pos e6,if_pos e6,Qy _ a.over,JS _ st 200 op rfl om om om]
    simp only[show ¬(200:Int)=100 by omega,if_false,if_true,sV]
    show Did8 d (if qX d.m op (u32 (d.get k1+n))=true then _ else _) (if qX d.m op (u32 (d.get k1+n))=true then _ else _) p _
    by_cases c:qX d.m op (u32 (d.get k1+n))=true
    · rw[if_pos c,if_pos c];exact Jv a hd _
    · rw[if_neg c,if_neg c];exact uq a _
  rw[if_neg e6,if_neg e6]
  by_cases e7:op≤18
  · rw[if_pos e7,if_pos e7,Qy _ a.over,JS _ st 300 op rfl om om om]
    simp only[show ¬(300:Int)=100 by omega,show ¬(300:Int)=200 by omega,if_false,if_true,sV]
    show Did8 d (if qW d.m op (u32 (d.get k1+n))=true then _ else _) (if qW d.m op (u32 (d.get k1+n))=true then((qp d p).put op (u32 (d.get k1+n)) (d.get k2)).setPc _ else _) p _
    by_cases c:qW d.m op (u32 (d.get k1+n))=true
    · rw[if_pos c,if_pos c,put8_eq a _ c (Qq _).1]
      exact did8_store a (d.get k2) c (Qq _).1 (fun h=>h) (fun h q=>rfl) a.state
    · rw[if_neg c,if_neg c];exact uq a _
  rw[if_neg e7,if_neg e7]
  by_cases e8:op≤27
  · rw[if_pos e8,if_pos e8]
    have:=num8 (last:=lastB op) a (numOp op) n st kd k1 hd h1 (numOp_in op) hnu
    rw[←g1]at this
    exact this
  rw[if_neg e8,if_neg e8]
  by_cases e9:op≤45
  · rw[if_pos e9,if_pos e9]
    by_cases c:(kd:Int)=0
    · rw[if_pos c]
      have e:(qp d p).set kd (alu op (d.get k1) (d.get k2))=qp d p:=by unfold qF.set;rw[c,setReg_zero']
      rw[e]
      exact did8_nop a
    · rw[if_neg c,Qy _ a.over,JS _ st 400 op rfl om om om]
      simp only[show ¬(400:Int)=100 by omega,show ¬(400:Int)=200 by omega,show ¬(400:Int)=300 by omega,if_false,if_true,sV]
      exact Jv a hd _
  rw[if_neg e9,if_neg e9]
  by_cases e10:op≤56
  · rw[if_pos e10,if_pos e10,Qy _ a.over,JS _ st 600 op rfl om om om]
    simp only[show ¬(600:Int)=100 by omega,show ¬(600:Int)=200 by omega,show ¬(600:Int)=300 by omega,show ¬(600:Int)=400 by omega,show ¬(600:Int)=500 by omega,if_false,if_true,sV]
    have:=atom8 (last:=lastB op) (op:=op) a kd k1 k2 hd h1 h2
    rw[←g1,←g2]at this
    exact this
  rw[if_neg e10,if_neg e10]
  by_cases e11:op=58
  · subst e11
    rw[if_pos rfl,if_pos rfl,Qy _ a.over]
    exact call8 a
  rw[if_neg e11,if_neg e11]
  by_cases e12:op=59
  · subst e12
    rw[if_pos rfl,if_pos rfl,Qy _ a.over]
    exact uq a _
  rw[if_neg e12,if_neg e12]
  exact did8_nop a
end
def Mem8(m:List Int)(c:qF):Prop:=c.m=m∨∃op a x,qW m op a=true∧0≤a∧c.m=Qh m op a x∧c.fr=a∧c.tw=(a+qP op)%4294967296
theorem put_mem8(d:qF)(op a x:Int)(ha:0≤a):Mem8 d.m (d.put op a x):=by
  unfold qF.put
  by_cases c:qW d.m op a=true
  · rw[if_pos c];exact .inr ⟨op,a,x,c,ha,rfl,rfl,rfl⟩
  · rw[if_neg c];exact .inl rfl
theorem ite_mem8{m:List Int}{c:Prop}[Decidable c]{a b:qF}(h1:c→Mem8 m a)(h2:¬c→Mem8 m b):Mem8 m (if c then a else b):=by split;exact h1 ‹_›;exact h2 ‹_›
theorem atomS_mem8(d:qF)(op a b:Int)(ha:0≤a):Mem8 d.m (qb d op a b).1:=by
  unfold qb
  split
  · split
    · exact .inl rfl
    · split
      · split
        · exact put_mem8 d 18 a b ha
        · exact .inl rfl
      · exact put_mem8 d 18 a _ ha
  · exact .inl rfl
theorem callS_m(d:qF):(qt d).1.m=d.m:=by
  unfold qt
  split
  · rfl
  · split<;>rfl
theorem doS_mem8(d:qF)(hr:∀k,0≤d.h.reg k)(i:InsD):Mem8 d.m (doS i d):=by
  unfold doS
  dsimp only
  repeat' (with_reducible refine ite_mem8 (fun _=> ?_) (fun _=> ?_))
  all_goals first
    |exact .inl rfl
    |exact put_mem8 d i.op _ _ (Int.emod_nonneg _ zF)
    |exact atomS_mem8 d i.op (d.h.reg i.rs1) (d.h.reg i.rs2) (hr _)
    |exact .inl (callS_m d)
theorem mLoad_apart{m:List Int}{op a x:Int}(ha:0≤a){q:Int}(hq:0≤q)(h:q+4≤a∨a+qP op≤q)(hs:qW m op a=true):QB (Qh m op a x) 13 q=QB m 13 q∧qX (Qh m op a x) 13 q=qX m 13 q:=by
  obtain⟨h1,h2,h3⟩:=jX hs
  obtain⟨k,rfl⟩:=sQ ha
  obtain⟨j,rfl⟩:=sQ hq
  have e:qX (Qh m op k x) 13 j=qX m 13 j:=by unfold qX;rw[Ql]
  refine⟨?_,e⟩
  by_cases c:qX m 13 j=true
  · rw[mLoad_13 c,mLoad_13 (by rw[e];exact c)]
    unfold Qh
    rw[if_pos hs,uj _ _ _ _ _ om,uj _ _ _ _ _ om,uj _ _ _ _ _ om,uj _ _ _ _ _ om]
  · unfold QB
    rw[if_neg (by rw[e];exact c),if_neg c]
theorem fetch_apart{m:List Int}{op a x:Int}(ha:0≤a){q:Int}(hq:0≤q)(h:q+4≤a∨a+qP op≤q)(hs:qW m op a=true):qe (Qh m op a x) q=qe m q:=by
  obtain⟨e1,e2⟩:=mLoad_apart (x:=x) ha hq h hs
  unfold qe
  rw[e1,e2]
def Blk8(m:List Int):Int→List InsD→Prop
  |_,[]=>True
  |p,i::r=>qe m p=(i,0)∧(r=[]∨lastB i.op=false)∧Blk8 m (u32 (p+4)) r
theorem blk8_keep{m m':List Int}:∀(l:List InsD) (p:Int),0≤p→p+4*l.length≤4096→(∀q,p≤q→q+4≤p+4*l.length→qe m' q=qe m q)→Blk8 m p l→Blk8 m' p l
  |[],_,_,_,_,_=>trivial
  | i :: r, p, h0, h1, hk, ⟨b1, b2, b3⟩ => by
    simp only[List.length_cons]at h1 hk
    have e:u32 (p+4)=p+4:=by unfold u32;omega
    refine⟨(hk p om om).trans b1,b2, ?_⟩
    rw[e]at b3 ⊢
    exact blk8_keep r (p+4) om om (fun q h3 h4=>hk q om om) b3
theorem rowS_blk8(m:List Int)(hm:m.length≤4096):∀(n:Nat) (p:Int),U32 p→Blk8 m p (rowS m n p)∧(rowS m n p≠[]→p+4*(rowS m n p).length≤m.length)
  |0,_,_=>⟨trivial,fun h=>absurd rfl h⟩
  | n + 1, p, hp => by
    rw[row_step]
    by_cases c:(qe m p).2=0
    · rw[if_pos c]
      have hok:p+4≤m.length:=by
        by_cases q:qX m 13 p=true
        · unfold qX there at q
          simp only[Bool.and_eq_true,decide_eq_true_eq]at q
          exact q.2.2
        · unfold qe at c
          rw[if_neg q]at c
          exact absurd c zF
      have hp0:=hp.1
      by_cases hb:lastB (qe m p).1.op=true
      · rw[if_pos hb]
        exact⟨⟨Prod.ext rfl c,.inl rfl,trivial⟩,fun _=>by simp only[List.length_cons,List.length_nil];omega⟩
      · rw[if_neg hb]
        obtain⟨i1,i2⟩:=rowS_blk8 m hm n ((p+4)%4294967296) (Qq _)
        refine⟨⟨Prod.ext rfl c,.inr (by simpa using hb),i1⟩,fun _=> ?_⟩
        by_cases hr:rowS m n ((p+4)%4294967296)=[]
        · rw[hr];simp only[List.length_cons,List.length_nil];omega
        · have:=i2 hr
          simp only[List.length_cons]
          omega
    · rw[if_neg c]
      exact⟨trivial,fun h=>absurd rfl h⟩
structure Eq8 (a b:RunD):Prop where
  h:a.h=b.h
  m:a.m=b.m
  out:a.out=b.out
  steps:a.steps=b.steps
  stores:a.stores=b.stores
theorem setPc_self{h:Hart}{p:Int}(e:h.pc=p):h.setPc p=h:=by subst e;rfl
theorem pl8_next{pc:Int}(h0:0≤pc){k:Nat}(h1:pc+4*(k:Int)≤4096):pl8 pc k=pc+4*k∧pl8 pc (k+1)=u32 (pl8 pc k+4):=by
  unfold pl8 u32;omega
theorem steps8_go(pc last st:Int)(h0:0≤pc)(hlast:last≤4096):∀(l:List InsD) (k:Nat) (d X:RunD),
    X.h=d.h.setPc (pl8 pc k)→X.m=d.m→X.out=d.out→X.steps=d.steps→X.stores=d.stores→d.over=false→d.own=false→d.temps.length=4→d.bf=pc→d.bt=last→X.core0.Wf→X.m.length≤4096→
    X.h.ok=true→X.h.state=0→(d.steps=0∧d.h.pc=pl8 pc k∨0<d.steps∧u32 (d.here+4)=pl8 pc k)→0≤d.steps→d.steps≤st→Blk8 X.m (pl8 pc k) l→pc+4*k+4*l.length=last→(∀i∈l,isS i=true∧I32 i.imm)→
    Eq8 (js pc last st l.length k X) (runL st (rowM pc k l) d).fin
  | [], k, d, X, e1, e2, e3, e4, e5, ho, hw, ht, b1, b2, wf, hl, hz, hs, hp, hn, hle, hb, hlen, hi => by
    have key:(runL st (rowM pc k []) d).fin=d.fin:=rfl
    rw[key]
    show Eq8 X d.fin
    unfold RunD.fin
    rcases hp with⟨p1,p2⟩|⟨p1,p2⟩
    · rw[if_neg om]
      exact⟨by rw[e1];exact setPc_self p2,e2,e3,e4,e5⟩
    · rw[if_pos ⟨ho,p1⟩,p2]
      exact⟨e1,e2,e3,e4,e5⟩
  | i :: r, k, d, X, e1, e2, e3, e4, e5, ho, hw, ht, b1, b2, wf, hl, hz, hs, hp, hn, hle, hb, hlen, hi => by
    have hok:=hz
    replace hz:X.h.regs.getD 0 0=0:=((Jo hs).1 hok).1
    simp only[List.length_cons]at hlen
    obtain⟨f1,f2,f3⟩:=hb
    have hkl:pc+4*(k:Int)≤4096:=om
    obtain⟨q1,q2⟩:=pl8_next h0 hkl
    rw[←q2]at f3
    obtain⟨p,hpd⟩:∃p,p=pl8 pc k:=⟨_,rfl⟩
    have erow:rowM pc k (i::r)=⟨1,0,0,0,p⟩::(uw i p++rowM pc (k+1) r):=by rw[hpd];rfl
    rw[erow,uY _ _ ho]
    rw[←hpd]at e1 hp f1 q1 q2
    have elen:(i::r).length=r.length+1:=rfl
    rw[elen,js]
    by_cases c:d.steps=st
    · have eone:d.one ⟨1,0,0,0,p⟩ st=d.stop p:=by
        unfold RunD.one
        rw[if_pos rfl,if_pos (by rw[c];simp)]
      rw[eone,uW rfl,if_neg om]
      have:(d.stop p).fin=d.stop p:=by unfold RunD.fin;rw[if_neg (fun h=>by have:=h.1;exact absurd this (by show ¬true=false;decide))]
      rw[this]
      exact⟨e1,e2,e3,e4,e5⟩
    · have eone:d.one ⟨1,0,0,0,p⟩ st={d with steps:=d.steps+1,here:=p}:=by
        unfold RunD.one
        rw[if_pos rfl,if_neg (by rw[hw];simpa using c)]
      rw[eone,if_pos om,runL_append]
      obtain⟨d1,hd1⟩:∃d1,d1={d with steps:=d.steps+1,here:=p}:=⟨_,rfl⟩
      rw[←hd1]
      have hXh:X.h=d1.h.setPc p:=by rw[hd1];exact e1
      have hc0:X.core0=qp d1 p:=by
        unfold RunD.core0 qp
        rw[hXh,e2,hd1]
      have hregs:d.h.regs=X.h.regs:=by rw[e1];rfl
      have a:At8 d1 p:=by
        rw[hd1]
        refine⟨ho,rfl,ht, ?_, ?_, ?_, ?_,by rw[←e2];exact hl, ?_⟩
        · have:=hs;rw[e1]at this;exact this
        · show d.h.regs.getD 0 0=0
          rw[hregs];exact hz
        · show d.h.regs.length=32
          rw[hregs];exact wf.h.len
        · show ∀x∈d.h.regs,U32 x
          rw[hregs];exact wf.h.regs
        · show d.bf<d.bt
          rw[b1,b2];omega
      have hi0:=hi i (List.mem_cons_self ..)
      obtain⟨r1,r2,r3,r4⟩:=uk hi0.1
      have D:=body8 a i hi0.1 r1 r2 r3 r4 st
      have hgo:goS X.core0=doS i (qp d1 p):=by
        have hpc:X.core0.h.pc=p:=by rw[hc0];rfl
        have hm:X.core0.m=X.m:=rfl
        unfold goS
        rw[hpc,hm,f1]
        rw[if_pos rfl]
        have:X.core0.none=qp d1 p:=by rw[hc0];rfl
        rw[this]
      have hN:jD X={X with h:=(doS i (qp d1 p)).h,m:=(doS i (qp d1 p)).m,out:=X.out++(doS i (qp d1 p)).out,steps:=X.steps+1,stores:=if(doS i (qp d1 p)).fr<(doS i (qp d1 p)).tw then X.stores++[((doS i (qp d1 p)).fr,(doS i (qp d1 p)).tw)]else X.stores}:=by unfold jD;rw[hgo]
      have hMem:Mem8 X.m (doS i (qp d1 p)):=by
        have:=doS_mem8 (qp d1 p) (fun k=>by rw[←hc0];exact(reg_u wf.h k).1) i
        rw[←hc0]at this ⊢
        exact this
      rw[hgo]
      have hWf:(goS X.core0).Wf:=goS_wf wf (by show([]:List Int).length<_;simp)
      have hFin:Fin0 X.core0 (goS X.core0):=goS_fin X.h X.m hok hs
      rw[hgo]at hWf hFin
      obtain⟨e,he⟩:∃e,e=runL st (uw i p) d1:=⟨_,rfl⟩
      rw[←he]at D ⊢
      generalize doS i (qp d1 p)=cc at *
      have E1:Eq8 (jD X) {e with h:=cc.h}:=by
        rw[hN]
        refine⟨rfl,D.m.symm, ?_, ?_, ?_⟩
        · show X.out++cc.out=e.out
          rw[D.out,hd1,e3]
        · show X.steps+1=e.steps
          rw[D.steps,hd1,e4]
        · show(if cc.fr<cc.tw then _ else _)=e.stores
          rw[D.stores,hd1,e5]
      have hst:e.steps=d.steps+1:=by rw[D.steps,hd1]
      by_cases co:e.over=true
      · obtain⟨y1,y2⟩:=D.yes co
        rw[uW co]
        have hfin:e.fin=e:=by unfold RunD.fin;rw[if_neg (fun h=>by rw[co]at h;exact absurd h.1 zF)]
        rw[hfin]
        have E2:Eq8 (jD X) e:=⟨E1.h.trans y1.symm,E1.m,E1.out,E1.steps,E1.stores⟩
        by_cases cb:brk8 pc last (pl8 pc (k+1)) cc=true
        · rw[if_pos cb];exact E2
        · rw[if_neg cb]
          have hr:r=[]:=by
            rcases f2 with h|h
            · exact h
            · rcases y2 with h2|h2
              · exact absurd (by unfold brk8;rw[show(cc.h.state !=0)=true by simpa using h2];rfl) cb
              · rw[h]at h2;cases h2
          subst hr
          exact E2
      · have co':e.over=false:=by simpa using co
        obtain⟨n1,n2⟩:=D.no co'
        have hpcc:cc.h.pc=pl8 pc (k+1):=by rw[←n1,q2];rfl
        have ebrk:brk8 pc last (pl8 pc (k+1)) cc=own8 pc last cc:=by
          unfold brk8
          rw[n2,hpcc]
          simp
        rw[ebrk]
        have eown:e.own=own8 pc last cc:=by rw[D.own,hd1];show(d.own||own8 d.bf d.bt cc)=_;rw[hw,b1,b2,Bool.false_or]
        rw[←q2]at n1
        by_cases cw:own8 pc last cc=true
        · rw[if_pos cw]
          rw[cw]at eown
          have E2:∀f:RunD,f.h=cc.h→f.m=e.m→f.out=e.out→f.steps=e.steps→f.stores=e.stores→Eq8 (jD X) f:=fun f g1 g2 g3 g4 g5=>⟨E1.h.trans g1.symm,E1.m.trans g2.symm,E1.out.trans g3.symm,E1.steps.trans g4.symm,E1.stores.trans g5.symm⟩
          cases r with
          | nil =>
            have ef:(runL st (rowM pc (k+1) []) e).fin={e with h:=e.h.setPc (u32 (e.here+4))}:=by
              show e.fin=_
              unfold RunD.fin
              rw[if_pos ⟨co',om⟩]
            rw[ef]
            refine E2 _ ?_ rfl rfl rfl rfl
            show e.h.setPc (u32 (e.here+4))=cc.h
            rw[D.here,←q2];exact n1
          | cons i' r' =>
            have ef:runL st (rowM pc (k+1) (i'::r')) e=e.stop (pl8 pc (k+1)):=by
              have er:rowM pc (k+1) (i'::r')=⟨1,0,0,0,pl8 pc (k+1)⟩::(uw i' (pl8 pc (k+1))++rowM pc (k+1+1) r'):=rfl
              rw[er,uY _ _ co']
              have eo:e.one ⟨1,0,0,0,pl8 pc (k+1)⟩ st=e.stop (pl8 pc (k+1)):=by
                unfold RunD.one
                rw[if_pos rfl,if_pos (by rw[eown];simp)]
              rw[eo,uW rfl]
            rw[ef]
            have:(e.stop (pl8 pc (k+1))).fin=e.stop (pl8 pc (k+1)):=by unfold RunD.fin;rw[if_neg (fun h=>by have:=h.1;exact absurd this (by show ¬true=false;decide))]
            rw[this]
            exact E2 _ n1 rfl rfl rfl rfl
        · rw[if_neg cw]
          have cw':own8 pc last cc=false:=by simpa using cw
          rw[cw']at eown
          have hok2:=hFin.ok
          refine steps8_go pc last st h0 hlast r (k+1) e (jD X) ?_ E1.m E1.out E1.steps E1.stores co' eown D.tl (by rw[D.bf,hd1];exact b1) (by rw[D.bt,hd1];exact b2) ?_ ?_ ?_ ?_ (.inr ⟨om,by rw[D.here,←q2]⟩) om om ?_ (by push_cast;omega) (fun j hj=>hi j (List.mem_cons_of_mem _ hj))
          · rw[E1.h];exact n1.symm
          · rw[hN]
            exact⟨hWf.h,hWf.m,yD,jr,jr,hWf.mlen,by show([]:List Int).length≤_;simp⟩
          · rw[hN];show cc.m.length≤4096
            rw[hFin.ml];exact hl
          · rw[hN];exact hok2
          · rw[hN];exact n2
          · rw[hN]
            show Blk8 cc.m (pl8 pc (k+1)) r
            have epn:pl8 pc (k+1)=pc+4*k+4:=by rw[q2,q1];unfold u32;omega
            refine blk8_keep r _ om om (fun q g1 g2=> ?_) f3
            rcases hMem with g3|⟨op,a',x,g3,g4,g5,g6,g7⟩
            · rw[g3]
            · rw[g5]
              obtain⟨t1,t2,t3⟩:=jX g3
              refine fetch_apart g4 om ?_ g3
              unfold own8 at cw'
              rw[g6,g7,Int.emod_eq_of_lt om om,decide_eq_true om,Bool.true_and,Bool.and_eq_false_iff,decide_eq_false_iff_not,decide_eq_false_iff_not]at cw'
              omega
structure Kept (m:List Int) (pc:Int) (l:List InsD):Prop where
  ne:l≠[]
  len:l.length≤16
  pos:0≤pc
  fits:pc+4*l.length≤m.length
  blk:Blk8 m pc l
  is:∀i∈l,isS i=true∧I32 i.imm
theorem kept_make{m:List Int}(hm:m.length≤4096){pc:Int}(hp:U32 pc)(hne:(QU m pc).2≠[]):Kept m pc (QU m pc).2:=by
  have hi:=makeS_is m pc
  have e:(QU m pc).2=rowS m 16 pc:=by unfold QU;rw[if_neg om]
  obtain⟨h1,h2⟩:=rowS_blk8 m hm 16 pc hp
  rw[e]at hne hi ⊢
  exact⟨hne,rowS_len m 16 pc,hp.1,h2 hne,h1,hi⟩
theorem Kept.store{m:List Int}(hm:m.length≤4096){pc:Int}{l:List InsD}(h:Kept m pc l){op a x:Int}(ha:0≤a)(hs:qW m op a=true)(hf:pc+4*l.length≤a∨a+qP op≤pc):Kept (Qh m op a x) pc l:=by
  have h1:=h.pos
  have h2:=h.fits
  exact⟨h.ne,h.len,h.pos,by rw[Ql];exact h.fits,blk8_keep l pc h.pos om (fun q g1 g2=>fetch_apart ha om om hs) h.blk,h.is⟩
def qo(k:Nat):List (Int × Int)→List Hart→List Hart
  |[],hs=>hs
  |p::r,hs=>qo k r (QD k p.1 p.2 hs.length hs)
theorem loseTo_set(k:Nat)(fr tw:Int)(hs:List Hart)(h:Hart):QD k fr tw (hs.set k h).length (hs.set k h)=(QD k fr tw hs.length hs).set k h:=by
  apply List.ext_getElem
  · simp[QI]
  · intro i h1 h2
    have hi:i<hs.length:=by rw[QI,List.length_set]at h1;exact h1
    rw[QV _ _ _ _ _ _ (by rw[List.length_set];exact hi),List.getElem_set,List.getElem_set]
    by_cases e:k=i
    · subst e;rw[if_neg (fun h=>h.2 rfl),if_pos rfl,if_pos rfl]
    · rw[if_neg e,if_neg e,QV _ _ _ _ _ _ hi]
      simp only[List.length_set]
theorem loseAll_set(k:Nat)(h:Hart):∀(l:List (Int × Int)) (hs:List Hart),qo k l (hs.set k h)=(qo k l hs).set k h
  |[],_=>rfl
  | p :: r, hs => by
    rw[qo,qo,loseTo_set,loseAll_set k h r]
theorem JC(k:Nat):∀(l:List (Int × Int)) (hs:List Hart),(qo k l hs).length=hs.length
  |[],_=>rfl
  |p::r,hs=>by rw[qo,JC k r,QI]
theorem Jp(k:Nat):∀(a b:List (Int × Int)) (hs:List Hart),qo k (a++b) hs=qo k b (qo k a hs)
  |[],_,_=>rfl
  |p::r,b,hs=>by rw[List.cons_append,qo,qo,Jp k r b]
theorem loseAll_mem(k:Nat){P:Hart→Prop}(hl:∀fr tw h,P h→P (lose fr tw h)):∀(l:List (Int × Int)) (hs:List Hart),(∀h∈hs,P h)→∀h∈qo k l hs,P h
  |[],_,hp=>hp
  | p :: r, hs, hp => loseAll_mem k hl r _ (fun h hh => by
    obtain⟨i,hi,rfl⟩:=List.getElem_of_mem hh
    have hi':i<hs.length:=by rw[QI]at hi;exact hi
    rw[QV _ _ _ _ _ _ hi']
    split
    · exact hl _ _ _ (hp _ (sR hi'))
    · exact hp _ (sR hi'))
theorem lose_none{h:Hart}(wf:h.Wf):lose 0 0 h=h:=by
  unfold lose
  have:=wf.heldAt.1
  rw[decide_eq_false (show ¬h.heldAt<0 by omega)]
  simp
theorem loseTo_none(k:Nat)(hs:List Hart)(wf:∀h∈hs,h.Wf):QD k 0 0 hs.length hs=hs:=by
  apply List.ext_getElem
  · exact QI _ _ _ _ _
  · intro i h1 h2
    rw[QV _ _ _ _ _ _ h2]
    split
    · exact lose_none (wf _ (sR h2))
    · rfl
def JX(s:St)(k:Nat)(X:RunD):St:=⟨qo k X.stores (s.harts.set k X.h),X.m,s.out++X.out,s.steps+X.steps.toNat⟩
theorem outSt_hart{s:St}{k:Nat}(hk:k<s.harts.length)(X:RunD):(JX s k X).hart k=X.h:=by
  have e:qo k X.stores (s.harts.set k X.h)=(qo k X.stores s.harts).set k X.h:=loseAll_set k X.h _ _
  have hl:k<(JX s k X).harts.length:=by
    show k<(qo k X.stores (s.harts.set k X.h)).length
    rw[JC,List.length_set];exact hk
  rw[St.hart_at hl]
  show(qo k X.stores (s.harts.set k X.h))[k]'hl=X.h
  simp only[e,List.getElem_set_self]
theorem outSt_go{s:St}(wf:s.Wf){k:Nat}(hk:k<s.harts.length){X:RunD}(wx:X.core0.Wf)(hm:X.m.length≤4096)(h0:0≤X.steps):goM k (JX s k X)=JX s k (jD X):=by
  have hX:=outSt_hart hk X
  have hrg:Rng (goS X.core0):=goS_rng X.h wx.h X.m hm
  unfold goM
  rw[hX]
  have e0:(⟨X.h,(JX s k X).mem,[],0,0⟩:qF)=X.core0:=rfl
  rw[e0]
  unfold JX jD
  dsimp only
  rw[←loseAll_set k (goS X.core0).h,List.set_set,List.append_assoc]
  have es:s.steps+X.steps.toNat+1=s.steps+(X.steps+1).toNat:=om
  rw[es]
  congr 1
  have hw:∀h∈qo k X.stores (s.harts.set k (goS X.core0).h),h.Wf:=loseAll_mem k (fun _ _ _ h=>uG h) _ _ (fun h hh=>by
    rcases List.mem_or_eq_of_mem_set hh with h1|h1
    · exact wf.harts h h1
    · rw[h1];exact(goS_wf wx (by show([]:List Int).length<_;simp)).h)
  by_cases c:(goS X.core0).fr<(goS X.core0).tw
  · rw[if_pos c,Jp]
    show QD k _ _ (qo k X.stores (s.harts.set k X.h)).length _=qo k [_] _
    rw[qo,qo,JC,JC,List.length_set,List.length_set]
  · rw[if_neg c]
    have e1:(goS X.core0).fr=0∧(goS X.core0).tw=0:=by
      rcases hrg with⟨h1,h2⟩|⟨h1,h2,h3⟩
      · exact⟨h1,h2⟩
      · exact absurd h2 c
    rw[e1.1,e1.2]
    have:=loseTo_none k _ hw
    rw[JC,List.length_set]at this ⊢
    exact this
theorem next8_wf{X:RunD}(wx:X.core0.Wf):(jD X).core0.Wf:=by
  have h2:(goS X.core0).Wf:=goS_wf wx (by show([]:List Int).length<_;simp)
  exact⟨h2.h,h2.m,yD,jr,jr,h2.mlen,by show([]:List Int).length≤_;simp⟩
theorem uh(X:RunD):(jD X).m.length=X.m.length:=goS_ml X.core0
theorem outSt_loop{s:St}(wf:s.Wf){k:Nat}(hk:k<s.harts.length)(bf bt left:Int):∀(n kk:Nat) (X:RunD),X.core0.Wf→X.m.length≤4096→0≤X.steps→X.h.state=0→
    qm k (left.toNat-X.steps.toNat) (JX s k X)=qm k (left.toNat-(js bf bt left n kk X).steps.toNat) (JX s k (js bf bt left n kk X))∧(js bf bt left n kk X).core0.Wf∧(js bf bt left n kk X).m.length≤4096∧X.steps≤(js bf bt left n kk X).steps∧(0<n→X.steps<left→X.steps<(js bf bt left n kk X).steps)∧(X.steps≤left→(js bf bt left n kk X).steps≤left)
  |0,kk,X,wx,hm,h0,_=>⟨rfl,wx,hm,Int.le_refl _,fun h=>absurd h om,fun h=>h⟩
  | n + 1, kk, X, wx, hm, h0, hs => by
    unfold js
    by_cases c:X.steps<left
    · rw[if_pos c]
      have hh:=outSt_hart hk X
      have hg:=outSt_go wf hk wx hm h0
      have hst:(jD X).steps=X.steps+1:=rfl
      have e1:left.toNat-X.steps.toNat=(left.toNat-(jD X).steps.toNat)+1:=by rw[hst];omega
      have e2:qm k (left.toNat-X.steps.toNat) (JX s k X)=qm k (left.toNat-(jD X).steps.toNat) (JX s k (jD X)):=by
        rw[e1,qm,hh,if_pos hs,hg]
      by_cases b:brk8 bf bt (pl8 bf (kk+1)) (goS X.core0)=true
      · rw[if_pos b]
        exact⟨e2,next8_wf wx,by rw[uh];exact hm,by rw[hst];omega,fun _ _=>by rw[hst];omega,fun _=>by rw[hst];omega⟩
      · rw[if_neg b]
        have b':brk8 bf bt (pl8 bf (kk+1)) (goS X.core0)=false:=by simpa using b
        have hs':(jD X).h.state=0:=by
          unfold brk8 at b'
          simp only[Bool.or_eq_false_iff,bne_eq_false_iff_eq]at b'
          exact b'.1.1
        obtain⟨i1,i2,i3,i4,i5,i6⟩:=outSt_loop wf hk bf bt left n (kk+1) (jD X) (next8_wf wx) (by rw[uh];exact hm) (by rw[hst];omega) hs'
        exact⟨e2.trans i1,i2,i3,by rw[hst]at i4;omega,fun _ _=>by rw[hst]at i4;omega,fun h=>i6 (by rw[hst];omega)⟩
    · rw[if_neg c]
      exact⟨rfl,wx,hm,Int.le_refl _,fun _ h=>absurd h c,fun h=>h⟩
theorem kept_mk{m:List Int}{pc:Int}{l:List InsD}(h:Kept m pc l):mkM pc l=rowM pc 0 l:=by
  unfold mkM
  rw[if_neg]
  rintro(h2|h2)
  · have:=h.len;omega
  · have:l.all isS=true:=List.all_eq_true.2 (fun i hi'=>(h.is i hi').1)
    rw[this]at h2;cases h2
theorem steps8_kept{d:RunD}{pc bt left:Int}{l:List InsD}(K:Kept d.m pc l)(hpc:d.h.pc=pc)(wf:d.core0.Wf)(hm:d.m.length≤4096)(hok:d.h.ok=true)(hs:d.h.state=0)(ho:d.over=false)(hw:d.own=false)(ht:d.temps.length=4)(hb:d.bf=pc)(hbt:bt=u32 (pc+4*(l.length:Int)))(hbt2:d.bt=bt)(hst:d.steps=0)(h0:0≤left):
    Eq8 (js pc bt left l.length 0 d) (runL left (mkM pc l) d).fin:=by
  have h1:=K.pos
  have h2:=K.fits
  have hu:bt=pc+4*l.length:=by rw[hbt];unfold u32;omega
  have hpl:pl8 pc 0=pc:=by unfold pl8 u32;omega
  rw[kept_mk K]
  exact steps8_go pc bt left h1 om l 0 d d (by rw[hpl];exact(setPc_self hpc).symm) rfl rfl rfl rfl ho hw ht hb hbt2 wf hm hok hs (.inl ⟨hst,by rw[hpl];exact hpc⟩) om om (by rw[hpl];exact K.blk) (by rw[hu];simp) K.is
theorem goS_mem8{d:qF}(wf:d.Wf):Mem8 d.m (goS d):=by
  unfold goS
  split
  · exact doS_mem8 d.none (fun k=>(reg_u wf.h k).1) _
  · exact .inl rfl
theorem loop8_fetch(bf bt left:Int):∀(n kk:Nat) (X:RunD),X.core0.Wf→X.m.length≤4096→
    ∃new,(js bf bt left n kk X).stores=X.stores++new∧(∀p∈new,0≤p.1∧p.1<p.2∧p.2≤4096)∧∀q,0≤q→(∀p∈new,q+4≤p.1∨p.2≤q)→qe (js bf bt left n kk X).m q=qe X.m q
  |0,_,X,_,_=>⟨[],(List.append_nil _).symm,(by intro p hp;cases hp),fun _ _ _=>rfl⟩
  | n + 1, kk, X, wx, hm => by
    have one:∃new,(jD X).stores=X.stores++new∧(∀p∈new,0≤p.1∧p.1<p.2∧p.2≤4096)∧∀q,0≤q→(∀p∈new,q+4≤p.1∨p.2≤q)→qe (jD X).m q=qe X.m q:=by
      have hrg:Rng (goS X.core0):=goS_rng X.h wx.h X.m hm
      have hml:(goS X.core0).m.length=X.m.length:=goS_ml X.core0
      by_cases c:(goS X.core0).fr<(goS X.core0).tw
      · refine⟨[((goS X.core0).fr,(goS X.core0).tw)],by unfold jD;rw[if_pos c],fun p hp=> ?_,fun q hq hp=> ?_⟩
        · rw[List.mem_singleton]at hp
          subst hp
          rcases hrg with⟨h1,h2⟩|⟨h1,h2,h3⟩
          · omega
          · exact⟨h1,h2,by rw[hml]at h3;omega⟩
        · have hp2:=hp _ (List.mem_singleton.2 rfl)
          rcases goS_mem8 wx with g|⟨op,a,x,g3,g4,g5,g6,g7⟩
          · show qe (goS X.core0).m q=_
            rw[g];rfl
          · show qe (goS X.core0).m q=_
            obtain⟨t1,t2,t3⟩:=jX g3
            have t4:a+qP op≤X.m.length:=t3
            rw[g5]
            refine fetch_apart g4 hq ?_ g3
            rw[g6,g7,Int.emod_eq_of_lt om om]at hp2
            exact hp2
      · refine⟨[],by unfold jD;rw[if_neg c,List.append_nil],(by intro p hp;cases hp),fun q hq _=> ?_⟩
        rcases goS_mem8 wx with g|⟨op,a,x,g3,g4,g5,g6,g7⟩
        · show qe (goS X.core0).m q=_
          rw[g];rfl
        · obtain⟨t1,t2,t3⟩:=jX g3
          have t4:a+qP op≤X.m.length:=t3
          rw[g6,g7,Int.emod_eq_of_lt om om]at c
          omega
    obtain⟨nw,o1,o2,o3⟩:=one
    unfold js
    split
    · split
      · exact⟨nw,o1,o2,o3⟩
      · obtain⟨nw2,r1,r2,r3⟩:=loop8_fetch bf bt left n (kk+1) (jD X) (next8_wf wx) (by rw[uh];exact hm)
        refine⟨nw++nw2,by rw[r1,o1,List.append_assoc],fun p hp=>(List.mem_append.1 hp).elim (o2 p) (r2 p),fun q hq hp=> ?_⟩
        exact(r3 q hq (fun p h=>hp p (List.mem_append_right _ h))).trans (o3 q hq (fun p h=>hp p (List.mem_append_left _ h)))
    · exact⟨[],(List.append_nil _).symm,(by intro p hp;cases hp),fun _ _ _=>rfl⟩
theorem Kept.apart{m m':List Int}{pc:Int}{l:List InsD}(h:Kept m pc l)(hl:m'.length=m.length)(hm:m.length≤4096)(hf:∀q,pc≤q→q+4≤pc+4*l.length→qe m' q=qe m q):Kept m' pc l:=by
  have h2:=h.fits
  exact⟨h.ne,h.len,h.pos,by rw[hl];exact h2,blk8_keep l pc h.pos om hf h.blk,h.is⟩
end Go.Proofs.YtlfnddmncbkjaabGreatDoor.Fb
