import Derived.Lib.ItoaMem
import Derived.Lib.ItoaLen
import Derived.Lib.Join
import Derived.Lib.FieldsP
import Derived.Lib.ParseIntB
import Derived.Lib.Bytealg
import Derived.Lib.ParseIntBCases
import Derived.Test.YtlfnddmncbkjaabGreatDoorZFbEnc3
import Derived.ArgAppend
set_option linter.unusedVariables false
set_option linter.unusedSimpArgs false
set_option maxRecDepth 100000
set_option maxHeartbeats 4000000
namespace Go.Proofs.YtlfnddmncbkjaabGreatDoor.Fb
open Go.RowKit
def bs(l:List UInt8):ByteArray:=⟨l.toArray⟩
theorem jk(a b:List UInt8):bs a++bs b=bs (a++b):=by
  apply ByteArray.ext
  show(bs a++bs b).data=_
  rw[ByteArray.data_append]
  simp[bs]
theorem QU(l:List UInt8):(bs l).size=l.length:=by simp[bs,ByteArray.size]
def fullL:List (List UInt8):=[[108,117,105],[97,117,105,112,99],[106,97,108],[106,97,108,114],[98,101,113],[98,110,101],[98,108,116],[98,103,101],[98,108,116,117],[98,103,101,117],[108,98],[108,104],[108,119],[108,98,117],[108,104,117],[115,98],[115,104],[115,119],[97,100,100,105],[115,108,116,105],[115,108,116,105,117],[120,111,114,105],[111,114,105],[97,110,100,105],[115,108,108,105],[115,114,108,105],[115,114,97,105],[97,100,100],[115,117,98],[115,108,108],[115,108,116],[115,108,116,117],[120,111,114],[115,114,108],[115,114,97],[111,114],[97,110,100],[109,117,108],[109,117,108,104],[109,117,108,104,115,117],[109,117,108,104,117],[100,105,118],[100,105,118,117],[114,101,109],[114,101,109,117],[108,114,46,119],[115,99,46,119],[97,109,111,115,119,97,112,46,119],[97,109,111,97,100,100,46,119],[97,109,111,120,111,114,46,119],[97,109,111,97,110,100,46,119],[97,109,111,111,114,46,119],[97,109,111,109,105,110,46,119],[97,109,111,109,97,120,46,119],[97,109,111,109,105,110,117,46,119],[97,109,111,109,97,120,117,46,119],[102,101,110,99,101],[101,99,97,108,108],[101,98,114,101,97,107]]
def namesL:List UInt8:=((([108,117,105,32,97,117,105,112,99,32,106,97,108,32,106,97,108,114,32,98,101,113,32,98,110,101,32,98,108,116,32,98,103,101,32,98,108,116].append [117,32,98,103,101,117,32,108,98,32,108,104,32,108,119,32,108,98,117,32,108,104,117,32,115,98,32,115,104,32,115,119,32,97,100,100,105,32]).append ([115,108,116,105,32,115,108,116,105,117,32,120,111,114,105,32,111,114,105,32,97,110,100,105,32,115,108,108,105,32,115,114,108,105,32,115,114,97].append [105,32,97,100,100,32,115,117,98,32,115,108,108,32,115,108,116,32,115,108,116,117,32,120,111,114,32,115,114,108,32,115,114,97,32,111,114,32,97])).append (([110,100,32,109,117,108,32,109,117,108,104,32,109,117,108,104,115,117,32,109,117,108,104,117,32,100,105,118,32,100,105,118,117,32,114,101,109,32].append [114,101,109,117,32,108,114,46,119,32,115,99,46,119,32,97,109,111,115,119,97,112,46,119,32,97,109,111,97,100,100,46,119,32,97,109,111,120,111]).append ([114,46,119,32,97,109,111,97,110,100,46,119,32,97,109,111,111,114,46,119,32,97,109,111,109,105,110,46,119,32,97,109,111,109,97,120,46,119].append [32,97,109,111,109,105,110,117,46,119,32,97,109,111,109,97,120,117,46,119,32,102,101,110,99,101,32,101,99,97,108,108,32,101,98,114,101,97,107])))
def sfx(imm:Int):List UInt8:=if imm=1 then [46,114,108]else if imm=2 then [46,97,113]else if imm=3 then [46,97,113,114,108]else []
def nameS(op imm:Int):List UInt8:=fullL.getD (op-1).toNat []++(if 46≤op∧op≤56 then sfx imm else [])
def regS(n:Int):List UInt8:=120::Lib.itoa n
def atS(n:Int)(num:List UInt8):List UInt8:=num++40::(regS n++[41])
def partsS(i:InsD):List (List UInt8):=
  if i.op≤2 then [regS i.rd,Lib.itoa (i.imm / 4096)]
  else if i.op=3 then [regS i.rd,Lib.itoa i.imm]
  else if i.op=4∨(19≤i.op∧i.op≤27)∨i.op=57 then [regS i.rd,regS i.rs1,Lib.itoa i.imm]
  else if i.op≤10 then [regS i.rs1,regS i.rs2,Lib.itoa i.imm]
  else if i.op≤15 then [regS i.rd,atS i.rs1 (Lib.itoa i.imm)]
  else if i.op≤18 then [regS i.rs2,atS i.rs1 (Lib.itoa i.imm)]
  else if i.op≤45 then [regS i.rd,regS i.rs1,regS i.rs2]
  else if i.op=46 then [regS i.rd,atS i.rs1 []]
  else if i.op≤56 then [regS i.rd,regS i.rs2,atS i.rs1 []]
  else []
def textS(i:InsD):List UInt8:=if partsS i=[]then nameS i.op i.imm else nameS i.op i.imm++32::Lib.join (partsS i) [44]
theorem full_len:fullL.length=59:=rfl
theorem full_short:∀k,k<59→(fullL.getD k []).length≤10:=by decide
theorem sfx_len(imm:Int):(sfx imm).length≤5:=by unfold sfx;(repeat' split)<;>simp
theorem jv(n:Int)(h: -9223372036854775808≤n∧n≤9223372036854775807):(Lib.itoa n).length≤21:=Lib.itoa_length_le n h.1 h.2
theorem JJ(n:Nat)(h:n≤9223372036854775807):(Lib.decDigits n).length≤21:=by
  have:=jv n om
  rwa [Lib.itoa_nonneg]at this
theorem nameS_len(op imm:Int):(nameS op imm).length≤15:=by
  unfold nameS
  rw[sW]
  have h1:(fullL.getD (op-1).toNat []).length≤10:=by
    by_cases h:(op-1).toNat<59
    · exact full_short _ h
    · rw[List.getD,List.getElem?_eq_none (by rw[full_len];omega)];simp
  have h2:(if 46≤op∧op≤56 then sfx imm else []).length≤5:=by
    split
    · exact sfx_len imm
    · simp
  omega
structure MicD where
  op:Int
  d:Int
  a:Int
  b:Int
  n:Int
deriving DecidableEq
def jo(m:MicD):List Value:=[.int .i64 m.op,.int .i64 m.d,.int .i64 m.a,.int .i64 m.b,.int .u32 m.n]
theorem mlist_one(m:MicD):∀u∈jo m,u.oneCell'=true:=by
  intro u hu
  simp only[jo,List.mem_cons,List.not_mem_nil,or_false]at hu
  rcases hu with rfl|rfl|rfl|rfl|rfl<;>rfl
def Qq(op:Int):Int:=
  if op=1∨op=3 then 8 else if op=2 then 9 else if op=4 then 10 else if op=5∨op=6 then 0
  else if op-op.tmod 100=100 then(if 5≤op.tmod 100∧op.tmod 100≤10 then 14 else -1)
  else if op-op.tmod 100=200 then(if 11≤op.tmod 100∧op.tmod 100≤15 then 11 else -1)
  else if op-op.tmod 100=300 then(if 16≤op.tmod 100∧op.tmod 100≤18 then 14 else -1)
  else if op-op.tmod 100=400 then(if 28≤op.tmod 100∧op.tmod 100≤45 then 7 else -1)
  else if op-op.tmod 100=500 then(if 28≤op.tmod 100∧op.tmod 100≤45 then 11 else -1)
  else if op-op.tmod 100=600 then(if 46≤op.tmod 100∧op.tmod 100≤56 then 7 else -1)
  else -1
def regOk(has:Bool)(r:Int):Bool:= !(!has&&r !=0)&&decide (0≤r)&&decide (r<36)
def mayM(m:MicD):Bool:=
  !(decide (Qq m.op<0))&& !(decide (Qq m.op<8)&&m.n !=0)&&regOk (decide ((Qq m.op).tmod 2=1)) m.d&&regOk (decide (((Qq m.op).tdiv 2).tmod 2=1)) m.a&&regOk (decide (((Qq m.op).tdiv 4).tmod 2=1)) m.b
def mayL(l:List MicD):Bool:=decide (l.length≤200)&&l.all mayM
def numOp(op:Int):Int:=if op=19 then 28 else if op=20 then 31 else if op=21 then 32 else if op=22 then 33 else if op=23 then 36 else if op=24 then 37 else if op=25 then 30 else if op=26 then 34 else 35
def numM(op rd rs1 n:Int):List MicD:=
  if rd=0 then []
  else if rs1=0∧(op=28∨op=36∨op=33)then [⟨2,rd,0,0,n⟩]
  else if rs1=0∧(op=37∨op=30∨op=34∨op=35)then [⟨2,rd,0,0,0⟩]
  else [⟨500+op,rd,rs1,0,n⟩]
def u32(x:Int):Int:=x%4294967296
def uv(i:InsD)(pc:Int):List MicD:=
  if i.op=1 then [⟨2,i.rd,0,0,u32 i.imm⟩]
  else if i.op=2 then [⟨2,i.rd,0,0,u32 (pc+u32 i.imm)⟩]
  else if i.op=3 then [⟨2,i.rd,0,0,u32 (pc+4)⟩,⟨3,0,0,0,u32 (pc+u32 i.imm)⟩]
  else if i.op=4 then [⟨528,32,i.rs1,0,u32 i.imm⟩,⟨2,i.rd,0,0,u32 (pc+4)⟩,⟨4,0,32,0,0⟩]
  else if i.op≤10 then [⟨100+i.op,0,i.rs1,i.rs2,u32 (pc+u32 i.imm)⟩]
  else if i.op≤15 then [⟨200+i.op,i.rd,i.rs1,0,u32 i.imm⟩]
  else if i.op≤18 then [⟨300+i.op,0,i.rs1,i.rs2,u32 i.imm⟩]
  else if i.op≤27 then numM (numOp i.op) i.rd i.rs1 (u32 i.imm)
  else if i.op≤45 then(if i.rd=0 then []else [⟨400+i.op,i.rd,i.rs1,i.rs2,0⟩])
  else if i.op≤56 then [⟨600+i.op,i.rd,i.rs1,i.rs2,0⟩]
  else if i.op=58 then [⟨5,0,0,0,0⟩]
  else if i.op=59 then [⟨6,0,0,0,0⟩]
  else []
def insM(i:InsD)(pc:Int):List MicD:=⟨1,0,0,0,pc⟩::uv i pc
def rowM(pc:Int):Nat→List InsD→List MicD
  |_,[]=>[]
  |k,i::r=>insM i (u32 (pc+u32 (4*(k:Int))))++rowM pc (k+1) r
def mkM(pc:Int)(l:List InsD):List MicD:=if 16<l.length∨l.all isS=false then []else rowM pc 0 l
theorem numM_len(op rd rs1 n:Int):(numM op rd rs1 n).length≤3:=by
  unfold numM
  by_cases c1:rd=0
  · rw[if_pos c1];decide
  rw[if_neg c1]
  by_cases c2:rs1=0∧(op=28∨op=36∨op=33)
  · rw[if_pos c2];simp
  rw[if_neg c2]
  by_cases c3:rs1=0∧(op=37∨op=30∨op=34∨op=35)
  · rw[if_pos c3];simp
  rw[if_neg c3];simp
theorem bodyM_len(i:InsD)(pc:Int):(uv i pc).length≤3:=by
  unfold uv
  by_cases c0:i.op=1
  · rw[if_pos c0];simp
  rw[if_neg c0]
  by_cases c1:i.op=2
  · rw[if_pos c1];simp
  rw[if_neg c1]
  by_cases c2:i.op=3
  · rw[if_pos c2];simp
  rw[if_neg c2]
  by_cases c3:i.op=4
  · rw[if_pos c3];simp
  rw[if_neg c3]
  by_cases c4:i.op≤10
  · rw[if_pos c4];simp
  rw[if_neg c4]
  by_cases c5:i.op≤15
  · rw[if_pos c5];simp
  rw[if_neg c5]
  by_cases c6:i.op≤18
  · rw[if_pos c6];simp
  rw[if_neg c6]
  by_cases d1:i.op≤27
  · rw[if_pos d1];exact numM_len _ _ _ _
  rw[if_neg d1]
  by_cases d2:i.op≤45
  · rw[if_pos d2]
    by_cases d3:i.rd=0
    · rw[if_pos d3];decide
    · rw[if_neg d3];simp
  rw[if_neg d2]
  by_cases d4:i.op≤56
  · rw[if_pos d4];simp
  rw[if_neg d4]
  by_cases d5:i.op=58
  · rw[if_pos d5];simp
  rw[if_neg d5]
  by_cases d6:i.op=59
  · rw[if_pos d6];simp
  rw[if_neg d6];decide
theorem rowM_len(pc:Int):∀(l:List InsD) (k:Nat),(rowM pc k l).length≤4*l.length
  |[],_=>Nat.zero_le _
  | i :: r, k => by
    have:=rowM_len pc r (k+1)
    have h2:=bodyM_len i (u32 (pc+u32 (4*(k:Int))))
    simp only[rowM,insM,sW,List.length_cons]
    omega
theorem mkM_len(pc:Int)(l:List InsD):(mkM pc l).length≤4*l.length:=by
  unfold mkM;split
  · simp
  · exact rowM_len pc l 0
theorem uk{i:InsD}(h:isS i=true):(1≤i.op∧i.op≤59)∧(0≤i.rd∧i.rd≤31)∧(0≤i.rs1∧i.rs1≤31)∧(0≤i.rs2∧i.rs2≤31):=by
  unfold isS at h
  rw[Bool.and_eq_true]at h
  have:=of_decide_eq_true h.1
  omega
theorem QW{r:Int}(h:0≤r∧r<36):regOk true r=true:=by simp[regOk,h]
theorem Qn(b:Bool):regOk b 0=true:=by cases b<;>rfl
theorem JF{m:MicD}(k:Int)(hk:Qq m.op=k)(h0:0≤k)(hn:k<8→m.n=0)(hd:regOk (decide (k.tmod 2=1)) m.d=true)(ha:regOk (decide ((k.tdiv 2).tmod 2=1)) m.a=true)(hb:regOk (decide ((k.tdiv 4).tmod 2=1)) m.b=true):mayM m=true:=by
  unfold mayM
  rw[hk,hd,ha,hb]
  have h1:decide (k<0)=false:=zL
  rw[h1]
  by_cases h8:k<8
  · rw[hn h8];simp
  · have:decide (k<8)=false:=by simp;omega
    rw[this];simp
theorem jG(c s:Int)(hc:c=100∨c=200∨c=300∨c=400∨c=500∨c=600)(h0:0≤s)(h1:s<100):(c+s).tmod 100=s∧c+s-(c+s).tmod 100=c:=by
  have:(c+s).tmod 100=s:=by
    rw[Int.tmod_eq_emod_of_nonneg om];omega
  omega
theorem cE{p:Prop}(h:p:=by
 unfold Qq;rw[h2,h1];repeat' split
 all_goals(first|rfl|omega)):p:=h
theorem named_if{s:Int}(h:5≤s∧s≤10):Qq (100+s)=14:=by
  obtain⟨h1,h2⟩:=jG 100 s om om om
  exact cE
theorem named_load{s:Int}(h:11≤s∧s≤15):Qq (200+s)=11:=by
  obtain⟨h1,h2⟩:=jG 200 s om om om
  exact cE
theorem named_store{s:Int}(h:16≤s∧s≤18):Qq (300+s)=14:=by
  obtain⟨h1,h2⟩:=jG 300 s om om om
  exact cE
theorem named_alu{s:Int}(h:28≤s∧s≤45):Qq (400+s)=7:=by
  obtain⟨h1,h2⟩:=jG 400 s om om om
  exact cE
theorem named_alun{s:Int}(h:28≤s∧s≤45):Qq (500+s)=11:=by
  obtain⟨h1,h2⟩:=jG 500 s om om om
  exact cE
theorem named_atom{s:Int}(h:46≤s∧s≤56):Qq (600+s)=7:=by
  obtain⟨h1,h2⟩:=jG 600 s om om om
  exact cE
theorem numOp_in(op:Int):28≤numOp op∧numOp op≤45:=by
  unfold numOp;repeat' split
  all_goals omega
theorem may_set{r n:Int}(h:0≤r∧r<36):mayM ⟨2,r,0,0,n⟩=true:=JF 9 rfl om om (QW h) (Qn _) (Qn _)
theorem may_alun{s d a n:Int}(h:28≤s∧s≤45)(hd:0≤d∧d<36)(ha:0≤a∧a<36):mayM ⟨500+s,d,a,0,n⟩=true:=JF 11 (named_alun h) om om (QW hd) (QW ha) (Qn _)
theorem bodyM_may{i:InsD}(h:isS i=true)(pc:Int):∀m∈uv i pc,mayM m=true:=by
  obtain⟨h1,h2,h3,h4⟩:=uk h
  clear h
  intro m hm
  unfold uv at hm
  by_cases c1:i.op=1
  · rw[if_pos c1]at hm
    rw[List.mem_singleton]at hm;subst hm
    exact may_set om
  rw[if_neg c1]at hm
  by_cases c2:i.op=2
  · rw[if_pos c2]at hm
    rw[List.mem_singleton]at hm;subst hm
    exact may_set om
  rw[if_neg c2]at hm
  by_cases c3:i.op=3
  · rw[if_pos c3]at hm
    simp only[List.mem_cons,List.not_mem_nil,or_false]at hm
    rcases hm with rfl|rfl
    · exact may_set om
    · exact JF 8 rfl om om (Qn _) (Qn _) (Qn _)
  rw[if_neg c3]at hm
  by_cases c4:i.op=4
  · rw[if_pos c4]at hm
    simp only[List.mem_cons,List.not_mem_nil,or_false]at hm
    rcases hm with rfl|rfl|rfl
    · exact may_alun (s:=28) om om om
    · exact may_set om
    · exact JF 10 rfl om om (Qn _) (QW dm) (Qn _)
  rw[if_neg c4]at hm
  by_cases c5:i.op≤10
  · rw[if_pos c5]at hm
    rw[List.mem_singleton]at hm;subst hm
    exact JF 14 (named_if om) om om (Qn _) (QW dm) (QW dm)
  rw[if_neg c5]at hm
  by_cases c6:i.op≤15
  · rw[if_pos c6]at hm
    rw[List.mem_singleton]at hm;subst hm
    exact JF 11 (named_load om) om om (QW dm) (QW dm) (Qn _)
  rw[if_neg c6]at hm
  by_cases c7:i.op≤18
  · rw[if_pos c7]at hm
    rw[List.mem_singleton]at hm;subst hm
    exact JF 14 (named_store om) om om (Qn _) (QW dm) (QW dm)
  rw[if_neg c7]at hm
  by_cases c8:i.op≤27
  · rw[if_pos c8]at hm
    have hn:=numOp_in i.op
    unfold numM at hm
    by_cases d1:i.rd=0
    · rw[if_pos d1]at hm;cases hm
    rw[if_neg d1]at hm
    generalize numOp i.op=q at hn hm
    by_cases d2:i.rs1=0∧(q=28∨q=36∨q=33)
    · rw[if_pos d2]at hm;rw[List.mem_singleton]at hm;subst hm;exact may_set om
    rw[if_neg d2]at hm
    by_cases d3:i.rs1=0∧(q=37∨q=30∨q=34∨q=35)
    · rw[if_pos d3]at hm;rw[List.mem_singleton]at hm;subst hm;exact may_set om
    rw[if_neg d3]at hm
    rw[List.mem_singleton]at hm;subst hm
    exact may_alun hn om om
  rw[if_neg c8]at hm
  by_cases c9:i.op≤45
  · rw[if_pos c9]at hm
    by_cases d1:i.rd=0
    · rw[if_pos d1]at hm;cases hm
    rw[if_neg d1]at hm
    rw[List.mem_singleton]at hm;subst hm
    exact JF 7 (named_alu om) om (fun _=>rfl) (QW dm) (QW dm) (QW dm)
  rw[if_neg c9]at hm
  by_cases c10:i.op≤56
  · rw[if_pos c10]at hm
    rw[List.mem_singleton]at hm;subst hm
    exact JF 7 (named_atom om) om (fun _=>rfl) (QW dm) (QW dm) (QW dm)
  rw[if_neg c10]at hm
  by_cases c11:i.op=58
  · rw[if_pos c11]at hm
    rw[List.mem_singleton]at hm;subst hm
    rfl
  rw[if_neg c11]at hm
  by_cases c12:i.op=59
  · rw[if_pos c12]at hm
    rw[List.mem_singleton]at hm;subst hm
    rfl
  rw[if_neg c12]at hm
  cases hm
theorem rowM_may(pc:Int):∀(l:List InsD) (k:Nat),l.all isS=true→(rowM pc k l).all mayM=true
  |[],_,_=>rfl
  | i :: r, k, h => by
    simp only[List.all_cons,Bool.and_eq_true]at h
    simp only[rowM,insM,List.all_append,List.all_cons,Bool.and_eq_true]
    exact⟨⟨rfl,List.all_eq_true.2 (bodyM_may h.1 _)⟩,rowM_may pc r (k+1) h.2⟩
theorem mkM_may(pc:Int)(l:List InsD):mayL (mkM pc l)=true:=by
  have h:=mkM_len pc l
  unfold mayL
  rw[Bool.and_eq_true,decide_eq_true_eq]
  unfold mkM at h ⊢
  split
  · exact⟨by simp,rfl⟩
  · rename_i hc
    rw[if_neg hc]at h
    have hl:¬16<l.length:=fun e=>hc (.inl e)
    have ha:l.all isS=true:=by
      cases e:l.all isS
      · exact absurd (.inr e) hc
      · rfl
    exact⟨om,rowM_may pc l 0 ha⟩
open Go.Lib
theorem mLoad_u(l:List Int)(op pc:Int)(hop:11≤op∧op≤15)(hpc:U32 pc)(hb:∀i,0≤l.getD i 0∧l.getD i 0<256):U32 (QB l op pc):=by
  by_cases h:qY l op pc=true
  · obtain⟨k,rfl⟩:=sQ hpc.1
    have h0:=hb k
    have h1:=hb (k+1)
    have h2:=hb (k+2)
    have h3:=hb (k+3)
    have ho:op=11∨op=12∨op=13∨op=14∨op=15:=om
    rcases ho with rfl|rfl|rfl|rfl|rfl
    · rw[mLoad_11 h];exact QE _
    · rw[mLoad_12 h];exact QE _
    · rw[mLoad_13 h];unfold U32;omega
    · rw[mLoad_14 h];unfold U32;omega
    · rw[mLoad_15 h];unfold U32;omega
  · unfold QB;rw[if_neg h];unfold U32;omega
theorem reg_u{h:Hart}(wf:h.Wf)(r:Int):U32 (h.reg r):=by
  unfold Hart.reg
  by_cases hr:r.toNat<h.regs.length
  · rw[List.getD,sU hr];exact wf.regs _ (sR hr)
  · rw[List.getD,List.getElem?_eq_none om];show U32 0;unfold U32;omega
theorem qF.Wf.set{d:qF}(wf:d.Wf)(r x:Int)(hx:U32 x):(d.set r x).Wf:=by
  refine⟨?_,wf.m,wf.out,wf.fr,wf.tw,wf.mlen,wf.olen⟩
  show(d.h.setReg r x).Wf
  unfold Hart.setReg
  split
  · refine⟨by simp[wf.h.len],fun y hy=> ?_,wf.h.pc,wf.h.heldAt,wf.h.state,wf.h.cause⟩
    rcases List.mem_or_eq_of_mem_set hy with h|rfl
    · exact wf.h.regs _ h
    · exact hx
  · exact wf.h
theorem qF.Wf.setPc{d:qF}(wf:d.Wf)(x:Int)(hx:U32 x):(d.setPc x).Wf:=
  ⟨⟨wf.h.len,wf.h.regs,hx,wf.h.heldAt,wf.h.state,wf.h.cause⟩,wf.m,wf.out,wf.fr,wf.tw,wf.mlen,wf.olen⟩
theorem qF.Wf.trap{d:qF}(wf:d.Wf)(c:Int)(hc:1≤c∧c≤6):(d.trap c).Wf:=
  ⟨⟨wf.h.len,wf.h.regs,wf.h.pc,wf.h.heldAt,⟨(by decide:(-9223372036854775808:Int)≤2),(by decide:(2:Int)≤9223372036854775807)⟩,by show _≤c∧c≤_;omega⟩,wf.m,wf.out,wf.fr,wf.tw,wf.mlen,wf.olen⟩
theorem qF.Wf.hold{d:qF}(wf:d.Wf)(b:Bool)(x:Int)(hx:U32 x):(d.hold b x).Wf:=
  ⟨⟨wf.h.len,wf.h.regs,wf.h.pc,hx,wf.h.state,wf.h.cause⟩,wf.m,wf.out,wf.fr,wf.tw,wf.mlen,wf.olen⟩
theorem lay_bytes{l:List Int}(hb:jC l)(at_ w:Int):∀m,jC (lay l at_ w m)
  |0=>hb
  | m + 1 => fun x hx => by
    rcases List.mem_or_eq_of_mem_set hx with h|rfl
    · exact lay_bytes hb at_ w m x h
    · omega
theorem qF.Wf.put{d:qF}(wf:d.Wf)(op at_ x:Int)(ha:U32 at_):(d.put op at_ x).Wf:=by
  unfold qF.put
  split
  · rename_i hok
    have e:Qg d.m op at_ x=lay d.m at_ x (qO op).toNat:=by unfold Qg;rw[if_pos hok]
    exact⟨wf.h,by show jC (Qg d.m op at_ x);rw[e];exact lay_bytes wf.m _ _ _,wf.out,ha,QE _,by show(Qg d.m op at_ x).length≤_;rw[Qk];exact wf.mlen,wf.olen⟩
  · exact wf
theorem qF.put_h(d:qF)(op at_ x:Int):(d.put op at_ x).h=d.h:=by unfold qF.put;split<;>rfl
theorem qF.put_out(d:qF)(op at_ x:Int):(d.put op at_ x).out=d.out:=by unfold qF.put;split<;>rfl
theorem qF.put_mlen(d:qF)(op at_ x:Int):(d.put op at_ x).m.length=d.m.length:=by unfold qF.put;split<;>simp[Qk]
theorem uw{d:qF}(wf:d.Wf)(op a b:Int)(ha:U32 a)(hb:U32 b):(qb d op a b).1.Wf∧U32 (qb d op a b).2.1:=by
  have hl:=mLoad_u d.m 13 a om ha wf.m.getD
  unfold qb
  split
  · split
    · exact⟨wf.hold _ _ ha,hl⟩
    · split
      · split
        · exact⟨(wf.put _ _ _ ha).hold _ _ xL,by show U32 0;unfold U32;omega⟩
        · exact⟨wf.hold _ _ xL,by show U32 1;unfold U32;omega⟩
      · exact⟨wf.put _ _ _ ha,hl⟩
  · exact⟨wf.trap _ (by split<;>omega),by show U32 0;unfold U32;omega⟩
theorem callS_wf{d:qF}(wf:d.Wf)(ho:d.out.length<1099511627776):(qx d).1.Wf:=by
  unfold qx
  split
  · exact⟨⟨wf.h.len,wf.h.regs,wf.h.pc,wf.h.heldAt,⟨(by decide:(-9223372036854775808:Int)≤1),(by decide:(1:Int)≤9223372036854775807)⟩,wf.h.cause⟩,wf.m,wf.out,wf.fr,wf.tw,wf.mlen,wf.olen⟩
  · split
    · refine⟨wf.h,wf.m,fun x hx=> ?_,wf.fr,wf.tw,wf.mlen,by show(d.out++[d.h.reg 10]).length≤_;rw[sW,List.length_singleton];omega⟩
      rcases List.mem_append.1 hx with h|h
      · exact wf.out x h
      · rw[List.mem_singleton]at h;subst h;exact reg_u wf.h _
    · exact wf.trap _ om
theorem uG{α:Type}{P:α→Prop}{c:Prop}[Decidable c]{x y:α}(h1:c→P x)(h2:¬c→P y):P (if c then x else y):=by
  by_cases h:c
  · rw[if_pos h];exact h1 h
  · rw[if_neg h];exact h2 h
theorem doS_wf{d:qF}(wf:d.Wf)(i:InsD)(ho:d.out.length<1099511627776):(doS i d).Wf:=by
  have ha:=reg_u wf.h i.rs1
  have hb:=reg_u wf.h i.rs2
  have hn:U32 (i.imm%4294967296):=QE _
  unfold doS
  dsimp only
  repeat' (refine uG (P:=qF.Wf) (fun _=> ?_) (fun _=> ?_))
  all_goals first
    |exact wf.setPc _ (UW (QE _) (QE _))
    |exact(wf.set _ _ (QE _)).setPc _ (QE _)
    |exact(wf.set _ _ (QE _)).setPc _ xL
    |exact wf.setPc _ (QE _)
    |exact(wf.set _ _ (mLoad_u _ _ _ om (QE _) wf.m.getD)).setPc _ (QE _)
    |exact(wf.put _ _ _ (QE _)).setPc _ (QE _)
    |exact(wf.set _ _ (alu_lo _ _ _ ha hn)).setPc _ (QE _)
    |exact(wf.set _ _ (alu_lo _ _ _ ha hb)).setPc _ (QE _)
    |exact((uw wf _ _ _ ha hb).1.set _ _ (uw wf _ _ _ ha hb).2).setPc _ (QE _)
    |exact(uw wf _ _ _ ha hb).1
    |exact(callS_wf wf ho).setPc _ (QE _)
    |exact callS_wf wf ho
    |exact wf.trap _ om
theorem qF.Wf.none{d:qF}(wf:d.Wf):d.none.Wf:=⟨wf.h,wf.m,wf.out,by show U32 0;unfold U32;omega,by show U32 0;unfold U32;omega,wf.mlen,wf.olen⟩
theorem fetchS_c(l:List Int)(pc:Int):(qc l pc).2=0∨(qc l pc).2=1∨(qc l pc).2=2:=by
  unfold qc
  split
  · cases dec (QB l 13 pc)<;>simp
  · simp
theorem goS_wf{d:qF}(wf:d.Wf)(ho:d.out.length<1099511627776):(goS d).Wf:=by
  unfold goS
  have:=fetchS_c d.m d.h.pc
  split
  · exact doS_wf wf.none _ ho
  · exact wf.none.trap _ om
theorem andNot1(x:Int)(hx:U32 x):bits .andNot .u32 x 1=x-x%2:=by
  obtain⟨n,rfl⟩:=sQ hx.1
  have hn:n<4294967296:=by have:=hx.2;omega
  show IntKind.u32.wrap (((BitVec.ofInt 32 (n:Int)&&& ~~~ BitVec.ofInt 32 1).toNat:Nat):Int)=_
  have hb:∀i:Fin 32,(BitVec.ofInt 32 1).getLsbD i.val=decide (i.val<1):=zF
  have e:BitVec.ofInt 32 (n:Int)&&& ~~~ BitVec.ofInt 32 1=(BitVec.ofInt 32 (n:Int)>>>1)<<<1:=by
    apply BitVec.eq_of_getLsbD_eq
    intro i hi
    rw[BitVec.getLsbD_and,BitVec.getLsbD_not,hb ⟨i,hi⟩,BitVec.getLsbD_shiftLeft,BitVec.getLsbD_ushiftRight]
    by_cases h:i<1
    · simp[h,hi]
    · simp[h,hi];rw[show 1+(i-1)=i from om,BitVec.getLsbD_eq_getElem hi]
  rw[e,BitVec.toNat_shiftLeft,BitVec.toNat_ushiftRight,BitVec.ofInt_natCast,BitVec.toNat_ofNat,IntKind.wrap_u32,Nat.shiftLeft_eq,Nat.shiftRight_eq_div_pow]
  omega
theorem qL{B:Nat}{a:World}{b:Nat}(hb:B≤b):∀(vs:List Value) (o:Nat) (w:World),Below B a w→Below B a (w.setCells b o vs)
  |[],_,_,h=>h
  |v::r,o,w,h=>qL hb r (o+1) _ (h.setCell hb v)
theorem uN{b' off:Nat}{xs:List Value}{b:Nat}(hne:b≠b'):∀(vs:List Value) (o:Nat) (w:World),At w b' off xs→At (w.setCells b o vs) b' off xs
  |[],_,_,h=>h
  |v::r,o,w,h=>uN hne r (o+1) _ (h.set_other hne v)
theorem jN{v:Value}{s n:Nat}{xs:List Value}{b:Nat}(hne:∀b' off n c,v=.slice (some ⟨b',off,none⟩) n c→b≠b'):∀(vs:List Value) (o:Nat) (w:World),Sl w v s n xs→Sl (w.setCells b o vs) v s n xs
  |[],_,_,h=>h
  |u::r,o,w,h=>jN hne r (o+1) _ (h.set_other hne u)
theorem there_at{w:World}{b o n:Nat}{xs:List Value}(h:At w b o xs)(hn:xs.length=n)(hf:∀o,w.frozen? ⟨b,o,none⟩=false):w.there b o n:=fun j hj=>by
  have h1:=h j om
  exact⟨by rw[h1];rfl,hf _⟩
theorem QQ{P:Program}{w:World}{b o:Nat}{cs:Array Value}{ty:TypeId}{d:TypeDesc}(ht:w.there b o cs.size)(hu:P.underlying ty=some d)(hd:d.isRow=true)(hi:(P.info? ty).map (·.size)=some cs.size):
    (loadVar ty ⟨b,o,none⟩).run P (w.setCells b o cs.toList)=.ok (.agg cs) (w.setCells b o cs.toList):=by
  have hr:=World.rangeAt_setCells_same w b o cs.toList (by simpa using ht)
  have:=run_loadVar_mid (P:=P) (w.setCells b o cs.toList) b o ty cs.toList d hr hu hd (by simpa using hi)
  simpa using this
theorem qX.init{w:World}{hb ho:Nat}{vm:Value}{ty tC:TypeId}{h:Hart}{l:List Int}(hat:At w hb ho (qJ h))(hfz:∀o,w.frozen? ⟨hb,o,none⟩=false)(hlt:hb<w.heap.size)
    (hv:Ints .u8 w vm l) (hm:∀b off n c,vm=.slice (some ⟨b,off,none⟩) n c→b≠hb∧b<w.heap.size∧∀o,w.frozen? ⟨b,o,none⟩=false) (hml:∀k,vm.ownBlock=some k→k<w.heap.size):
    qX w.heap.size hb ho vm ty (w.alloc (.cells #[.pointer (some ⟨hb,ho,none⟩),vm,.slice none 0 0,.int .u32 0,.int .u32 0] tC)) ⟨h,l,[],0,0⟩:=by
  have hB:Below w.heap.size w (w.alloc (.cells #[.pointer (some ⟨hb,ho,none⟩),vm,.slice none 0 0,.int .u32 0,.int .u32 0] tC)):=Below.alloc br (sN _) _
  refine⟨hlt,by simp,by simp,by simp,by simp,fun o=> ?_,hat.below hB,fun o=> ?_,hv.below hB,fun b off n c e=> ?_,⟨.slice none 0 0,by simp,World.ownsRow_nil _ _ _ _⟩,hml⟩
  · unfold World.frozen?;rw[sP];simp
  · exact(hB.frozen (p:=⟨hb,o,none⟩) hlt).trans (hfz o)
  · obtain⟨x1,x2,x3⟩:=hm b off n c e
    exact⟨x2,x1,by simp;omega,fun o=>(hB.frozen (p:=⟨b,o,none⟩) x2).trans (x3 o)⟩
def qz:Hart:=⟨List.replicate 32 0,0,false,0,0,0⟩
structure Run (n:Nat) (d:qF):Prop where
  ok:d.h.ok=true
  st:d.h.state=0
  ml:d.m.length=n
  ol:d.out.length≤1
structure Fin0 (d0 d:qF):Prop where
  ok:d.h.ok=true
  ml:d.m.length=d0.m.length
  ol:d.out.length≤1
  no:¬d.h.state=0→{d.h with state:=d0.h.state,cause:=d0.h.cause}=d0.h∧d.m=d0.m∧d.out=d0.out
theorem Run.fin{d0 d:qF}(h:Run d0.m.length d):Fin0 d0 d:=⟨h.ok,h.ml,h.ol,fun e=>absurd h.st e⟩
theorem Jn{h:Hart}(hs:h.state=0):h.ok=true↔h.regs.getD 0 0=0∧(h.held=true∨h.heldAt=0)∧h.cause=0:=by
  unfold Hart.ok
  rw[hs]
  simp only[Bool.and_eq_true,Bool.or_eq_true,beq_iff_eq,decide_eq_true_eq]
  constructor
  · rintro⟨⟨h1,h2⟩,h3|h3⟩
    · exact absurd h3.1.1 zF
    · exact⟨h1,h2,h3.2⟩
  · rintro⟨h1,h2,h3⟩
    exact⟨⟨h1,h2⟩,.inr ⟨.inl yS,h3⟩⟩
theorem Run.set{n:Nat}{d:qF}(h:Run n d)(r x:Int):Run n (d.set r x):=by
  refine⟨?_, ?_,h.ml,h.ol⟩
  · have hs:(d.set r x).h.state=0:=by unfold qF.set Hart.setReg;split<;>exact h.st
    rw[Jn hs]
    have h0:=(Jn h.st).1 h.ok
    unfold qF.set Hart.setReg
    split
    · refine⟨?_,h0.2⟩
      show(d.h.regs.set r.toNat x).getD 0 0=0
      rw[List.getD,List.getElem?_set_ne om]
      exact h0.1
    · exact h0
  · unfold qF.set Hart.setReg;split<;>exact h.st
theorem Run.setPc{n:Nat}{d:qF}(h:Run n d)(x:Int):Run n (d.setPc x):=⟨h.ok,h.st,h.ml,h.ol⟩
theorem Run.hold{n:Nat}{d:qF}(h:Run n d)(b:Bool)(x:Int)(hx:b=true∨x=0):Run n (d.hold b x):=by
  refine⟨?_,h.st,h.ml,h.ol⟩
  have h0:=(Jn h.st).1 h.ok
  exact(Jn (h:=(d.hold b x).h) h.st).2 ⟨h0.1,hx,h0.2.2⟩
theorem Run.put{n:Nat}{d:qF}(h:Run n d)(op at_ x:Int):Run n (d.put op at_ x):=
  ⟨by rw[qF.put_h];exact h.ok,by rw[qF.put_h];exact h.st,by rw[qF.put_mlen];exact h.ml,by rw[qF.put_out];exact h.ol⟩
theorem Run.trap{d:qF}(h:Run d.m.length d)(c:Int)(hc:1≤c∧c≤6):Fin0 d (d.trap c):=by
  refine⟨?_,rfl,h.ol,fun _=>⟨rfl,rfl,rfl⟩⟩
  have h0:=(Jn h.st).1 h.ok
  unfold Hart.ok qF.trap Hart.trap
  simp only[Bool.and_eq_true,Bool.or_eq_true,beq_iff_eq,decide_eq_true_eq]
  exact⟨⟨h0.1,h0.2.1⟩,.inl ⟨⟨by first|rfl|trivial,hc.1⟩,hc.2⟩⟩
theorem atomS_run{d:qF}(h:Run d.m.length d)(op a b:Int):((qb d op a b).2.2=true∧Run d.m.length (qb d op a b).1)∨((qb d op a b).2.2=false∧Fin0 d (qb d op a b).1):=by
  unfold qb
  split
  · split
    · exact .inl ⟨rfl,h.hold true a (.inl yS)⟩
    · split
      · split
        · exact .inl ⟨by first|rfl|trivial,(h.put _ _ _).hold false 0 (.inr rfl)⟩
        · exact .inl ⟨rfl,h.hold false 0 (.inr rfl)⟩
      · exact .inl ⟨rfl,h.put _ _ _⟩
  · exact .inr ⟨rfl,h.trap _ (by split<;>omega)⟩
theorem callS_run{d:qF}(h:Run d.m.length d)(ho:d.out=[]):((qx d).2=true∧Run d.m.length (qx d).1)∨((qx d).2=false∧Fin0 d (qx d).1):=by
  unfold qx
  split
  · refine .inr ⟨rfl, ?_,rfl,h.ol,fun _=>⟨rfl,rfl,rfl⟩⟩
    have h0:=(Jn h.st).1 h.ok
    unfold Hart.ok
    simp only[Bool.and_eq_true,Bool.or_eq_true,beq_iff_eq,decide_eq_true_eq]
    exact⟨⟨h0.1,h0.2.1⟩,.inr ⟨.inr trivial,h0.2.2⟩⟩
  · split
    · exact .inl ⟨rfl,h.ok,h.st,rfl,by show(d.out++[d.h.reg 10]).length≤1;rw[ho];simp⟩
    · exact .inr ⟨rfl,h.trap 5 om⟩
theorem doS_fin{d:qF}(h:Run d.m.length d)(ho:d.out=[])(i:InsD):Fin0 d (doS i d):=by
  unfold doS
  dsimp only
  repeat' (refine uG (P:=Fin0 d) (fun _=> ?_) (fun _=> ?_))
  all_goals first
    |exact Run.fin ((h.set _ _).setPc _)
    |exact Run.fin (h.setPc _)
    |exact Run.fin ((h.put _ _ _).setPc _)
    |exact h.trap _ om
    | (rename_i hq; rcases atomS_run h i.op (d.h.reg i.rs1) (d.h.reg i.rs2) with ⟨e, hr⟩ | ⟨e, hr⟩
       · exact Run.fin ((hr.set _ _).setPc _)
       · exact absurd hq (by rw[e];decide))
    | (rename_i hq; rcases atomS_run h i.op (d.h.reg i.rs1) (d.h.reg i.rs2) with ⟨e, hr⟩ | ⟨e, hr⟩
       · exact absurd e hq
       · exact hr)
    | (rename_i hq; rcases callS_run h ho with ⟨e, hr⟩ | ⟨e, hr⟩
       · exact Run.fin (hr.setPc _)
       · exact absurd hq (by rw[e];decide))
    | (rename_i hq; rcases callS_run h ho with ⟨e, hr⟩ | ⟨e, hr⟩
       · exact absurd e hq
       · exact hr)
theorem goS_fin(h:Hart)(l:List Int)(hok:h.ok=true)(hst:h.state=0):Fin0 ⟨h,l,[],0,0⟩ (goS ⟨h,l,[],0,0⟩):=by
  have hr:Run l.length ⟨h,l,[],0,0⟩:=⟨hok,hst,rfl,by simp⟩
  have hc:=fetchS_c l h.pc
  unfold goS
  dsimp only
  split
  · exact doS_fin (d:=qF.none ⟨h,l,[],0,0⟩) hr rfl _
  · exact Run.trap (d:=qF.none ⟨h,l,[],0,0⟩) hr _ om
def lose(fr tw:Int)(h:Hart):Hart:=if(h.held&&decide (fr<(h.heldAt+4)%4294967296)&&decide (h.heldAt<tw))=true then {h with held:=false,heldAt:=0} else h
def QA(k:Nat)(fr tw:Int)(n:Nat)(hs:List Hart):List Hart:=hs.mapIdx fun j h=>if j<n∧j≠k then lose fr tw h else h
theorem loseTo_zero(k:Nat)(fr tw:Int)(hs:List Hart):QA k fr tw 0 hs=hs:=by
  unfold QA
  apply List.ext_getElem
  · simp
  · intro i h1 h2;simp
theorem QF(k:Nat)(fr tw:Int)(n:Nat)(hs:List Hart):(QA k fr tw n hs).length=hs.length:=by simp[QA]
theorem QT(k:Nat)(fr tw:Int)(n:Nat)(hs:List Hart)(i:Nat)(h:i<hs.length):(QA k fr tw n hs)[i]'(by rw[QF];exact h)=if i<n∧i≠k then lose fr tw hs[i]else hs[i]:=by simp[QA]
theorem loseTo_self(k:Nat)(fr tw:Int)(hs:List Hart):QA k fr tw (k+1) hs=QA k fr tw k hs:=by
  apply List.ext_getElem
  · simp[QF]
  · intro i h1 h2
    rw[QF]at h1
    rw[QT _ _ _ _ _ _ h1,QT _ _ _ _ _ _ h1]
    by_cases e:i=k
    · subst e;simp
    · simp only[show(i<k+1)=(i<k)from propext ⟨fun h=>om,fun h=>om⟩]
theorem loseTo_succ{k n:Nat}(fr tw:Int)(hs:List Hart)(hn:n<hs.length)(hk:n≠k):QA k fr tw (n+1) hs=(QA k fr tw n hs).set n (lose fr tw hs[n]):=by
  apply List.ext_getElem
  · simp[QF]
  · intro i h1 h2
    rw[QF]at h1
    rw[QT _ _ _ _ _ _ h1,List.getElem_set]
    by_cases e:n=i
    · subst e;rw[if_pos rfl,if_pos ⟨om,hk⟩]
    · rw[if_neg e,QT _ _ _ _ _ _ h1]
      simp only[show(i<n+1)=(i<n)from propext ⟨fun h=>om,fun h=>om⟩]
theorem loseTo_keep{k n:Nat}(fr tw:Int)(hs:List Hart)(hn:n<hs.length)(hl:lose fr tw hs[n]=hs[n]):QA k fr tw (n+1) hs=QA k fr tw n hs:=by
  by_cases hk:n=k
  · subst hk;exact loseTo_self _ _ _ _
  · rw[loseTo_succ fr tw hs hn hk,hl]
    apply List.ext_getElem
    · simp
    · intro i h1 h2
      rw[List.getElem_set]
      split
      · rename_i e;subst e;rw[QT _ _ _ _ _ _ hn,if_neg om]
      · rfl
theorem loseTo_at{k n:Nat}(fr tw:Int)(hs:List Hart)(hn:n<hs.length):(QA k fr tw n hs)[n]'(by rw[QF];exact hn)=hs[n]:=by
  rw[QT _ _ _ _ _ _ hn,if_neg om]
structure St where
  harts:List Hart
  mem:List Int
  out:List Int
  steps:Nat
def St.hart(s:St)(k:Nat):Hart:=s.harts.getD k qz
def goM(k:Nat)(s:St):St:=
  let d:=goS (⟨s.hart k,s.mem,[],0,0⟩:qF)
  ⟨QA k d.fr d.tw s.harts.length (s.harts.set k d.h),d.m,s.out++d.out,s.steps+1⟩
def qk(k:Nat):Nat→St→St
  |0,s=>s
  |n+1,s=>if(s.hart k).state=0 then qk k n (goM k s)else s
def qw:List (Int × Int)→St→St
  |[],s=>s
  |p::r,s=>qw r (qk p.1.toNat p.2.toNat s)
def qN(m:Mach):St:=⟨m.harts,m.mem,[],0⟩
def runM(m:Mach)(l:List (Int × Int)):St:=if qj m l=0 then qw l (qN m)else⟨[],[],[],0⟩
def qF.pre(o:List Int)(d:qF):qF:={d with out:=o++d.out}
theorem pre_ite{c:Prop}[Decidable c](o:List Int)(x y:qF):(if c then x else y).pre o=if c then x.pre o else y.pre o:=by split<;>rfl
theorem pre_put(o:List Int)(d:qF)(op a x:Int):(d.pre o).put op a x=(d.put op a x).pre o:=by
  unfold qF.put qF.pre
  dsimp only
  split<;>rfl
theorem pre_atom(o:List Int)(d:qF)(op a b:Int):qb (d.pre o) op a b=((qb d op a b).1.pre o,(qb d op a b).2):=by
  unfold qb
  simp only[pre_put]
  show(if qY d.m 13 a=true then _ else _)=_
  split
  · split
    · rfl
    · split
      · show(if(d.h.held&&d.h.heldAt==a)=true then _ else _)=_
        split<;>rfl
      · rfl
  · rfl
theorem pre_call(o:List Int)(d:qF):qx (d.pre o)=((qx d).1.pre o,(qx d).2):=by
  unfold qx
  show(if d.h.reg 17=0 then _ else _)=_
  split
  · rfl
  · show(if d.h.reg 17=1 then _ else _)=_
    split
    · show(({d with out:=(o++d.out)++[d.h.reg 10]}:qF),true)=_
      rw[List.append_assoc];rfl
    · rfl
theorem pre_do(o:List Int)(d:qF)(i:InsD):doS i (d.pre o)=(doS i d).pre o:=by
  unfold doS
  dsimp only
  simp only[pre_put,pre_atom,pre_call,pre_ite]
  rfl
theorem pre_go(o:List Int)(d:qF):goS (d.pre o)=(goS d).pre o:=by
  unfold goS
  show(if(qc d.m d.h.pc).2=0 then doS (qc d.m d.h.pc).1 (d.none.pre o)else(d.none.trap (qc d.m d.h.pc).2).pre o)=_
  rw[pre_do,pre_ite]
theorem goS_out(d:qF):goS d=(goS (⟨d.h,d.m,[],0,0⟩:qF)).pre d.out:=by
  rw[←pre_go]
  show goS d=goS (⟨d.h,d.m,d.out++[],0,0⟩:qF)
  rw[List.append_nil]
  rfl
structure St.Wf (s:St):Prop where
  harts:∀h∈s.harts,h.Wf
  mem:jC s.mem
  mlen:s.mem.length≤4096
  out:∀x∈s.out,U32 x
theorem um:qz.Wf:=⟨rfl,by intro x hx;have:=List.eq_of_mem_replicate hx;subst this;exact⟨by decide,by decide⟩,⟨by decide,by decide⟩,⟨by decide,by decide⟩,⟨by decide,by decide⟩,⟨by decide,by decide⟩⟩
theorem St.hart_at{s:St}{k:Nat}(h:k<s.harts.length):s.hart k=s.harts[k]:=by
  unfold St.hart;rw[List.getD,sU h];rfl
theorem St.Wf.hart{s:St}(h:s.Wf)(k:Nat):(s.hart k).Wf:=by
  by_cases hk:k<s.harts.length
  · rw[St.hart_at hk];exact h.harts _ (sR hk)
  · unfold St.hart;rw[List.getD,List.getElem?_eq_none om];exact um
theorem St.Wf.core{s:St}(h:s.Wf)(k:Nat):(⟨s.hart k,s.mem,[],0,0⟩:qF).Wf:=
  ⟨h.hart k,h.mem,by simp,(⟨by decide,by decide⟩:U32 0),(⟨by decide,by decide⟩:U32 0),(by show s.mem.length≤_;have:=h.mlen;omega),by simp⟩
theorem uE{fr tw:Int}{h:Hart}(wf:h.Wf):(lose fr tw h).Wf:=by
  unfold lose
  split
  · exact⟨wf.len,wf.regs,wf.pc,(⟨by decide,by decide⟩:U32 0),wf.state,wf.cause⟩
  · exact wf
theorem lose_ok{fr tw:Int}{h:Hart}(ok:h.ok=true):(lose fr tw h).ok=true:=by
  unfold lose
  split
  · unfold Hart.ok at ok ⊢
    simp only[Bool.and_eq_true,Bool.or_eq_true,beq_iff_eq,decide_eq_true_eq]at ok ⊢
    exact⟨⟨ok.1.1,.inr trivial⟩,ok.2⟩
  · exact ok
theorem ju{k:Nat}{fr tw:Int}{n:Nat}{hs:List Hart}{P:Hart→Prop}(hp:∀h∈hs,P h)(hl:∀h,P h→P (lose fr tw h)):∀h∈QA k fr tw n hs,P h:=by
  intro h hh
  obtain⟨i,hi,rfl⟩:=List.getElem_of_mem hh
  have hi':i<hs.length:=by rw[QF]at hi;exact hi
  rw[QT _ _ _ _ _ _ hi']
  split
  · exact hl _ (hp _ (sR hi'))
  · exact hp _ (sR hi')
theorem goS_mlen(d:qF)(i:InsD):(doS i d).m.length=d.m.length:=by
  unfold doS
  dsimp only
  have ha:(qb d i.op (d.h.reg i.rs1) (d.h.reg i.rs2)).1.m.length=d.m.length:=by
    unfold qb
    repeat' (refine uG (P:=fun p:qF × Int × Bool=>p.1.m.length=d.m.length) (fun _=> ?_) (fun _=> ?_))
    all_goals first|rfl|exact qF.put_mlen _ _ _ _
  have hc:(qx d).1.m=d.m:=by
    unfold qx
    repeat' (refine uG (P:=fun p:qF × Bool=>p.1.m=d.m) (fun _=> ?_) (fun _=> ?_))
    all_goals rfl
  repeat' (refine uG (P:=fun p:qF=>p.m.length=d.m.length) (fun _=> ?_) (fun _=> ?_))
  all_goals first
    |rfl
    |exact qF.put_mlen _ _ _ _
    |exact ha
    |exact Qk _ _ _ _
    |(show(qx d).1.m.length=_;rw[hc])
theorem goS_ml(d:qF):(goS d).m.length=d.m.length:=by
  unfold goS
  split
  · exact goS_mlen _ _
  · rfl
theorem goM_len(k:Nat)(s:St):(goM k s).harts.length=s.harts.length:=by
  show(QA _ _ _ _ _).length=_
  rw[QF,List.length_set]
theorem goM_wf{k:Nat}{s:St}(wf:s.Wf):(goM k s).Wf:=by
  have h:=goS_wf (wf.core k) zC
  refine⟨ju (P:=Hart.Wf) ?_ (fun _=>uE),h.m, ?_, ?_⟩
  · intro x hx
    rcases List.mem_or_eq_of_mem_set hx with hx|rfl
    · exact wf.harts _ hx
    · exact h.h
  · show(goS _).m.length≤_
    rw[goS_ml];exact wf.mlen
  · intro x hx
    rcases List.mem_append.1 hx with hx|hx
    · exact wf.out _ hx
    · exact h.out _ hx
theorem ub{k:Nat}:∀(n:Nat) (s:St),(qk k n s).harts.length=s.harts.length
  |0,_=>rfl
  | n + 1, s => by
    unfold qk
    split
    · rw[ub n,goM_len]
    · rfl
theorem playM_len:∀(l:List (Int × Int)) (s:St),(qw l s).harts.length=s.harts.length
  |[],_=>rfl
  |_::r,_=>by unfold qw;rw[playM_len r,ub]
theorem JQ{k:Nat}{s:St}(h:¬(s.hart k).state=0)(n:Nat):qk k n s=s:=by
  cases n with
  |zero=>rfl
  |succ n=>unfold qk;rw[if_neg h]
theorem jx{m:Mach}{l:List (Int × Int)}(h:qj m l=0):m.mem.length≤4096∧1≤m.harts.length∧m.harts.length≤4∧(∀x∈m.harts,x.ok=true)∧l.length≤300∧∀p∈l,0≤p.1∧p.1<m.harts.length∧0≤p.2∧p.2≤400:=by
  unfold qj at h
  split at h
  · cases h
  split at h
  · cases h
  split at h
  · cases h
  split at h
  · cases h
  rename_i h1 h2 h3 h4
  refine⟨om,om,om,fun x hx=> ?_,om,fun p hp=> ?_⟩
  · cases e:x.ok with
    |true=>rfl
    |false=>exact absurd (List.any_eq_true.2 ⟨x,hx,by simp[e]⟩) h2
  · have:js m.harts.length p=false:=by
      cases e:js m.harts.length p with
      |false=>rfl
      |true=>exact absurd (List.any_eq_true.2 ⟨p,hp,e⟩) h4
    unfold js at this
    simp only[Bool.or_eq_false_iff,decide_eq_false_iff_not]at this
    omega
structure St.Good (s:St):Prop where
  wf:s.Wf
  ok:∀h∈s.harts,h.ok=true
  ol:s.out.length≤s.steps
theorem St.Good.hart{s:St}(h:s.Good)(k:Nat):(s.hart k).ok=true:=by
  by_cases hk:k<s.harts.length
  · rw[St.hart_at hk];exact h.ok _ (sR hk)
  · unfold St.hart;rw[List.getD,List.getElem?_eq_none om];rfl
theorem goM_good{k:Nat}{s:St}(h:s.Good)(hs:(s.hart k).state=0):(goM k s).Good:=by
  have hf:=goS_fin (s.hart k) s.mem (h.hart k) hs
  refine⟨goM_wf h.wf,ju (P:=fun h=>h.ok=true) ?_ (fun _=>lose_ok), ?_⟩
  · intro x hx
    rcases List.mem_or_eq_of_mem_set hx with hx|rfl
    · exact h.ok _ hx
    · exact hf.ok
  · show(s.out++(goS _).out).length≤s.steps+1
    have h1:=hf.ol
    have h2:=h.ol
    rw[sW]
    omega
theorem US{k:Nat}:∀(n:Nat) {s:St},s.Good→(qk k n s).Good
  |0,_,h=>h
  | n + 1, s, h => by
    unfold qk
    split
    · rename_i hs;exact US n (goM_good h hs)
    · exact h
theorem playM_good:∀(l:List (Int × Int)) {s:St},s.Good→(qw l s).Good
  |[],_,h=>h
  |_::r,_,h=>playM_good r (US _ h)
theorem pickM_steps{k:Nat}:∀(n:Nat) (s:St),(qk k n s).steps≤s.steps+n
  |0,_=>sN _
  | n + 1, s => by
    unfold qk
    split
    · have:=pickM_steps (k:=k) n (goM k s)
      have h2:(goM k s).steps=s.steps+1:=rfl
      omega
    · omega
theorem uC:∀(l:List (Int × Int)) (s:St),(∀p∈l,p.2≤400)→(qw l s).steps≤s.steps+400*l.length
  |[],_,_=>sN _
  | p :: r, s, h => by
    unfold qw
    have h1:=uC r (qk p.1.toNat p.2.toNat s) (fun q hq=>h q (by simp[hq]))
    have h2:=pickM_steps (k:=p.1.toNat) p.2.toNat s
    have h3:=h p zC
    rw[List.length_cons]
    omega
theorem Jw{m:Mach}{l:List (Int × Int)}(wf:m.Wf)(h:qj m l=0):(qN m).Good:=by
  obtain⟨h1,h2,h3,h4,_⟩:=jx h
  exact⟨⟨wf.harts,wf.mem,h1,by intro x hx;cases hx⟩,h4,sN _⟩
def St.mach(s:St):Mach:=⟨s.mem,s.harts⟩
def St.pre(o:List Int)(n:Nat)(s:St):St:=⟨s.harts,s.mem,o++s.out,n+s.steps⟩
theorem UQ:∀(a b:List (Int × Int)) (s:St),qw (a++b) s=qw b (qw a s)
  |[],_,_=>rfl
  | p :: r, b, s => by
    show qw (r++b) (qk p.1.toNat p.2.toNat s)=qw b (qw r (qk p.1.toNat p.2.toNat s))
    exact UQ r b _
theorem pickM_add{k:Nat}:∀(n m:Nat) (s:St),qk k (n+m) s=qk k m (qk k n s)
  |0,m,s=>by rw[sM];rfl
  | n + 1, m, s => by
    rw[show n+1+m=(n+m)+1 by omega]
    by_cases h:(s.hart k).state=0
    · have e1:qk k (n+m+1) s=qk k (n+m) (goM k s):=by conv=>lhs;unfold qk;rw[if_pos h]
      have e2:qk k (n+1) s=qk k n (goM k s):=by conv=>lhs;unfold qk;rw[if_pos h]
      rw[e1,e2];exact pickM_add n m (goM k s)
    · rw[JQ h,JQ h,JQ h]
abbrev Rd:=List Int × Bool
theorem jC.drop{l:List Int}(h:jC l)(n:Nat):jC (l.drop n):=fun x hx=>h x (List.mem_of_mem_drop hx)
theorem jC.take{l:List Int}(h:jC l)(n:Nat):jC (l.take n):=fun x hx=>h x (List.mem_of_mem_take hx)
section
variable {a : List Int × Rd}
end
theorem qI{B:Nat}{e:TypeId}{k:Nat}{v:Value}{n:Nat}{xs:List Value}{w w':World}(h:w.ownsRow B e k v n xs)(hb:∀g,v.ownBlock=some g→w'.heap[g]? =w.heap[g]?):w'.ownsRow B e k v n xs:=by
  obtain⟨h1,h2⟩:=h
  refine⟨h1, ?_⟩
  rcases h2 with⟨rfl,rfl⟩|⟨g,cap,cur,rfl,hB,hh,h3⟩
  · exact .inl ⟨rfl,rfl⟩
  · exact .inr ⟨g,cap,cur,rfl,hB,(hb g rfl).trans hh,h3⟩
theorem qA{w w':World}{b:Nat}(h:w'.heap[b]? =w.heap[b]?)(o:Nat):w'.cell? ⟨b,o,none⟩=w.cell? ⟨b,o,none⟩:=World.cell?_of_block (a:=⟨b,o,none⟩) h
theorem qK{w w':World}{b:Nat}(h:w'.heap[b]? =w.heap[b]?)(o:Nat):w'.frozen? ⟨b,o,none⟩=w.frozen? ⟨b,o,none⟩:=World.frozen?_of_block (a:=⟨b,o,none⟩) h
theorem QX{w w':World}{v:Value}{s n:Nat}{xs:List Value}(h:Sl w v s n xs)(hb:∀g,v.ownBlock=some g→w'.heap[g]? =w.heap[g]?):Sl w' v s n xs:=by
  obtain⟨h1,ao,cap,h2,h3,h4,h5,h6⟩:=h
  refine⟨h1,ao,cap,h2,h3,h4,h5,fun a ha hx=>⟨(h6 a ha hx).1, ?_⟩⟩
  obtain⟨b,off,sp⟩:=a
  have h7:=h6 _ ha hx
  have hs:=h7.1
  simp only at hs
  subst hs
  intro j hj
  exact(qA (hb b (by rw[h2,ha];rfl)) _).trans (h7.2 j hj)
theorem At.flat{α:Type}{w:World}{b:Nat}(f:α→List Value)(s:Nat):∀{l:List α} {off:Nat},(∀x∈l,(f x).length=s)→(∀i (h:i<l.length),At w b (off+i*s) (f l[i]))→At w b off (l.flatMap f)
  |[],_,_,_=>fun j hj=>by simp at hj
  | x :: r, off, hf, h => by
    rw[List.flatMap_cons]
    have hx:=hf x zC
    have h0:=h 0 zC
    rw[Nat.zero_mul,Nat.add_zero]at h0
    refine At.append h0 ?_
    rw[hx]
    refine At.flat f s (fun y hy=>hf y (by simp[hy])) (fun i hi=> ?_)
    have:=h (i+1) zL
    rw[Nat.add_mul,Nat.one_mul]at this
    rw[show off+s+i*s=off+(i*s+s) by omega]
    exact this
theorem jn{w w':World}{b:Nat}{hs:List Hart}{k:Nat}{h':Hart}(ha:At w b 0 (hs.flatMap qJ))(hl:∀h∈hs,(qJ h).length=37)(hl':(qJ h').length=37)
    (hk:At w' b (k*37) (qJ h')) (hc:∀o,(o<k*37∨k*37+37≤o)→w'.cell? ⟨b,o,none⟩=w.cell? ⟨b,o,none⟩):At w' b 0 ((hs.set k h').flatMap qJ):=by
  refine At.flat qJ 37 (fun x hx=> ?_) (fun i hi=> ?_)
  · rcases List.mem_or_eq_of_mem_set hx with hx|rfl
    · exact hl x hx
    · exact hl'
  · rw[List.length_set]at hi
    rw[List.getElem_set]
    split
    · rename_i e;subst e;rw[sM];exact hk
    · rename_i e
      have h1:=At.elem qJ 37 hl ha i hi
      intro j hj
      rw[hl _ (sR hi)]at hj
      rw[hc _ om]
      exact h1 j (by rw[hl _ (sR hi)];exact hj)
theorem jc{w:World}{b:Nat}{hs:List Hart}{k:Nat}(ha:At w b 0 (hs.flatMap qJ))(hl:∀h∈hs,(qJ h).length=37)(hk:k<hs.length):At w b (k*37) (qJ hs[k]):=by
  have:=At.elem qJ 37 hl ha k hk
  rw[sM]at this
  exact this
structure Bd (bp bh hc:Nat) (vm vo:Value) (ty:TypeId) (w:World) (s:St):Prop where
  b1:bh<bp
  c0:w.cell? ⟨bp,0,none⟩=some vm
  c1:w.cell? ⟨bp,1,none⟩=some (.slice (some ⟨bh,0,none⟩) s.harts.length hc)
  c2:w.cell? ⟨bp,2,none⟩=some vo
  c3:w.cell? ⟨bp,3,none⟩=some (.int .i64 s.steps)
  frz:∀o,w.frozen? ⟨bp,o,none⟩=false
  harts:At w bh 0 (s.harts.flatMap qJ)
  hlt:bh<w.heap.size
  hfz:∀o,w.frozen? ⟨bh,o,none⟩=false
  bytes:Ints .u8 w vm s.mem
  mfz:∀b off n c,vm=.slice (some ⟨b,off,none⟩) n c→b<w.heap.size∧∀o,w.frozen? ⟨b,o,none⟩=false
  mlt:∀k,vm.ownBlock=some k→k<bp∧k≠bh
  own:w.ownsRow (bp+1) ty 1 vo s.out.length (s.out.map (Value.int .u32))
  hcap:s.harts.length≤hc∧hc≤maxLen
structure Wk (bp bh hc cp k:Nat) (vm vo:Value) (ty:TypeId) (o0 o:List Int) (fr tw:Int) (w:World) (s:St):Prop where
  core:qX cp bh (k*37) vm ty w ⟨s.hart k,s.mem,o,fr,tw⟩
  b1:bh<bp
  b2:bp<cp
  c0:w.cell? ⟨bp,0,none⟩=some vm
  c1:w.cell? ⟨bp,1,none⟩=some (.slice (some ⟨bh,0,none⟩) s.harts.length hc)
  c2:w.cell? ⟨bp,2,none⟩=some vo
  c3:w.cell? ⟨bp,3,none⟩=some (.int .i64 s.steps)
  frz:∀o,w.frozen? ⟨bp,o,none⟩=false
  harts:At w bh 0 (s.harts.flatMap qJ)
  mlt:∀k,vm.ownBlock=some k→k<bp∧k≠bh
  own:w.ownsRow (bp+1) ty 1 vo o0.length (o0.map (Value.int .u32))
  vlt:∀g,vo.ownBlock=some g→g<cp
  kl:k<s.harts.length
  hcap:s.harts.length≤hc∧hc≤maxLen
theorem Bd.begin{w:World}{m:Mach}{vm vh:Value}{B1 B2:Nat}{t1 t2 tB ty:TypeId}(h1:w.ownsRow B1 t1 1 vm m.mem.length (m.mem.map (Value.int .u8)))(h2:w.ownsRow B2 t2 37 vh m.harts.length (m.harts.flatMap qJ))
    (hne:∀k,vm.ownBlock=some k→vh.ownBlock≠some k) (hl:1≤m.harts.length):
    ∃bh hc,vh=.slice (some ⟨bh,0,none⟩) m.harts.length hc∧B2≤bh∧Bd w.heap.size bh hc vm (.slice none 0 0) ty (w.alloc (.cells #[vm,vh,.slice none 0 0,.int .i64 0] tB)) (qN m):=by
  rcases jF h2 with⟨_,e,_⟩|⟨g,cap,rfl,hB,hg,hn,hm,hat,hf⟩
  · omega
  have hb:Below w.heap.size w (w.alloc (.cells #[vm,.slice (some ⟨g,0,none⟩) m.harts.length cap,.slice none 0 0,.int .i64 0] tB)):=Below.alloc br (sN _) _
  refine⟨g,cap,rfl,hB,hg,by simp,by simp[qN],by simp,by simp[qN],fun o=>by unfold World.frozen?;rw[sP];simp,hat.below hb,Nat.lt_of_lt_of_le hg hb.size,fun o=>(hb.frozen (p:=⟨g,o,none⟩) hg).trans (hf o),(ql h1).below hb,fun b off n c e=> ?_,fun k e=> ?_,World.ownsRow_nil _ _ _ _,hn,hm⟩
  · rcases jF h1 with⟨rfl,_⟩|⟨g1,c1,rfl,_,hg1,_,_,_,hf1⟩
    · cases e
    · cases e
      exact⟨Nat.lt_of_lt_of_le hg1 hb.size,fun o=>(hb.frozen (p:=⟨b,o,none⟩) hg1).trans (hf1 o)⟩
  · exact⟨(h1.lt k e).2,fun e2=>hne k e (by rw[e2];rfl)⟩
section
variable {bp bh hc cp k : Nat} {vm vo : Value} {ty : TypeId} {o0 o : List Int} {fr tw : Int} {w w' : World} {s : St}
theorem qX.move{hb ho:Nat}{d:qF}{h':Hart}(h:qX cp hb ho vm ty w d)(hcp:w'.heap[cp]? =w.heap[cp]?)(hvm:∀k,vm.ownBlock=some k→w'.heap[k]? =w.heap[k]?)(hrow:∀k,cp<k→k<w.heap.size→w'.heap[k]? =w.heap[k]?)
    (hsz:w.heap.size≤w'.heap.size) (hat:At w' hb ho (qJ h')) (hfz:∀o,w'.frozen? ⟨hb,o,none⟩=false):qX cp hb ho vm ty w' {d with h:=h'}:=by
  refine⟨h.hbl,(qA hcp _).trans h.ptr,(qA hcp _).trans h.mem,(qA hcp _).trans h.fr,(qA hcp _).trans h.tw,fun o=>(qK hcp o).trans (h.frz o),hat,hfz,QX h.bytes hvm,fun b off n c e=> ?_, ?_,h.mlt⟩
  · obtain⟨x1,x2,x3,x4⟩:=h.mfz b off n c e
    exact⟨x1,x2,om,fun o=>(qK (hvm b xB) o).trans (x4 o)⟩
  · obtain⟨vo',y1,y2⟩:=h.row
    refine⟨vo',(qA hcp _).trans y1,qI y2 (fun g hg=> ?_)⟩
    have:=y2.lt g hg
    exact hrow g om this.2
theorem Bd.lt(h:Bd bp bh hc vm vo ty w s):bp<w.heap.size:=qD h.c0
theorem Bd.below(h:Bd bp bh hc vm vo ty w s)(hb:Below w.heap.size w w'):Bd bp bh hc vm vo ty w' s:=by
  have hl:=h.lt
  have e:=hb.block bp hl
  have eh:=hb.block bh h.hlt
  refine⟨h.b1,(qA e _).trans h.c0,(qA e _).trans h.c1,(qA e _).trans h.c2,(qA e _).trans h.c3,fun o=>(qK e o).trans (h.frz o),h.harts.below hb,Nat.lt_of_lt_of_le h.hlt hb.size,fun o=>(qK eh o).trans (h.hfz o),h.bytes.below hb,fun b off n c e=> ?_,h.mlt,qP h.own hb,h.hcap⟩
  obtain⟨x1,x2⟩:=h.mfz b off n c e
  exact⟨Nat.lt_of_lt_of_le x1 hb.size,fun o=>(qK (hb.block b x1) o).trans (x2 o)⟩
theorem Bd.start{tC:TypeId}(h:Bd bp bh hc vm vo ty w s)(wf:s.Wf)(hk:k<s.harts.length):
    Wk bp bh hc w.heap.size k vm vo ty s.out [] 0 0 (w.alloc (.cells #[.pointer (some ⟨bh,k*37,none⟩),vm,.slice none 0 0,.int .u32 0,.int .u32 0] tC)) s:=by
  have hB:Below w.heap.size w (w.alloc (.cells #[.pointer (some ⟨bh,k*37,none⟩),vm,.slice none 0 0,.int .u32 0,.int .u32 0] tC)):=Below.alloc br (sN _) _
  have h2:=h.below hB
  have hat:=jc h.harts (fun x hx=>qG (wf.harts x hx)) hk
  rw[←St.hart_at hk]at hat
  refine⟨qX.init hat h.hfz h.hlt h.bytes (fun b off n c e=>⟨(h.mlt b xB).2,h.mfz b off n c e⟩) (fun k e=>Nat.lt_trans (h.mlt k e).1 h.lt),h.b1,h.lt,h2.c0,h2.c1,h2.c2,h2.c3,h2.frz,h2.harts,h.mlt,h2.own,fun g hg=>(h.own.lt g hg).2,hk,h.hcap⟩
theorem Wk.clt(h:Wk bp bh hc cp k vm vo ty o0 o fr tw w s):cp<w.heap.size:=h.core.lt
theorem Wk.below(h:Wk bp bh hc cp k vm vo ty o0 o fr tw w s)(hb:Below w.heap.size w w'):Wk bp bh hc cp k vm vo ty o0 o fr tw w' s:=by
  have e:=hb.block bp (Nat.lt_trans h.b2 h.clt)
  exact⟨h.core.below hb,h.b1,h.b2,(qA e _).trans h.c0,(qA e _).trans h.c1,(qA e _).trans h.c2,(qA e _).trans h.c3,fun o=>(qK e o).trans (h.frz o),h.harts.below hb,h.mlt,qP h.own hb,h.vlt,h.kl,h.hcap⟩
theorem Wk.drewN(h:Wk bp bh hc cp k vm vo ty o0 o fr tw w s)(n:Nat):Wk bp bh hc cp k vm vo ty o0 o fr tw (w.drewN n) s:=h.below (qB br _)
theorem Wk.tick(h:Wk bp bh hc cp k vm vo ty o0 o fr tw w s)(n:Nat):Wk bp bh hc cp k vm vo ty o0 o fr tw (w.setCell ⟨bp,3,none⟩ (.int .i64 n)) {s with steps:=n}:=by
  have b1:=h.b1
  have b2:=h.b2
  have hbk:∀j,j≠bp→(w.setCell ⟨bp,3,none⟩ (.int .i64 n)).heap[j]? =w.heap[j]? :=fun j hj=>sT _ _ _ _ (by show j≠bp;exact hj)
  have hc:∀j,j≠3→(w.setCell ⟨bp,3,none⟩ (.int .i64 n)).cell? ⟨bp,j,none⟩=w.cell? ⟨bp,j,none⟩:=fun j hj=>sJ _ _ _ _ zD
  refine⟨h.core.move (h':=s.hart k) (hbk cp om) (fun g hg=>hbk g (by have:=h.mlt g hg;omega)) (fun g hg _=>hbk g om) zC (h.core.hart.set_other (by show bp≠bh;omega) _) (fun o=>(sL _ _ _ _).trans (h.core.hfz o)),h.b1,h.b2,(hc 0 om).trans h.c0,(hc 1 om).trans h.c1,(hc 2 om).trans h.c2,sK _ _ _ h.c3,fun o=>(sL _ _ _ _).trans (h.frz o),h.harts.set_other (by show bp≠bh;omega) _,h.mlt,qI h.own (fun g hg=>hbk g (by have:=h.own.lt g hg;omega)),h.vlt,h.kl,h.hcap⟩
theorem Wk.go{d:qF}(h:Wk bp bh hc cp k vm vo ty o0 o fr tw w s)(wf:s.Wf)(hd:d.h.Wf)(hc':qX cp bh (k*37) vm ty w' d)(hg:Cgo cp bh (k*37) vm ty w w'):
    Wk bp bh hc cp k vm vo ty o0 d.out d.fr d.tw w' ⟨s.harts.set k d.h,d.m,s.out,s.steps⟩:=by
  have b1:=h.b1
  have b2:=h.b2
  have hl:=h.clt
  have e:=hg.block bp om om (fun e=>by have:=h.mlt _ e;omega) (.inl h.b2)
  have ek:(⟨s.harts.set k d.h,d.m,s.out,s.steps⟩:St).hart k=d.h:=by
    rw[St.hart_at (by show k<(s.harts.set k d.h).length;rw[List.length_set];exact h.kl)]
    show(s.harts.set k d.h)[k]'_=_
    rw[List.getElem_set,if_pos rfl]
  refine⟨by rw[ek];exact hc',h.b1,h.b2,(qA e _).trans h.c0,(qA e _).trans (by rw[h.c1];simp),(qA e _).trans h.c2,(qA e _).trans h.c3,fun o=>(qK e o).trans (h.frz o),
    jn h.harts (fun x hx=>qG (wf.harts x hx)) (qG hd) hc'.hart hg.cell,h.mlt,qI h.own (fun g hg'=> ?_),h.vlt,by show k<(s.harts.set k d.h).length;rw[List.length_set];exact h.kl,by show(s.harts.set k d.h).length≤_∧_;rw[List.length_set];exact h.hcap⟩
  have:=h.own.lt g hg'
  exact hg.block g this.2 om (fun e=>by have:=h.mlt _ e;omega) (.inl (h.vlt g hg'))
theorem Wk.lost{hs:List Hart}(h:Wk bp bh hc cp k vm vo ty o0 o fr tw w s)(wf:∀h∈hs,h.Wf)(hl:hs.length=s.harts.length)(hk:∀h':k<hs.length,hs[k]=s.hart k)(ha:At w' bh 0 (hs.flatMap qJ))(hg:Chg (fun p=>p.block=bh) w w'):
    Wk bp bh hc cp k vm vo ty o0 o fr tw w' {s with harts:=hs}:=by
  have b1:=h.b1
  have b2:=h.b2
  have hlt:=h.clt
  have kl:k<hs.length:=by rw[hl];exact h.kl
  have hbk:∀j,j<w.heap.size→j≠bh→w'.heap[j]? =w.heap[j]? :=fun j hj hn=>hg.block j hj (fun o e=>hn e)
  have e:=hbk bp om om
  have ek:(⟨hs,s.mem,s.out,s.steps⟩:St).hart k=s.hart k:=(St.hart_at kl).trans (hk kl)
  have hat:=jc ha (fun x hx=>qG (wf x hx)) kl
  rw[hk kl]at hat
  refine⟨by
      show qX cp bh (k*37) vm ty w' ⟨(⟨hs,s.mem,s.out,s.steps⟩:St).hart k,s.mem,o,fr,tw⟩
      rw[ek]
      exact h.core.move (h':=s.hart k) (hbk cp hlt om) (fun g hg=>hbk g (by have:=h.mlt g hg;omega) (h.mlt g hg).2) (fun g hg hg2=>hbk g hg2 om) hg.size hat (fun o=>(hg.frozen ⟨bh,o,none⟩ (by show bh<_;omega)).trans (h.core.hfz o)),h.b1,h.b2,(qA e _).trans h.c0,(qA e _).trans (by rw[h.c1,←hl]),(qA e _).trans h.c2,(qA e _).trans h.c3,fun o=>(qK e o).trans (h.frz o),
    ha,h.mlt,qI h.own (fun g hg'=> ?_),h.vlt,kl,by rw[show({s with harts:=hs}:St).harts.length=s.harts.length from hl];exact h.hcap⟩
  have:=h.own.lt g hg'
  exact hbk g this.2 om
theorem Wk.stop{v':Value}{w1:World}(h:Wk bp bh hc cp k vm vo ty o0 o fr tw w s)(hown:w1.ownsRow (bp+1) ty 1 v' (o0.length+o.length) (o0.map (Value.int .u32)++o.map (Value.int .u32)))(hg:w.grownBy w1 vo.ownBlock):
    Bd bp bh hc vm v' ty (w1.setCell ⟨bp,2,none⟩ v') {s with out:=o0++o}:=by
  have b1:=h.b1
  have b2:=h.b2
  have hlt:=h.clt
  have hfar:∀j,j<w.heap.size→j≤bp→w1.heap[j]? =w.heap[j]? :=fun j hj hn=>hg.block j hj (fun e=>by have:=h.own.lt j e.symm;omega)
  have hbk:∀j,j<bp→(w1.setCell ⟨bp,2,none⟩ v').heap[j]? =w.heap[j]? :=fun j hj=>(sT _ _ _ _ (by show j≠bp;omega)).trans (hfar j om om)
  have e:=hfar bp om (sN _)
  have hc:∀j,j≠2→(w1.setCell ⟨bp,2,none⟩ v').cell? ⟨bp,j,none⟩=w.cell? ⟨bp,j,none⟩:=fun j hj=>(sJ _ _ _ _ zD).trans (qA e _)
  have hs:=hg.size
  refine⟨h.b1,(hc 0 om).trans h.c0,(hc 1 om).trans h.c1,sK _ _ _ ((qA e 2).trans h.c2),(hc 3 om).trans h.c3,fun o=>(sL _ _ _ _).trans ((qK e o).trans (h.frz o)),fun j hj=>(qA (hbk bh b1) _).trans (h.harts j hj),by simp;omega,fun o=>(qK (hbk bh b1) o).trans (h.core.hfz o),QX h.core.bytes (fun g hg'=>hbk g (h.mlt g hg').1),fun b off n c e=> ?_,h.mlt, ?_,h.hcap⟩
  · have hb:=(h.mlt b xB).1
    exact⟨by simp;omega,fun o=>(qK (hbk b hb) o).trans ((h.core.mfz b off n c e).2.2.2 o)⟩
  · have:=ownsRow_setCell_below hown (a:=⟨bp,2,none⟩) (Nat.lt_succ_self bp) v'
    simpa using this
end
structure RdAt (rp:Nat) (w:World) (s:Rd):Prop where
  v:∃v,w.cell? ⟨rp,0,none⟩=some v∧Ints .u8 w v s.1∧(s.1≠[]→∀k,v.ownBlock=some k→k<rp)
  bad:w.cell? ⟨rp,1,none⟩=some (.bool s.2)
  frz:∀o,w.frozen? ⟨rp,o,none⟩=false
  lt:rp<w.heap.size
theorem RdAt.below{rp:Nat}{w w':World}{s:Rd}(h:RdAt rp w s)(hb:Below w.heap.size w w'):RdAt rp w' s:=by
  obtain⟨v,h1,h2,h3⟩:=h.v
  have e:=hb.block rp h.lt
  exact⟨⟨v,(qA e _).trans h1,h2.below hb,h3⟩,(qA e _).trans h.bad,fun o=>(qK e o).trans (h.frz o),Nat.lt_of_lt_of_le h.lt hb.size⟩
theorem ints_set{k:IntKind}{w:World}{v:Value}{l:List Int}{rp:Nat}(h:Ints k w v l)(hn:l≠[]→∀k,v.ownBlock=some k→k<rp){p:Addr}(hp:rp≤p.block)(u:Value):Ints k (w.setCell p u) v l:=by
  by_cases hl:l=[]
  · subst hl
    obtain⟨h1,ao,cap,h2,h3,h4,h5,h6⟩:=h
    exact⟨h1,ao,cap,h2,h3,h4,h5,fun a _ hx=>absurd rfl hx⟩
  · exact Sl.set_other h (fun b off n c e=>by have:=hn hl b xB;omega) u
theorem Ints.cut{k:IntKind}{w:World}{ao:Option Addr}{cap:Nat}{l:List Int}(h:Ints k w (.slice ao l.length cap) l)(n:Nat)(hn:n≤l.length):Ints k w (.slice ao n cap) (l.take n):=by
  obtain⟨h1,ao',cap',h2,h3,h4,h5,h6⟩:=h
  cases h2
  refine⟨by simp,ao,cap,by rw[List.length_take,Nat.min_eq_left hn],by rw[List.length_take];omega,h4,h5,fun a ha hx=> ?_⟩
  have hne:l.map (Value.int k)≠[]:=by intro e;rw[List.map_eq_nil_iff]at e;subst e;simp at hx
  obtain⟨h7,h8⟩:=h6 a ha hne
  refine⟨h7,fun j hj=> ?_⟩
  rw[sX,List.length_take]at hj
  rw[h8 j yR]
  simp
theorem Ints.rest{k:IntKind}{w:World}{b off cap:Nat}{l:List Int}(h:Ints k w (.slice (some ⟨b,off,none⟩) l.length cap) l)(n:Nat)(hn:n≤l.length):Ints k w (.slice (some ⟨b,off+n,none⟩) (l.length-n) (cap-n)) (l.drop n):=by
  obtain⟨h1,ao',cap',h2,h3,h4,h5,h6⟩:=h
  cases h2
  refine⟨by simp,_,cap-n,by rw[List.length_drop],by rw[List.length_drop];omega,by unfold maxLen at *;omega,xH,fun a ha hx=> ?_⟩
  cases ha
  have hne:l.map (Value.int k)≠[]:=by intro e;rw[List.map_eq_nil_iff]at e;subst e;simp at hx
  obtain⟨h7,h8⟩:=h6 _ rfl hne
  refine⟨rfl,fun j hj=> ?_⟩
  rw[sX,List.length_drop]at hj
  have:=h8 (n+j) yR
  rw[show off+n+j=off+(n+j) by omega]
  rw[this]
  simp
theorem Ints.empty{k:IntKind}{w:World}(ao:Option Addr)(cap:Nat)(h1:cap≤maxLen)(h2:ao=none→cap=0):Ints k w (.slice ao 0 cap) []:=
  ⟨rfl,ao,cap,rfl,Nat.zero_le _,h1,h2,fun a _ hx=>absurd rfl hx⟩
structure DidD where
  h:Hart
  vm:Value
  vo:Value
  fr:Int
  many:Int
def dtail(d:DidD):List Value:=[d.vm,d.vo,.int .u32 d.fr,.int .i64 d.many]
def uM(d:DidD):List Value:=qJ d.h++dtail d
def Jc(d:DidD):Array Value:=(uM d).toArray
def DidD.set(d:DidD)(r x:Int):DidD:={d with h:=d.h.setReg r x}
def DidD.trap(d:DidD)(c:Int):DidD:={d with h:=d.h.trap c}
structure DidD.Ok (d:DidD):Prop where
  len:d.h.regs.length=32
  m1:d.vm.oneCell'=true
  o1:d.vo.oneCell'=true
theorem jZ{h:Hart}(wf:h.regs.length=32):(qJ h).length=37:=by simp[qJ,wf]
theorem dlist_len{d:DidD}(h:d.Ok):(uM d).length=41:=by
  rw[uM,sW,jZ h.len];rfl
theorem box_did(d:DidD)(w:World)(t:TypeId):At (w.alloc (.cells (Jc d) t)) w.heap.size 0 (uM d):=QN w (uM d) t (0,0)
theorem UN{P:Program}{fn:Func}{a:Tmp}{t:TypeId}(h:fn.results=#[.cell a t])(tmps:Array Value){p:Addr}{w:World}{v:Value}(hp:tmps.getD a undef=.pointer (some p))(hl:(loadVar t p).run P w=.ok v w):
    (results fn tmps).run P w=.ok v w:=by
  have hp':tmps[a]?.getD undef=.pointer (some p):=by rw[←hp];simp
  simp[results,h,hp',hl,Sem.run_bind,asAddr]
theorem QI{P:Program}{fn:Func}{a x:Tmp}{t:TypeId}(h:fn.results=#[.cell a t,.tmp x])(tmps:Array Value){p:Addr}{w:World}{v:Value}(hp:tmps.getD a undef=.pointer (some p))(hl:(loadVar t p).run P w=.ok v w):
    (results fn tmps).run P w=.ok (.tuple #[v,tmps.getD x undef]) w:=by
  have hp':tmps[a]?.getD undef=.pointer (some p):=by rw[←hp];simp
  simp[results,h,hp',hl,Sem.run_bind,asAddr]
structure DBox (B R:Nat) (tD:TypeId) (w:World) (d:DidD):Prop where
  at_:At w B 0 (uM d)
  frz:∀o,w.frozen? ⟨B,o,none⟩=false
  there:w.there R 0 41
theorem DBox.begin{w:World}{tD:TypeId}{d:DidD}{z:Array Value}(hz:z.size=41):DBox w.heap.size (w.heap.size+1) tD ((w.alloc (.cells (Jc d) tD)).alloc (.cells z tD)) d:=by
  have hB:Below (w.heap.size+1) (w.alloc (.cells (Jc d) tD)) ((w.alloc (.cells (Jc d) tD)).alloc (.cells z tD)):=Below.alloc br zC _
  refine⟨(box_did d w tD).below (by have:=hB;simpa using this),fun o=> ?_,fun j hj=> ?_⟩
  · rw[hB.frozen (p:=⟨w.heap.size,o,none⟩) zN]
    unfold World.frozen?;rw[sP];simp
  · have hn:((w.alloc (.cells (Jc d) tD)).alloc (.cells z tD)).heap[w.heap.size+1]? =some (.cells z tD (0,0)):=by
      have:=sP (w.alloc (.cells (Jc d) tD)) (.cells z tD)
      simpa using this
    have hj2:0+j<z.size:=om
    exact⟨by unfold World.cell?;rw[hn];simp;omega,by unfold World.frozen?;rw[hn];simp⟩
theorem DBox.below{B R:Nat}{tD:TypeId}{w w':World}{d:DidD}(h:DBox B R tD w d)(hB0:B<w.heap.size)(hB:R<w.heap.size)(hb:Below w.heap.size w w'):DBox B R tD w' d:=
  ⟨h.at_.below hb,fun o=>(hb.frozen (p:=⟨B,o,none⟩) hB0).trans (h.frz o),fun j hj=>⟨by rw[hb.cell (p:=⟨R,0+j,none⟩) hB];exact(h.there j hj).1,by rw[hb.frozen (p:=⟨R,0+j,none⟩) hB];exact(h.there j hj).2⟩⟩
theorem Qa{w:World}{b o n:Nat}(h:w.there b o n)(p:Addr)(hp:p.spot=none)(v:Value):(w.setCell p v).there b o n:=by
  obtain⟨b',o',s⟩:=p
  simp only at hp
  subst hp
  have:=World.there_setCells h b' o' [v]
  simpa[World.setCells]using this
theorem DBox.set{B R:Nat}{tD:TypeId}{w:World}{d d':DidD}(h:DBox B R tD w d)(j:Nat)(v:Value)(hj:j<(uM d).length)(hl:uM d'=(uM d).set j v):DBox B R tD (w.setCell ⟨B,j,none⟩ v) d':=
  ⟨by rw[hl];have:=h.at_.set j hj v;simpa using this,fun o=>(sL _ _ _ _).trans (h.frz o),Qa h.there _ rfl _⟩
theorem DBox.get{B R:Nat}{tD:TypeId}{w:World}{d:DidD}(h:DBox B R tD w d){j:Nat}{v:Value}(hj:(uM d)[j]? =some v):w.cell? ⟨B,j,none⟩=some v:=by
  have:=h.at_.get hj
  simpa using this
theorem DBox.drewN{B R:Nat}{tD:TypeId}{w:World}{d:DidD}(h:DBox B R tD w d)(n:Nat):DBox B R tD (w.drewN n) d:=⟨h.at_,h.frz,h.there⟩
theorem DidD.Ok.setReg{d:DidD}(h:d.Ok)(r x:Int):(d.set r x).Ok:=⟨by unfold DidD.set Hart.setReg;split<;>simp[h.len],h.m1,h.o1⟩
theorem DBox.put{B R:Nat}{tD:TypeId}{w:World}{d d':DidD}(h:DBox B R tD w d)(hd:d.Ok)(hd':d'.Ok):DBox B R tD (w.setCells B 0 (Jc d').toList) d':=by
  have ht:w.there B 0 (Jc d').toList.length:=by
    have:(Jc d').toList.length=41:=by simp[Jc,dlist_len hd']
    rw[this]
    exact there_at h.at_ (dlist_len hd) h.frz
  refine⟨?_,fun o=>by rw[World.frozen?_setCells];exact h.frz o,World.there_setCells h.there _ _ _⟩
  have hr:=World.rangeAt_setCells_same w B 0 (Jc d').toList ht
  intro j hj
  have:=hr j (uM d')[j] (by simp[Jc,hj])
  exact this
theorem DBox.other{B R:Nat}{tD:TypeId}{w:World}{d:DidD}(h:DBox B R tD w d){p:Addr}(hp:p.block≠B)(hs:p.spot=none)(v:Value):DBox B R tD (w.setCell p v) d:=
  ⟨h.at_.set_other hp v,fun o=>(sL _ _ _ _).trans (h.frz o),Qa h.there _ hs _⟩
structure jM (w:World) (d:DidD) (c:qF):Prop where
  h:d.h=c.h
  m:Ints .u8 w d.vm c.m
  o:Ints .u32 w d.vo c.out
  fr:d.fr=c.fr
  many:d.many=c.tw-c.fr
theorem jM.below{w w':World}{d:DidD}{c:qF}(h:jM w d c)(hb:Below w.heap.size w w'):jM w' d c:=⟨h.h,h.m.below hb,h.o.below hb,h.fr,h.many⟩
theorem Ints.one{k:IntKind}{w:World}{v:Value}{l:List Int}(h:Ints k w v l):v.oneCell'=true:=by
  obtain⟨ao,cap,rfl,_⟩:=h.open
  rfl
theorem jM.ok{w:World}{d:DidD}{c:qF}(h:jM w d c)(wf:c.Wf):d.Ok:=⟨by rw[h.h];exact wf.h.len,h.m.one,h.o.one⟩
theorem jM.set{w:World}{d:DidD}{c:qF}(h:jM w d c)(r x:Int):jM w (d.set r x) (c.set r x):=⟨by show d.h.setReg r x=c.h.setReg r x;rw[h.h],h.m,h.o,h.fr,h.many⟩
theorem jM.trap{w:World}{d:DidD}{c:qF}(h:jM w d c)(x:Int):jM w (d.trap x) (c.trap x):=⟨by show d.h.trap x=c.h.trap x;rw[h.h],h.m,h.o,h.fr,h.many⟩
theorem jM.setPc{w:World}{d:DidD}{c:qF}(h:jM w d c)(x:Int):jM w {d with h:={d.h with pc:=x}} (c.setPc x):=⟨by show({d.h with pc:=x}:Hart)={c.h with pc:=x};rw[h.h],h.m,h.o,h.fr,h.many⟩
theorem jM.hold{w:World}{d:DidD}{c:qF}(h:jM w d c)(b:Bool)(x:Int):jM w {d with h:={d.h with held:=b,heldAt:=x}} (c.hold b x):=⟨by show({d.h with held:=b,heldAt:=x}:Hart)={c.h with held:=b,heldAt:=x};rw[h.h],h.m,h.o,h.fr,h.many⟩
theorem jM.put{w:World}{d:DidD}{c:qF}{v:Value}{op at_ x:Int}(h:jM w d c)(hq:qU c.m op at_=true)(ha:U32 at_)(hl:c.m.length≤4096)(hv:Ints .u8 w v (Qg c.m op at_ x)):
    jM w {d with vm:=v,fr:=at_,many:=qO op} (c.put op at_ x):=by
  have hs:0<qO op∧at_+qO op≤c.m.length:=by simp[qU,there]at hq;omega
  have ha1:=ha.1
  have e:c.put op at_ x={c with m:=Qg c.m op at_ x,fr:=at_,tw:=(at_+qO op)%4294967296}:=by unfold qF.put;rw[if_pos hq]
  rw[e]
  refine⟨h.h,hv,h.o,rfl, ?_⟩
  show qO op=(at_+qO op)%4294967296-at_
  omega
theorem jM.setCells{w:World}{d:DidD}{c:qF}(h:jM w d c){R:Nat}(h1:∀b off n c,d.vm=.slice (some ⟨b,off,none⟩) n c→R≠b)(h2:∀b off n c,d.vo=.slice (some ⟨b,off,none⟩) n c→R≠b)(o:Nat)(vs:List Value):jM (w.setCells R o vs) d c:=
  ⟨h.h,jN h1 _ _ _ h.m,jN h2 _ _ _ h.o,h.fr,h.many⟩
theorem store_load(l:List Int)(a:Int):qU l 18 a=qY l 13 a:=rfl
theorem QK(b:Nat):∀(vs:List Value) (o:Nat) (w:World),(w.setCells b o vs).heap.size=w.heap.size
  |[],_,_=>rfl
  |v::r,o,w=>by rw[World.setCells,QK b r];simp
structure HB (B R:Nat) (w:World) (h:Hart):Prop where
  at_:At w B 0 (qJ h)
  frz:∀o,w.frozen? ⟨B,o,none⟩=false
  there:w.there R 0 37
  len:h.regs.length=32
theorem HB.lt{B R:Nat}{w:World}{h:Hart}(k:HB B R w h):B<w.heap.size:=by
  have:=k.at_ 0 (by rw[jZ k.len];omega)
  exact qD this
theorem HB.rlt{B R:Nat}{w:World}{h:Hart}(k:HB B R w h):R<w.heap.size:=by
  have:=(k.there 0 om).1
  cases e:w.cell? ⟨R,0+0,none⟩with
  |none=>rw[e]at this;cases this
  |some v=>exact qD e
theorem HB.set{B R:Nat}{w:World}{h h':Hart}(k:HB B R w h)(j:Nat)(v:Value)(hj:j<37)(hl:qJ h'=(qJ h).set j v)(hl2:h'.regs.length=32):HB B R (w.setCell ⟨B,j,none⟩ v) h':=
  ⟨by rw[hl];have:=k.at_.set j (by rw[jZ k.len];exact hj) v;simpa using this,fun o=>(sL _ _ _ _).trans (k.frz o),Qa k.there _ rfl _,hl2⟩
theorem HB.get{B R:Nat}{w:World}{h:Hart}(k:HB B R w h){j:Nat}{v:Value}(hj:(qJ h)[j]? =some v):w.cell? ⟨B,j,none⟩=some v:=by
  have:=k.at_.get hj
  simpa using this
theorem there_block{w w':World}{R n:Nat}(h:w.there R 0 n)(e:w'.heap[R]? =w.heap[R]?):w'.there R 0 n:=fun j hj=>⟨by rw[qA e];exact(h j hj).1,by rw[qK e];exact(h j hj).2⟩
theorem HB.move{B R:Nat}{w w':World}{h:Hart}(k:HB B R w h)(e1:w'.heap[B]? =w.heap[B]?)(e2:w'.heap[R]? =w.heap[R]?):HB B R w' h:=
  ⟨fun j hj=>(qA e1 _).trans (k.at_ j hj),fun o=>(qK e1 o).trans (k.frz o),there_block k.there e2,k.len⟩
theorem HB.begin(w:World)(t:TypeId):HB (w.heap.size+1) w.heap.size ((w.alloc (.cells (qQ qz) t)).alloc (.cells (qQ qz) t)) qz:=by
  have hb:Below (w.heap.size+1) (w.alloc (.cells (qQ qz) t)) ((w.alloc (.cells (qQ qz) t)).alloc (.cells (qQ qz) t)):=Below.alloc br zC _
  have hz:(qQ qz).size=37:=rfl
  refine⟨?_,fun o=> ?_,fun j hj=> ?_,rfl⟩
  · have:=QN (w.alloc (.cells (qQ qz) t)) (qJ qz) t (0,0)
    rw[World.size_alloc]at this
    exact this
  · have:=sP (w.alloc (.cells (qQ qz) t)) (.cells (qQ qz) t)
    have h2:(w.alloc (.cells (qQ qz) t)).heap.size=w.heap.size+1:=zC
    rw[h2]at this
    unfold World.frozen?
    rw[this];simp
  · have e:=hb.block w.heap.size om
    rw[sP]at e
    have hj2:0+j<(qQ qz).size:=om
    exact⟨by unfold World.cell?;rw[e];simp;omega,by unfold World.frozen?;rw[e];simp⟩
theorem RdAt.other{rp:Nat}{w:World}{s:Rd}(h:RdAt rp w s){p:Addr}(hp:rp<p.block)(u:Value):RdAt rp (w.setCell p u) s:=by
  obtain⟨v,h1,h2,h3⟩:=h.v
  have hne:∀o,(w.setCell p u).cell? ⟨rp,o,none⟩=w.cell? ⟨rp,o,none⟩:=fun o=>sJ _ _ _ _ (by intro e;rw[e]at hp;exact absurd hp (Nat.lt_irrefl _))
  exact⟨⟨v,(hne _).trans h1,ints_set h2 h3 (Nat.le_of_lt hp) u,h3⟩,(hne _).trans h.bad,fun o=>(sL _ _ _ _).trans (h.frz o),by simpa using h.lt⟩
theorem qe{B B':Nat}{e:TypeId}{k:Nat}{v:Value}{n:Nat}{xs:List Value}{w:World}(h:w.ownsRow B e k v n xs)(hb:B'≤B):w.ownsRow B' e k v n xs:=by
  obtain⟨h1,h2⟩:=h
  refine⟨h1, ?_⟩
  rcases h2 with⟨rfl,rfl⟩|⟨g,cap,cur,rfl,hB,hh,h3⟩
  · exact .inl ⟨rfl,rfl⟩
  · exact .inr ⟨g,cap,cur,rfl,Nat.le_trans hb hB,hh,h3⟩
theorem QP{B B':Nat}{e e':TypeId}{k k':Nat}{v v':Value}{n n':Nat}{xs xs':List Value}{w:World}(h:w.ownsRow B e k v n xs)(h':w.ownsRow B' e' k' v' n' xs')(hne:e≠e'):∀g,v.ownBlock=some g→v'.ownBlock≠some g:=by
  intro g h1 h2
  rcases h.2 with⟨rfl,_⟩|⟨g1,_,c1,rfl,_,e1,_⟩
  · cases h1
  rcases h'.2 with⟨rfl,_⟩|⟨g2,_,c2,rfl,_,e2,_⟩
  · cases h2
  cases h1;cases h2
  rw[e1]at e2
  cases e2
  exact hne rfl
structure MB (mp:Nat) (t8 tH:TypeId) (vm vh:Value) (w:World) (mem:List Int) (hs:List Hart):Prop where
  c0:w.cell? ⟨mp,0,none⟩=some vm
  c1:w.cell? ⟨mp,1,none⟩=some vh
  frz:∀o,w.frozen? ⟨mp,o,none⟩=false
  own0:w.ownsRow (mp+1) t8 1 vm mem.length (mem.map (Value.int .u8))
  own1:w.ownsRow (mp+1) tH 37 vh hs.length (hs.flatMap qJ)
section
variable {mp : Nat} {t8 tH : TypeId} {vm vh : Value} {w w' : World} {mem : List Int} {hs : List Hart}
theorem MB.lt(h:MB mp t8 tH vm vh w mem hs):mp<w.heap.size:=qD h.c0
theorem MB.move(h:MB mp t8 tH vm vh w mem hs)(hb:∀g,mp≤g→g<w.heap.size→w'.heap[g]? =w.heap[g]?):MB mp t8 tH vm vh w' mem hs:=by
  have e:=hb mp (sN _) h.lt
  exact⟨(qA e _).trans h.c0,(qA e _).trans h.c1,fun o=>(qK e o).trans (h.frz o),qI h.own0 (fun g hg=>by have:=h.own0.lt g hg;exact hb g om this.2),qI h.own1 (fun g hg=>by have:=h.own1.lt g hg;exact hb g om this.2)⟩
theorem MB.at(h:MB mp t8 tH vm vh w mem hs):jw w vm vh ⟨mem,hs⟩:=⟨ql h.own0,ql h.own1⟩
theorem MB.next{v':Value}{x:Hart}(h:MB mp t8 tH vm vh w mem hs)(hne:t8≠tH)(hown:w'.ownsRow (mp+1) tH 37 v' (hs.length+1) (hs.flatMap qJ++qJ x))(hg:w.grownBy w' vh.ownBlock):MB mp t8 tH vm v' (w'.setCell ⟨mp,1,none⟩ v') mem (hs++[x]):=by
  have hfar:∀j,j<w.heap.size→vh.ownBlock≠some j→w'.heap[j]? =w.heap[j]? :=fun j hj hn=>hg.block j hj (fun e=>hn e.symm)
  have e:=hfar mp h.lt (fun e=>by have:=h.own1.lt _ e;omega)
  refine⟨(sJ _ _ _ _ zD).trans ((qA e _).trans h.c0),sK _ _ _ ((qA e _).trans h.c1),fun o=>(sL _ _ _ _).trans ((qK e o).trans (h.frz o)), ?_, ?_⟩
  · refine qI h.own0 (fun g hg'=> ?_)
    have h1:=h.own0.lt g hg'
    exact(sT _ _ _ _ (by show g≠mp;omega)).trans (hfar g h1.2 (QP h.own0 h.own1 hne g hg'))
  · have:=ownsRow_setCell_below hown (a:=⟨mp,1,none⟩) (Nat.lt_succ_self mp) v'
    simpa using this
end
theorem RdAt.far{rp B:Nat}{w w':World}{s:Rd}(h:RdAt rp w s)(hb:Below B w w')(hlt:rp<B):RdAt rp w' s:=by
  obtain⟨v,h1,h2,h3⟩:=h.v
  have e:=hb.block rp hlt
  refine⟨⟨v,(qA e _).trans h1, ?_,h3⟩,(qA e _).trans h.bad,fun o=>(qK e o).trans (h.frz o),Nat.lt_of_lt_of_le h.lt hb.size⟩
  obtain⟨k1,ao,cap,k2,k3,k4,k5,k6⟩:=h2
  refine⟨k1,ao,cap,k2,k3,k4,k5,fun a ha hx=>⟨(k6 a ha hx).1,fun j hj=> ?_⟩⟩
  have hne:s.1≠[]:=fun e=>hx xB
  have hbl:=h3 hne a.block (by rw[k2,ha];rfl)
  exact(qA (hb.block a.block om) _).trans ((k6 a ha hx).2 j hj)
def Rng(d:qF):Prop:=(d.fr=0∧d.tw=0)∨(0≤d.fr∧d.fr<d.tw∧d.tw≤d.m.length)
theorem Rng.put{d:qF}(h:Rng d)(hl:d.m.length≤4096)(op a x:Int)(ha:0≤a):Rng (d.put op a x):=by
  unfold qF.put
  split
  · rename_i hq
    have hs:0<qO op∧a+qO op≤d.m.length:=by simp[qU,there]at hq;omega
    refine .inr ⟨ha, ?_, ?_⟩
    · show a<(a+qO op)%4294967296
      omega
    · show(a+qO op)%4294967296≤((Qg d.m op a x).length:Int)
      rw[Qk]
      omega
  · exact h
theorem ite_rng{P:qF→Prop}{c:Prop}[Decidable c]{a b:qF}(h1:c→P a)(h2:¬c→P b):P (if c then a else b):=by split;exact h1 ‹_›;exact h2 ‹_›
theorem atomS_rng{d:qF}(h:Rng d)(hl:d.m.length≤4096)(op a b:Int)(ha:0≤a):Rng (qb d op a b).1:=by
  unfold qb
  split
  · split
    · exact h
    · split
      · split
        · exact h.put hl 18 a b ha
        · exact h
      · exact h.put hl 18 a _ ha
  · exact h
theorem callS_rng{d:qF}(h:Rng d):Rng (qx d).1:=by
  unfold qx
  split
  · exact h
  · split
    · exact h
    · exact h
theorem doS_rng{d:qF}(h:Rng d)(hl:d.m.length≤4096)(hr:∀k,0≤d.h.reg k)(i:InsD):Rng (doS i d):=by
  unfold doS
  dsimp only
  repeat' (with_reducible refine ite_rng (P:=Rng) (fun _=> ?_) (fun _=> ?_))
  all_goals first
    |exact h
    |exact h.put hl _ _ _ (Int.emod_nonneg _ zF)
    |exact atomS_rng h hl i.op (d.h.reg i.rs1) (d.h.reg i.rs2) (hr _)
    |exact callS_rng h
theorem goS_rng(h:Hart)(wf:h.Wf)(l:List Int)(hl:l.length≤4096):Rng (goS ⟨h,l,[],0,0⟩):=by
  have h0:Rng (qF.none ⟨h,l,[],0,0⟩):=.inl ⟨rfl,rfl⟩
  unfold goS
  split
  · exact doS_rng h0 hl (fun k=>(reg_u wf k).1) _
  · exact h0
structure PB (bp bh hc:Nat) (vm vo:Value) (ty:TypeId) (w:World) (s:St):Prop where
  b1:bp<bh
  c0:w.cell? ⟨bp,0,none⟩=some vm
  c1:w.cell? ⟨bp,1,none⟩=some (.slice (some ⟨bh,0,none⟩) s.harts.length hc)
  c2:w.cell? ⟨bp,2,none⟩=some vo
  c3:w.cell? ⟨bp,3,none⟩=some (.int .i64 s.steps)
  frz:∀o,w.frozen? ⟨bp,o,none⟩=false
  harts:At w bh 0 (s.harts.flatMap qJ)
  hlt:bh<w.heap.size
  hfz:∀o,w.frozen? ⟨bh,o,none⟩=false
  bytes:Ints .u8 w vm s.mem
  mlt:s.mem≠[]→∀k,vm.ownBlock=some k→bp<k∧k≠bh∧vo.ownBlock≠some k
  own:w.ownsRow (bh+1) ty 1 vo s.out.length (s.out.map (Value.int .u32))
  hcap:s.harts.length≤hc∧hc≤maxLen
theorem ints_lt{k:IntKind}{w:World}{v:Value}{l:List Int}(h:Ints k w v l)(hl:l≠[]){g:Nat}(e:v.ownBlock=some g):g<w.heap.size:=by
  obtain⟨ao,cap,rfl,_,_,_,ho⟩:=h.open
  obtain⟨b,off,rfl,_,hx⟩:=ho hl
  cases e
  exact qD (hx 0 (List.length_pos_iff.2 hl))
theorem jI{k:IntKind}{w w':World}{v:Value}{l:List Int}(h:Ints k w v l)(hb:l≠[]→∀g,v.ownBlock=some g→w'.heap[g]? =w.heap[g]?):Ints k w' v l:=by
  by_cases hl:l=[]
  · subst hl
    obtain⟨h1,ao,cap,h2,h3,h4,h5,h6⟩:=h
    exact⟨h1,ao,cap,h2,h3,h4,h5,fun a ha hx=>absurd rfl hx⟩
  · exact QX h (hb hl)
section
variable {bp bh hc k : Nat} {vm vo : Value} {ty : TypeId} {w w' : World} {s : St}
theorem PB.lt(h:PB bp bh hc vm vo ty w s):bp<w.heap.size:=qD h.c0
theorem PB.below(h:PB bp bh hc vm vo ty w s)(hb:Below w.heap.size w w'):PB bp bh hc vm vo ty w' s:=by
  have e:=hb.block bp h.lt
  have eh:=hb.block bh h.hlt
  exact⟨h.b1,(qA e _).trans h.c0,(qA e _).trans h.c1,(qA e _).trans h.c2,(qA e _).trans h.c3,fun o=>(qK e o).trans (h.frz o),h.harts.below hb,Nat.lt_of_lt_of_le h.hlt hb.size,fun o=>(qK eh o).trans (h.hfz o),h.bytes.below hb,h.mlt,qP h.own hb,h.hcap⟩
theorem PB.tick(h:PB bp bh hc vm vo ty w s)(n:Nat):PB bp bh hc vm vo ty (w.setCell ⟨bp,3,none⟩ (.int .i64 n)) {s with steps:=n}:=by
  have b1:=h.b1
  have hbk:∀j,j≠bp→(w.setCell ⟨bp,3,none⟩ (.int .i64 n)).heap[j]? =w.heap[j]? :=fun j hj=>sT _ _ _ _ (by show j≠bp;exact hj)
  have hc:∀j,j≠3→(w.setCell ⟨bp,3,none⟩ (.int .i64 n)).cell? ⟨bp,j,none⟩=w.cell? ⟨bp,j,none⟩:=fun j hj=>sJ _ _ _ _ zD
  exact⟨h.b1,(hc 0 om).trans h.c0,(hc 1 om).trans h.c1,(hc 2 om).trans h.c2,sK _ _ _ h.c3,fun o=>(sL _ _ _ _).trans (h.frz o),h.harts.set_other (by show bp≠bh;omega) _,by have:=h.hlt;simpa using this,fun o=>(sL _ _ _ _).trans (h.hfz o),jI h.bytes (fun hm g hg=>hbk g (by have:=h.mlt hm g hg;omega)),h.mlt,qI h.own (fun g hg=>hbk g (by have:=h.own.lt g hg;omega)),h.hcap⟩
theorem PB.did{d:DidD}{c:qF}(h:PB bp bh hc vm vo ty w s)(wf:s.Wf)(wd:c.h.Wf)(hl:c.m.length=s.mem.length)(kl:k<s.harts.length)(hd:jM w d c){S:Nat}(hS:bh<S)(hS2:∀g,vo.ownBlock=some g→g<S)
    (hm:d.vm=vm∨∀q,d.vm.ownBlock=some q→S≤q) (ho:∀q,d.vo.ownBlock=some q→S≤q):
    PB bp bh hc d.vm vo ty ((w.setCells bh (k*37) (qJ d.h)).setCell ⟨bp,0,none⟩ d.vm) ⟨s.harts.set k c.h,c.m,s.out,s.steps⟩∧
      Ints .u32 ((w.setCells bh (k*37) (qJ d.h)).setCell ⟨bp,0,none⟩ d.vm) d.vo c.out∧Below bp w ((w.setCells bh (k*37) (qJ d.h)).setCell ⟨bp,0,none⟩ d.vm)∧
      (∀g,g≠bp→g≠bh→((w.setCells bh (k*37) (qJ d.h)).setCell ⟨bp,0,none⟩ d.vm).heap[g]? =w.heap[g]?)∧(w.setCells bh (k*37) (qJ d.h)).there bh (k*37) 37:=by
  have b1:=h.b1
  have hbk1:∀j,j≠bh→(w.setCells bh (k*37) (qJ d.h)).heap[j]? =w.heap[j]? :=fun j hj=>(by
    have:∀(vs:List Value) (o:Nat) (w:World),(w.setCells bh o vs).heap[j]? =w.heap[j]? :=fun vs=>by
      induction vs with
      |nil=>intro _ _;rfl
      |cons v r ih=>intro o w;rw[World.setCells,ih];exact sT _ _ _ _ (by show j≠bh;exact hj)
    exact this _ _ _)
  have hbk2:∀j,j≠bp→((w.setCells bh (k*37) (qJ d.h)).setCell ⟨bp,0,none⟩ d.vm).heap[j]? =(w.setCells bh (k*37) (qJ d.h)).heap[j]? :=fun j hj=>sT _ _ _ _ (by show j≠bp;exact hj)
  have hc0:∀j,j≠0→((w.setCells bh (k*37) (qJ d.h)).setCell ⟨bp,0,none⟩ d.vm).cell? ⟨bp,j,none⟩=w.cell? ⟨bp,j,none⟩:=fun j hj=>(sJ _ _ _ _ zD).trans (qA (hbk1 bp om) j)
  have hz:((w.setCells bh (k*37) (qJ d.h)).setCell ⟨bp,0,none⟩ d.vm).heap.size=w.heap.size:=by simp[QK]
  have hof:∀b o,(w.setCells bh (k*37) (qJ d.h)).frozen? ⟨b,o,none⟩=w.frozen? ⟨b,o,none⟩:=fun b o=>by rw[World.frozen?_setCells]
  have hll:=qG wd
  have hth:w.there bh (k*37) 37:=by
    have hl37:=qG (wf.harts _ (sR kl))
    exact there_at (jc h.harts (fun x hx=>qG (wf.harts x hx)) kl) hl37 h.hfz
  have hdl:(qJ d.h).length=37:=by rw[hd.h];exact hll
  have hsame:At (w.setCells bh (k*37) (qJ d.h)) bh (k*37) (qJ c.h):=by
    intro j hj
    have hr:=World.rangeAt_setCells_same w bh (k*37) (qJ d.h) (by rw[hdl];exact hth)
    rw[←hd.h]at hj
    have:=hr j (qJ d.h)[j] (by simp[hj])
    simp only[hd.h]at this ⊢
    exact this
  have hmb:c.m≠[]→∀g,d.vm.ownBlock=some g→bp<g∧g≠bh∧vo.ownBlock≠some g:=fun hne g hg=>by
    have hne':s.mem≠[]:=fun e=>hne (List.eq_nil_of_length_eq_zero (by rw[hl,e];rfl))
    rcases hm with e|e
    · rw[e]at hg;exact h.mlt hne' g hg
    · have:=e g hg
      exact⟨om,om,fun e2=>by have:=hS2 g e2;omega⟩
  refine⟨⟨h.b1,sK _ _ _ ((qA (hbk1 bp om) 0).trans h.c0),(hc0 1 om).trans (by rw[h.c1];simp),(hc0 2 om).trans h.c2,(hc0 3 om).trans h.c3,fun o=>(sL _ _ _ _).trans ((hof bp o).trans (h.frz o)), ?_,by rw[hz];exact h.hlt,fun o=>(sL _ _ _ _).trans ((hof bh o).trans (h.hfz o)), ?_,hmb, ?_,by show(s.harts.set k c.h).length≤_∧_;rw[List.length_set];exact h.hcap⟩, ?_, ?_,fun g h1 h2=>(hbk2 g h1).trans (hbk1 g h2),World.there_setCells hth _ _ _⟩
  · refine At.set_other ?_ (by show bp≠bh;omega) _
    refine jn h.harts (fun x hx=>qG (wf.harts x hx)) hll hsame (fun o ho=> ?_)
    exact World.cell?_setCells_out _ _ _ _ _ (fun _ hs=>by rw[hdl];exact ho)
  · exact jI hd.m (fun hne g hg=>by have:=hmb hne g hg;exact(hbk2 g om).trans (hbk1 g this.2.1))
  · exact qI h.own (fun g hg=>by have:=h.own.lt g hg;exact(hbk2 g om).trans (hbk1 g om))
  · exact jI hd.o (fun _ g hg=>by have:=ho g hg;exact(hbk2 g om).trans (hbk1 g om))
  · exact(qL (B:=bp) om _ _ _ (Below.refl bp w)).setCell (p:=⟨bp,0,none⟩) (sN bp) _
theorem PB.out{v':Value}{o:List Int}(h:PB bp bh hc vm vo ty w s)(hown:w'.ownsRow (bh+1) ty 1 v' (s.out.length+o.length) (s.out.map (Value.int .u32)++o.map (Value.int .u32)))(hg:w.grownBy w' vo.ownBlock)(hf:∀k,v'.ownBlock=some k→vo.ownBlock=some k∨w.heap.size≤k):
    PB bp bh hc vm v' ty (w'.setCell ⟨bp,2,none⟩ v') {s with out:=s.out++o}∧Below bp w (w'.setCell ⟨bp,2,none⟩ v')∧(∀g,g<w.heap.size→g≠bp→vo.ownBlock≠some g→(w'.setCell ⟨bp,2,none⟩ v').heap[g]? =w.heap[g]?):=by
  have b1:=h.b1
  have hlt:=h.lt
  have hh:=h.hlt
  have hsz:=hg.size
  have hfar:∀j,j<w.heap.size→vo.ownBlock≠some j→w'.heap[j]? =w.heap[j]? :=fun j hj hn=>hg.block j hj (fun e=>hn e.symm)
  have hbk:∀j,j≠bp→(w'.setCell ⟨bp,2,none⟩ v').heap[j]? =w'.heap[j]? :=fun j hj=>sT _ _ _ _ (by show j≠bp;exact hj)
  have hno:∀j,j≤bh→vo.ownBlock≠some j:=fun j hj e=>by have:=h.own.lt j e;omega
  have e:=hfar bp hlt (hno bp om)
  have eh:=(hbk bh om).trans (hfar bh hh (hno bh (sN _)))
  have hcc:∀j,j≠2→(w'.setCell ⟨bp,2,none⟩ v').cell? ⟨bp,j,none⟩=w.cell? ⟨bp,j,none⟩:=fun j hj=>(sJ _ _ _ _ zD).trans (qA e j)
  refine⟨⟨h.b1,(hcc 0 om).trans h.c0,(hcc 1 om).trans h.c1,sK _ _ _ ((qA e 2).trans h.c2),(hcc 3 om).trans h.c3,fun o=>(sL _ _ _ _).trans ((qK e o).trans (h.frz o)),fun j hj=>(qA eh _).trans (h.harts j hj),by simp;omega,fun o=>(qK eh o).trans (h.hfz o),jI h.bytes (fun hne g hg'=> ?_),fun hne g hg'=> ?_, ?_,h.hcap⟩, ?_,fun g h1 h2 h3=>(hbk g h2).trans (hfar g h1 h3)⟩
  · have:=h.mlt hne g hg'
    exact(hbk g om).trans (hfar g (ints_lt h.bytes hne hg') this.2.2)
  · have:=h.mlt hne g hg'
    refine⟨this.1,this.2.1,fun e2=> ?_⟩
    have hl:=ints_lt h.bytes hne hg'
    rcases hf g e2 with e3|e3
    · exact this.2.2 e3
    · omega
  · have:=ownsRow_setCell_below hown (a:=⟨bp,2,none⟩) (by show bp<bh+1;omega) v'
    simpa using this
  · exact((Below.refl bp w).grown hg om (fun g e=>by have:=h.own.lt g e;omega)).setCell (p:=⟨bp,2,none⟩) (sN _) _
theorem PB.lost{hs:List Hart}(h:PB bp bh hc vm vo ty w s)(hl:hs.length=s.harts.length)(ha:At w' bh 0 (hs.flatMap qJ))(hg:Chg (fun p=>p.block=bh) w w'):
    PB bp bh hc vm vo ty w' {s with harts:=hs}:=by
  have b1:=h.b1
  have hlt:=h.lt
  have hh:=h.hlt
  have hsz:=hg.size
  have hbk:∀j,j<w.heap.size→j≠bh→w'.heap[j]? =w.heap[j]? :=fun j hj hn=>hg.block j hj (fun o e=>hn e)
  have e:=hbk bp hlt om
  exact⟨h.b1,(qA e _).trans h.c0,(qA e _).trans (by rw[h.c1,←hl]),(qA e _).trans h.c2,(qA e _).trans h.c3,fun o=>(qK e o).trans (h.frz o),ha,om,fun o=>(hg.frozen ⟨bh,o,none⟩ hh).trans (h.hfz o),jI h.bytes (fun hne g hg'=>hbk g (ints_lt h.bytes hne hg') (h.mlt hne g hg').2.1),h.mlt,qI h.own (fun g hg'=>hbk g (h.own.lt g hg').2 (by have:=h.own.lt g hg';omega)),by rw[show({s with harts:=hs}:St).harts.length=s.harts.length from hl];exact h.hcap⟩
end
structure BlkD where
  pc:Int
  vi:Value
  ins:List InsD
def qo(x:BlkD):List Value:=[.int .u32 x.pc,x.vi]
structure uO (w:World) (x:BlkD):Prop where
  at_:jS w x.vi x.ins
  pc:U32 x.pc
theorem uO.below{w w':World}{x:BlkD}(h:uO w x)(hb:Below w.heap.size w w'):uO w' x:=⟨Sl.below h.at_ hb,h.pc⟩
def Blks(w:World)(v:Value)(l:List BlkD):Prop:=Sl w v 2 l.length (l.flatMap qo)∧∀x∈l,uO w x
theorem Blks.below{w w':World}{v:Value}{l:List BlkD}(h:Blks w v l)(hb:Below w.heap.size w w'):Blks w' v l:=⟨Sl.below h.1 hb,fun x hx=>(h.2 x hx).below hb⟩
theorem blist_one{w:World}{x:BlkD}(h:uO w x):∀u∈qo x,u.oneCell'=true:=by
  obtain⟨ao,cap,e,_⟩:=h.at_.open (fun _ _=>rfl) om
  intro u hu
  simp only[qo,List.mem_cons,List.not_mem_nil,or_false]at hu
  rcases hu with rfl|rfl
  · rfl
  · rw[e];rfl
def Qo(l:List BlkD)(pc:Int):Nat:=l.findIdx (fun x=>x.pc==pc)
def qu(l:List BlkD)(pc:Int):Int:=if Qo l pc<l.length then(Qo l pc:Int)else -1
theorem placeI_at{l:List BlkD}{pc:Int}{k:Nat}(hk:k<l.length)(h:l[k].pc=pc)(hn:∀j (hj:j<k),l[j].pc≠pc):qu l pc=k:=by
  have e:Qo l pc=k:=by
    refine Nat.le_antisymm ?_ ?_
    · refine Nat.le_of_not_lt (fun hlt=> ?_)
      have:=List.not_of_lt_findIdx hlt
      simp[h]at this
    · refine Nat.le_of_not_lt (fun hlt=> ?_)
      have h2:Qo l pc<l.length:=om
      have:(l[Qo l pc].pc==pc)=true:=List.findIdx_getElem (p:=fun x:BlkD=>x.pc==pc) (xs:=l) (w:=h2)
      exact hn _ hlt (by simpa using this)
  unfold qu;rw[e,if_pos hk]
theorem placeI_no{l:List BlkD}{pc:Int}(hn:∀j (hj:j<l.length),l[j].pc≠pc):qu l pc= -1:=by
  unfold qu
  rw[if_neg]
  intro h
  have:(l[Qo l pc].pc==pc)=true:=List.findIdx_getElem (p:=fun x:BlkD=>x.pc==pc) (xs:=l) (w:=h)
  exact hn _ h (by simpa using this)
def BlkD.abs(x:BlkD):Int × List InsD:=(x.pc,x.ins)
structure Cp (B:Nat) (TB TI:TypeId) (w:World) (v:Value) (ys:List BlkD):Prop where
  own:w.ownsRow B TB 2 v ys.length (ys.flatMap qo)
  pc:∀y∈ys,U32 y.pc
  row:∀y∈ys,w.ownsRow B TI 5 y.vi y.ins.length (y.ins.flatMap jJ)
section
variable {B : Nat} {TB TI : TypeId} {w w' : World} {v v' : Value} {ys : List BlkD} {y : BlkD}
theorem Cp.below(h:Cp B TB TI w v ys)(hb:Below w.heap.size w w'):Cp B TB TI w' v ys:=⟨qP h.own hb,h.pc,fun y hy=>qP (h.row y hy) hb⟩
theorem Cp.mono(h:Cp B TB TI w v ys){B':Nat}(hb:B'≤B):Cp B' TB TI w v ys:=⟨qe h.own hb,h.pc,fun y hy=>qe (h.row y hy) hb⟩
theorem Cp.ok(h:Cp B TB TI w v ys):∀y∈ys,uO w y:=fun y hy=>⟨ql (h.row y hy),h.pc y hy⟩
theorem Cp.blks(h:Cp B TB TI w v ys):Blks w v ys:=⟨ql h.own,h.ok⟩
theorem Cp.set(h:Cp B TB TI w v ys){p:Addr}(hp:p.block<B)(u:Value):Cp B TB TI (w.setCell p u) v ys:=
  ⟨ownsRow_setCell_below h.own hp u,h.pc,fun y hy=>ownsRow_setCell_below (h.row y hy) hp u⟩
theorem Cp.sets{b:Nat}(hb:b<B):∀(vs:List Value) (o:Nat) {w:World},Cp B TB TI w v ys→Cp B TB TI (w.setCells b o vs) v ys
  |[],_,_,h=>h
  |u::r,o,_,h=>Cp.sets hb r (o+1) (h.set (p:=⟨b,o,none⟩) hb u)
theorem Cp.snoc(hne:TB≠TI)(h:Cp B TB TI w v ys)(hp:U32 y.pc)(hy:w.ownsRow B TI 5 y.vi y.ins.length (y.ins.flatMap jJ))(hown:w'.ownsRow B TB 2 v' (ys.length+1) (ys.flatMap qo++qo y))(hg:w.grownBy w' v.ownBlock):Cp B TB TI w' v' (ys++[y]):=by
  have key:∀z:BlkD,w.ownsRow B TI 5 z.vi z.ins.length (z.ins.flatMap jJ)→w'.ownsRow B TI 5 z.vi z.ins.length (z.ins.flatMap jJ):=fun z hz=>
    qI hz (fun g e=>hg.block g (hz.lt g e).2 (fun e2=>QP h.own hz hne g e2.symm e))
  refine⟨by simpa using hown,fun z hz=> ?_,fun z hz=> ?_⟩
  · rcases List.mem_append.1 hz with hz|hz
    · exact h.pc z hz
    · rw[List.mem_singleton]at hz;rw[hz];exact hp
  · rcases List.mem_append.1 hz with hz|hz
    · exact key z (h.row z hz)
    · rw[List.mem_singleton]at hz;rw[hz];exact key y hy
theorem blk1_one(h:w.ownsRow B TI 5 y.vi y.ins.length (y.ins.flatMap jJ)):∀u∈qo y,u.oneCell'=true:=by
  obtain⟨ao,c,e⟩:=qE h
  intro u hu
  simp only[qo,List.mem_cons,List.not_mem_nil,or_false]at hu
  rcases hu with rfl|rfl
  · rfl
  · rw[e];rfl
end
theorem at_new2(w:World)(a b:Value)(t:TypeId):Sl (w.alloc (.cells #[a,b] t)) (.slice (some ⟨w.heap.size,0,none⟩) 1 1) 2 1 [a,b]:=
  ⟨rfl,_,1,rfl,sN _,by decide,xH,fun x hx _=>by cases hx;exact⟨rfl,QN w [a,b] t (0,0)⟩⟩
def Far(B:Nat)(v:Value)(l:List BlkD):Prop:=(∀q,v.ownBlock=some q→B≤q)∧∀x∈l,∀q,x.vi.ownBlock=some q→B≤q
theorem Cp.far{B:Nat}{TB TI:TypeId}{w:World}{v:Value}{ys:List BlkD}(h:Cp B TB TI w v ys):Far B v ys:=⟨fun q e=>(h.own.lt q e).1,fun x hx q e=>((h.row x hx).lt q e).1⟩
theorem Far.mono{B B':Nat}{v:Value}{l:List BlkD}(h:Far B v l)(hb:B'≤B):Far B' v l:=⟨fun q e=>Nat.le_trans hb (h.1 q e),fun x hx q e=>Nat.le_trans hb (h.2 x hx q e)⟩
theorem Qj{w:World}{B:Nat}{e:TypeId}{k:Nat}{v:Value}{n:Nat}{xs:List Value}(h:w.ownsRow B e k v n xs){g:Nat}(hg:v.ownBlock=some g):∃cs f,w.heap[g]? =some (.cells cs e f):=by
  rcases h.2 with⟨rfl,_⟩|⟨g1,_,c1,rfl,_,q1,_⟩
  · cases hg
  · cases hg
    exact⟨_,_,q1⟩
def Typ(TB TI:TypeId)(w:World)(v:Value)(l:List BlkD):Prop:=(∀q,v.ownBlock=some q→∃cs f,w.heap[q]? =some (.cells cs TB f))∧∀x∈l,∀q,x.vi.ownBlock=some q→∃cs f,w.heap[q]? =some (.cells cs TI f)
theorem Cp.typ{B:Nat}{TB TI:TypeId}{w:World}{v:Value}{ys:List BlkD}(h:Cp B TB TI w v ys):Typ TB TI w v ys:=⟨fun _ e=>Qj h.own e,fun x hx _ e=>Qj (h.row x hx) e⟩
theorem Typ.drop{TB TI:TypeId}{w:World}{v v':Value}{l:List BlkD}(h:Typ TB TI w v l)(e:v'.ownBlock=v.ownBlock)(n:Nat):Typ TB TI w v' (l.drop n):=⟨fun q hq=>h.1 q (by rw[←e];exact hq),fun x hx=>h.2 x (List.mem_of_mem_drop hx)⟩
structure JD where
  hart:Int
  was:Hart
  frm:Int
  bytes:List Int
  lost:List (Int × Int)
def lost1(k:Nat)(was now:List Hart)(j:Nat):List (Int × Int):=if j≠k∧(was.getD j qz).held=true∧(now.getD j qz).held=false then [((j:Int),(was.getD j qz).heldAt)]else []
def jH(k:Nat)(was now:List Hart):Nat→List (Int × Int)
  |0=>[]
  |n+1=>jH k was now n++lost1 k was now n
def je(k:Nat)(s:St):qF:=goS (⟨s.hart k,s.mem,[],0,0⟩:qF)
def undoOf(k:Nat)(s:St):JD:=
  ⟨k,s.hart k,if(je k s).fr<(je k s).tw then(je k s).fr else 0,if(je k s).fr<(je k s).tw then(s.mem.drop (je k s).fr.toNat).take ((je k s).tw-(je k s).fr).toNat else [],jH k s.harts (goM k s).harts s.harts.length⟩
def Qh(k:Nat):Nat→St→List JD
  |0,_=>[]
  |n+1,s=>if(s.hart k).state=0 then undoOf k s::Qh k n (goM k s)else []
def QC:List (Int × Int)→St→List JD
  |[],_=>[]
  |p::r,s=>Qh p.1.toNat p.2.toNat s++QC r (qk p.1.toNat p.2.toNat s)
theorem undoPlay_append:∀(a b:List (Int × Int)) (s:St),QC (a++b) s=QC a s++QC b (qw a s)
  |[],_,_=>rfl
  | p :: r, b, s => by
    show Qh _ _ s++QC (r++b) _=(Qh _ _ s++QC r _)++QC b (qw r _)
    rw[undoPlay_append r b,List.append_assoc]
theorem undoPick_stop{k:Nat}{s:St}(h:¬(s.hart k).state=0)(n:Nat):Qh k n s=[]:=by
  cases n with
  |zero=>rfl
  |succ n=>unfold Qh;rw[if_neg h]
theorem undoPick_len{k:Nat}:∀(n:Nat) (s:St),(Qh k n s).length≤n
  |0,_=>sN _
  | n + 1, s => by
    unfold Qh
    split
    · have:=undoPick_len (k:=k) n (goM k s)
      rw[List.length_cons];omega
    · simp
theorem lostN_len(k:Nat)(was now:List Hart):∀n,(jH k was now n).length≤n
  |0=>sN _
  | n + 1 => by
    have:=lostN_len k was now n
    unfold jH lost1
    rw[sW]
    split
    · simp;omega
    · simp;omega
structure UndD where
  d:JD
  vb:Value
  vl:Value
def JG(p:Int × Int):List Value:=[.int .i64 p.1,.int .u32 p.2]
def QJ(x:UndD):List Value:=.int .i64 x.d.hart::(qJ x.d.was++[.int .u32 x.d.frm,x.vb,x.vl])
theorem uT{x:UndD}(h:x.d.was.regs.length=32):(QJ x).length=41:=by
  unfold QJ
  rw[List.length_cons,sW,jZ h]
  rfl
structure Up (B:Nat) (TD TY TL:TypeId) (w:World) (v:Value) (us:List UndD):Prop where
  own:w.ownsRow B TD 41 v us.length (us.flatMap QJ)
  wf:∀x∈us,x.d.was.Wf
  byt:∀x∈us,w.ownsRow B TY 1 x.vb x.d.bytes.length (x.d.bytes.map (Value.int .u8))
  los:∀x∈us,w.ownsRow B TL 2 x.vl x.d.lost.length (x.d.lost.flatMap JG)
section
variable {B : Nat} {TD TY TL : TypeId} {w w' : World} {v v' : Value} {us : List UndD} {x : UndD}
theorem Up.nil(w:World):Up B TD TY TL w (.slice none 0 0) []:=⟨World.ownsRow_nil _ _ _ _,zW,zW,zW⟩
theorem Up.keep(h:Up B TD TY TL w v us)(hk:∀q,q<w.heap.size→B≤q→(∃cs f,w.heap[q]? =some (.cells cs TD f)∨w.heap[q]? =some (.cells cs TY f)∨w.heap[q]? =some (.cells cs TL f))→w'.heap[q]? =w.heap[q]?):Up B TD TY TL w' v us:=by
  refine⟨qI h.own (fun g hg=> ?_),h.wf,fun x hx=>qI (h.byt x hx) (fun g hg=> ?_),fun x hx=>qI (h.los x hx) (fun g hg=> ?_)⟩
  · obtain⟨cs,f,e⟩:=Qj h.own hg
    exact hk g (h.own.lt g hg).2 (h.own.lt g hg).1 ⟨cs,f,.inl e⟩
  · obtain⟨cs,f,e⟩:=Qj (h.byt x hx) hg
    exact hk g ((h.byt x hx).lt g hg).2 ((h.byt x hx).lt g hg).1 ⟨cs,f,.inr (.inl e)⟩
  · obtain⟨cs,f,e⟩:=Qj (h.los x hx) hg
    exact hk g ((h.los x hx).lt g hg).2 ((h.los x hx).lt g hg).1 ⟨cs,f,.inr (.inr e)⟩
theorem Up.below(h:Up B TD TY TL w v us)(hb:Below w.heap.size w w'):Up B TD TY TL w' v us:=h.keep (fun q hq _ _=>hb.block q hq)
theorem Up.mono(h:Up B TD TY TL w v us){B':Nat}(hb:B'≤B):Up B' TD TY TL w v us:=⟨qe h.own hb,h.wf,fun x hx=>qe (h.byt x hx) hb,fun x hx=>qe (h.los x hx) hb⟩
theorem Up.snoc(h1:TD≠TY)(h2:TD≠TL)(h:Up B TD TY TL w v us)(wx:x.d.was.Wf)(hb:w.ownsRow B TY 1 x.vb x.d.bytes.length (x.d.bytes.map (Value.int .u8)))(hl:w.ownsRow B TL 2 x.vl x.d.lost.length (x.d.lost.flatMap JG))(hown:w'.ownsRow B TD 41 v' (us.length+1) (us.flatMap QJ++QJ x))(hg:w.grownBy w' v.ownBlock):Up B TD TY TL w' v' (us++[x]):=by
  have kb:∀(vv:Value) (n:Nat) (xs:List Value),w.ownsRow B TY 1 vv n xs→w'.ownsRow B TY 1 vv n xs:=fun vv n xs hz=>
    qI hz (fun g e=>hg.block g (hz.lt g e).2 (fun e2=>QP h.own hz h1 g e2.symm e))
  have kl:∀(vv:Value) (n:Nat) (xs:List Value),w.ownsRow B TL 2 vv n xs→w'.ownsRow B TL 2 vv n xs:=fun vv n xs hz=>
    qI hz (fun g e=>hg.block g (hz.lt g e).2 (fun e2=>QP h.own hz h2 g e2.symm e))
  refine⟨by simpa using hown,fun z hz=> ?_,fun z hz=> ?_,fun z hz=> ?_⟩
  all_goals rcases List.mem_append.1 hz with hz|hz
  · exact h.wf z hz
  · rw[List.mem_singleton]at hz;rw[hz];exact wx
  · exact kb _ _ _ (h.byt z hz)
  · rw[List.mem_singleton]at hz;rw[hz];exact kb _ _ _ hb
  · exact kl _ _ _ (h.los z hz)
  · rw[List.mem_singleton]at hz;rw[hz];exact kl _ _ _ hl
end
theorem und_at{h:Hart}(wf:h.regs.length=32)(k:Int)(a b c:Value)(i:Nat)(v:Value)(e:[a,b,c][i]? =some v):(Value.int .i64 k::(qJ h++[a,b,c]))[38+i]? =some v:=by
  have hl:=jZ wf
  rw[show 38+i=(37+i)+1 by omega,List.getElem?_cons_succ,List.getElem?_append_right om,hl,show 37+i-37=i by omega]
  exact e
theorem und_set{h:Hart}(wf:h.regs.length=32)(k:Int)(a b c:Value)(i:Nat)(v:Value):(Value.int .i64 k::(qJ h++[a,b,c])).set (38+i) v=Value.int .i64 k::(qJ h++[a,b,c].set i v):=by
  have hl:=jZ wf
  rw[show 38+i=(37+i)+1 by omega,sG,List.set_append_right _ _ om,hl,show 37+i-37=i by omega]
structure UBx (TD:TypeId) (u:Nat) (k:Int) (h:Hart) (a b c:Value) (w:World):Prop where
  wf:h.regs.length=32
  blk:w.heap[u]? =some (.cells (Value.int .i64 k::(qJ h++[a,b,c])).toArray TD (0,0))
section
variable {TD : TypeId} {u : Nat} {k : Int} {h : Hart} {a b c : Value} {w w' : World}
theorem UBx.get(hu:UBx TD u k h a b c w)(i:Nat)(v:Value)(e:[a,b,c][i]? =some v):w.cell? ⟨u,38+i,none⟩=some v:=by
  simp only[World.cell?,hu.blk,List.getElem?_toArray]
  exact und_at hu.wf k a b c i v e
theorem UBx.frz(hu:UBx TD u k h a b c w)(o:Nat):w.frozen? ⟨u,o,none⟩=false:=by simp[World.frozen?,hu.blk]
theorem UBx.keep(hu:UBx TD u k h a b c w)(e:w'.heap[u]? =w.heap[u]?):UBx TD u k h a b c w':=⟨hu.wf,e.trans hu.blk⟩
theorem UBx.lt(hu:UBx TD u k h a b c w):u<w.heap.size:=(Array.getElem?_eq_some_iff.1 hu.blk).1
theorem UBx.at_(hu:UBx TD u k h a b c w):At w u 0 (Value.int .i64 k::(qJ h++[a,b,c])):=fun j hj=>by
  simp only[World.cell?,hu.blk,sM,List.getElem?_toArray]
  exact sU hj
theorem UBx.set(hu:UBx TD u k h a b c w)(i:Nat)(v:Value){a' b' c':Value}(e:[a,b,c].set i v=[a',b',c']):UBx TD u k h a' b' c' (w.setCell ⟨u,38+i,none⟩ v):=by
  refine⟨hu.wf, ?_⟩
  simp only[World.setCell,Array.getElem?_modify]
  rw[if_pos trivial,hu.blk]
  simp only[Option.map_some,Option.isSome_none,Bool.false_eq_true,if_false,sD]
  rw[und_set hu.wf,e]
end
theorem sl_cut3{w:World}{ab:Option Addr}{c:Nat}{l:List Int}(h:Sl w (.slice ab l.length c) 1 l.length (l.map (Value.int .u8))){f t:Nat}(h1:f≤t)(h2:t≤l.length):
    Sl w (.slice (ab.map (fun x=>x.add f)) (t-f) (t-f)) 1 ((l.drop f).take (t-f)).length (((l.drop f).take (t-f)).map (Value.int .u8)):=by
  obtain⟨hl,ao,cap,e,h3,h4,h5,h6⟩:=h
  cases e
  have hlen:((l.drop f).take (t-f)).length=t-f:=by rw[List.length_take,List.length_drop];omega
  refine⟨by simp,ab.map (fun x=>x.add f),t-f,by rw[hlen],by rw[hlen];exact sN _,om,fun e=> ?_,fun a ha hx=> ?_⟩
  · cases ab with
    |none=>have:=h5 rfl;omega
    |some x=>cases e
  · cases ab with
    |none=>cases ha
    | some x =>
      cases ha
      have hne:l.map (Value.int .u8)≠[]:=by
        intro e
        have:l=[]:=List.map_eq_nil_iff.1 e
        rw[this]at hx
        simp at hx
      obtain⟨hsp,hat⟩:=h6 x rfl hne
      obtain⟨xb,xo,xs⟩:=x
      simp only at hsp
      subst hsp
      have hadd:Addr.add ⟨xb,xo,none⟩ f=⟨xb,xo+f,none⟩:=by unfold Addr.add;split<;>simp_all
      simp only[hadd]
      refine⟨trivial,fun j hj=> ?_⟩
      have hj2:j<t-f:=by rw[sX,hlen]at hj;exact hj
      have:=hat (f+j) yR
      show w.cell? ⟨xb,xo+f+j,none⟩=_
      rw[Nat.add_assoc,this]
      simp
def Je(m:List Int)(f:Int)(bs:List Int):List Int:=m.take f.toNat++bs++m.drop (f.toNat+bs.length)
def reset1(p:Int × Int)(hs:List Hart):List Hart:=hs.set p.1.toNat {(hs.getD p.1.toNat qz)with held:=true,heldAt:=p.2}
def Jl:List (Int × Int)→List Hart→List Hart
  |[],hs=>hs
  |p::r,hs=>Jl r (reset1 p hs)
def Ua(u:JD)(m:Mach):Mach:=⟨Je m.mem u.frm u.bytes,Jl u.lost (m.harts.set u.hart.toNat u.was)⟩
def backL(us:List JD)(m:Mach):Mach:=us.foldr Ua m
def inH(m:Mach)(k:Int):Bool:=decide (0≤k)&&decide (k<m.harts.length)
def uL(m:Mach)(u:JD):Bool:=u.lost.all (fun p=>inH m p.1)&&(inH m u.hart&&u.was.ok&&decide (u.frm+u.bytes.length≤m.mem.length))
def ja(m:Mach)(us:List JD)(steps:Int):Mach × Int:=
  if qj m []=0 then(if us.all (uL m)=true then(if steps<0∨(us.length:Int)<steps then(⟨[],[]⟩,3)else(backL (us.drop (us.length-steps.toNat)) m,0))else(⟨[],[]⟩,2))else(⟨[],[]⟩,2)
theorem resets_append:∀(a b:List (Int × Int)) (hs:List Hart),Jl (a++b) hs=Jl b (Jl a hs)
  |[],_,_=>rfl
  |p::r,b,hs=>resets_append r b (reset1 p hs)
theorem patch_len{m:List Int}{f:Int}{bs:List Int}(h0:0≤f)(h:f+bs.length≤m.length):(Je m f bs).length=m.length:=by
  unfold Je
  simp only[sW,List.length_take,List.length_drop]
  omega
structure UR (w:World) (v:Value) (us:List UndD):Prop where
  row:Sl w v 41 us.length (us.flatMap QJ)
  wf:∀x∈us,x.d.was.Wf
  byt:∀x∈us,Sl w x.vb 1 x.d.bytes.length (x.d.bytes.map (Value.int .u8))
  los:∀x∈us,Sl w x.vl 2 x.d.lost.length (x.d.lost.flatMap JG)
  rng:∀x∈us,QY x.d.hart∧U32 x.d.frm∧jC x.d.bytes∧∀p∈x.d.lost,QY p.1∧U32 p.2
theorem UR.below{w w':World}{v:Value}{us:List UndD}(h:UR w v us)(hb:Below w.heap.size w w'):UR w' v us:=⟨h.row.below hb,h.wf,fun x hx=>(h.byt x hx).below hb,fun x hx=>(h.los x hx).below hb,h.rng⟩
theorem ulist_at{x:UndD}(wf:x.d.was.regs.length=32){w:World}{b o:Nat}(h:At w b o (QJ x)):w.cell? ⟨b,o,none⟩=some (.int .i64 x.d.hart)∧At w b (o+1) (qJ x.d.was)∧w.cell? ⟨b,o+38,none⟩=some (.int .u32 x.d.frm)∧w.cell? ⟨b,o+39,none⟩=some x.vb∧w.cell? ⟨b,o+40,none⟩=some x.vl:=by
  unfold QJ at h
  have h0:=h.get (j:=0) rfl
  have h1:At w b (o+1) (qJ x.d.was++[.int .u32 x.d.frm,x.vb,x.vl]):=fun j hj=>by
    have:=h (j+1) xW
    rw[show o+1+j=o+(j+1) by omega,this];rfl
  have h2:At w b (o+38) [.int .u32 x.d.frm,x.vb,x.vl]:=by
    have:=h1.append_right
    rw[jZ wf]at this
    exact this
  exact⟨h0,h1.append_left,h2.get (j:=0) rfl,h2.get (j:=1) rfl,h2.get (j:=2) rfl⟩
theorem ulist_one{x:UndD}(hb:x.vb.oneCell'=true)(hl:x.vl.oneCell'=true):∀u∈QJ x,u.oneCell'=true:=by
  unfold QJ
  intro u hu
  simp only[List.mem_cons,List.mem_append,List.not_mem_nil,or_false]at hu
  rcases hu with rfl|hu|rfl|rfl|rfl
  · rfl
  · exact jY x.d.was u xO
  · rfl
  · exact hb
  · exact hl
open Go.Lib Go.RowKit
structure PlD where
  m:Mach
  ps:List (Int × Int)
  us:List JD
  ran:Bool
def pl0:PlD:=⟨⟨[],[]⟩,[],[],false⟩
def qf(c:UInt8):List UInt8→List (List UInt8)
  |[]=>[[]]
  |b::l=>if b=c then []::qf c l else(b::(qf c l).headD [])::(qf c l).tail
theorem uU(c:UInt8):∀l,qf c l≠[]
  |[]=>by simp[qf]
  | b :: l => by
    unfold qf
    split<;>simp
theorem jf(c b:UInt8)(l:List UInt8):qf c (b::l)=if b=c then []::qf c l else(b::(qf c l).headD [])::(qf c l).tail:=by rw[qf]
theorem UH(c:UInt8):∀(a b:List UInt8),qf c (a++c::b)=qf c a++qf c b
  | [], b => by
    rw[List.nil_append,jf,if_pos rfl]
    rfl
  | x :: a, b => by
    rw[List.cons_append,jf,UH c a b,jf]
    by_cases h:x=c
    · rw[if_pos h,if_pos h]
      rfl
    · rw[if_neg h,if_neg h]
      cases e:qf c a with
      |nil=>exact absurd e (uU c a)
      |cons w r=>rfl
def numU(w:List UInt8):Option Int:=match parseUintB 32 w with
  | .ok v=>if decDigits v=w then some (v:Int)else none
  |_=>none
def sayS(word:List UInt8)(l:List Int):List UInt8:=l.foldl (fun s n=>s++32::decDigits n.toNat) word
def JZ(n:Int):List Int:=[n%256,n / 256%256,n / 65536%256,n / 16777216%256]
def okS:List UInt8:=[111,107]
def qS:List UInt8:=[63]
def noS:List UInt8:=[110,111]
def ranS(p:PlD)(s:St)(e:Int):List UInt8 × PlD:=
  if e=0 then(sayS (sayS [114,97,110] [(s.steps:Int)]) s.out,{p with m:=s.mach,ps:=[]})else(sayS [98,97,100] [e],p)
def engE(m:Mach)(l:List (Int × Int))(room:Int):Int:=if qj m l=0 then(if room<0∨64<room then 3 else 0)else qj m l
def wordsS(p:PlD)(l:List Int):List UInt8 × PlD:=
  if 4096<p.m.mem.length+4*l.length then(qS,p)else(sayS okS [((p.m.mem++l.flatMap JZ).length:Int)],{p with m:={p.m with mem:=p.m.mem++l.flatMap JZ}})
def setS(p:PlD)(h r w:Int):List UInt8 × PlD:=
  if(p.m.harts.length:Int)≤h∨r<1∨31<r then(qS,p)else(okS,{p with m:={p.m with harts:=p.m.harts.set h.toNat {(p.m.harts.getD h.toNat qz)with regs:=(p.m.harts.getD h.toNat qz).regs.set r.toNat w}}})
def lookS(p:PlD)(k:Int):List UInt8:=
  if(p.m.harts.length:Int)≤k then qS else
    (sayS (sayS (sayS [] [(p.m.harts.getD k.toNat qz).state,(p.m.harts.getD k.toNat qz).cause]) [(p.m.harts.getD k.toNat qz).pc]) (p.m.harts.getD k.toNat qz).regs).drop 1
def whatS(w:Int):List UInt8:=match dec w with
  |none=>noS
  |some i=>sayS (sayS [105,115] [i.op,i.rd,i.rs1,i.rs2]) [i.imm%4294967296]
def showS(p:PlD)(pc:Int):List UInt8:=
  if(qc p.m.mem pc).2=0∧p.m.mem.length≤4096 then(if isS (qc p.m.mem pc).1=true then textS (qc p.m.mem pc).1 else [])else noS
def backP(p:PlD)(n:Int):List UInt8 × PlD:=
  if p.ran=false∨(p.us.length:Int)<n then(qS,p)else if(ja p.m p.us n).2=0 then(okS,{p with m:=(ja p.m p.us n).1,us:=[],ran:=false})else(qS,p)
def cmdS(p:PlD)(w:List UInt8)(l:List Int):List UInt8 × PlD:=
  if w=[119,111,114,100,115]then wordsS {p with ran:=false} l
  else if w=[104,97,114,116]∧l.length=1∧p.m.harts.length<4 then
    (sayS okS [((p.m.harts.length+1:Nat):Int)],{p with ran:=false,m:={p.m with harts:=p.m.harts++[{qz with pc:=l.getD 0 0}]}})
  else if w=[115,101,116]∧l.length=3 then setS {p with ran:=false} (l.getD 0 0) (l.getD 1 0) (l.getD 2 0)
  else if w=[112,105,99,107]∧l.length=2∧p.ps.length<300 then(sayS okS [((p.ps.length+1:Nat):Int)],{p with ps:=p.ps++[(l.getD 0 0,l.getD 1 0)]})
  else if w=[114,117,110]∧l.length=0 then
    (if qj p.m p.ps=0 then ranS {p with us:=QC p.ps (qN p.m),ran:=true} (runM p.m p.ps) 0 else ranS p (runM p.m p.ps) (qj p.m p.ps))
  else if w=[102,97,115,116]∧l.length=1 then ranS {p with ran:=false} (runM p.m p.ps) (engE p.m p.ps (l.getD 0 0))
  else if w=[104,97,114,116,63]∧l.length=1 then(lookS p (l.getD 0 0),p)
  else if w=[119,104,97,116]∧l.length=1 then(whatS (l.getD 0 0),p)
  else if w=[115,104,111,119]∧l.length=1 then(showS p (l.getD 0 0),p)
  else if w=[98,97,99,107]∧l.length=1 then backP p (l.getD 0 0)
  else if w=[98,108,111,99,107]∧l.length=1 then(decDigits (QS p.m.mem (l.getD 0 0)).2.length,p)
  else(qS,p)
def JH(p:PlD)(s:List UInt8):List UInt8 × PlD:=match (qf 32 s).tail.mapM numU with
  |none=>(qS,p)
  |some l=>cmdS p ((qf 32 s).headD []) l
def UV(l:List UInt8):List (List UInt8):=if(qf 10 l).getLast? =some []then(qf 10 l).dropLast else qf 10 l
def Jd:List (List UInt8)→PlD→List UInt8
  |[],_=>[]
  |s::r,p=>(JH p s).1++10::Jd r (JH p s).2
def playS(l:List UInt8):List UInt8:=Jd ((UV l).take 40) pl0
theorem playL_pre:∀(a b:List (List UInt8)) (p:PlD),∃r,Jd (a++b) p=Jd a p++r
  |[],b,p=>⟨_,rfl⟩
  | s :: a, b, p => by
    obtain⟨r,h⟩:=playL_pre a b (JH p s).2
    refine⟨r, ?_⟩
    rw[List.cons_append]
    unfold Jd
    rw[h]
    simp
theorem lines_end(a:List UInt8):UV (a++[10])=qf 10 a:=by
  unfold UV
  rw[UH]
  simp[qf]
theorem lines_on(a b:List UInt8):∃r,UV (a++[10]++b)=qf 10 a++r:=by
  unfold UV
  rw[List.append_assoc,List.singleton_append,UH]
  split
  · rw[List.dropLast_append_of_ne_nil (uU 10 b)]
    exact⟨_,rfl⟩
  · exact⟨_,rfl⟩
theorem play_on(a b:List UInt8):∃r,playS (a++[10]++b)=playS (a++[10])++r:=by
  obtain⟨t,ht⟩:=lines_on a b
  unfold playS
  rw[lines_end,ht,List.take_append]
  exact playL_pre _ _ _
theorem play_q:playS [63]=[63,10]:=by
  unfold playS
  have:UV [63]=[[63]]:=zF
  rw[this]
  show(JH pl0 [63]).1++10::[]=_
  have h2:qf 32 [63]=[[63]]:=zF
  unfold JH
  rw[h2]
  show(cmdS pl0 [63] []).1++[10]=_
  rfl
structure MicD.Ok (m:MicD):Prop where
  op: -9223372036854775808≤m.op∧m.op≤9223372036854775807
  d: -9223372036854775808≤m.d∧m.d≤9223372036854775807
  a: -9223372036854775808≤m.a∧m.a≤9223372036854775807
  b: -9223372036854775808≤m.b∧m.b≤9223372036854775807
  n:U32 m.n
theorem Qp(x:Int):U32 (u32 x):=by unfold u32;exact⟨om,om⟩
theorem jp:U32 0:=⟨om,om⟩
theorem cD{p:Prop}(h:p:=by
 rw[List.mem_singleton]at hm;subst hm
 exact⟨by dsimp only;omega,Qp _⟩):p:=h
theorem cF{p:Prop}(h:p:=by
 rw[List.mem_singleton]at hm;subst hm
 exact⟨by dsimp only;omega,jp⟩):p:=h
theorem bodyM_opn{i:InsD}(h:isS i=true)(pc:Int):∀m∈uv i pc,(1≤m.op∧m.op≤656)∧U32 m.n:=by
  obtain⟨h1,-⟩:=uk h
  clear h
  intro m hm
  unfold uv at hm
  by_cases c1:i.op=1
  · rw[if_pos c1]at hm
    exact cD
  rw[if_neg c1]at hm
  by_cases c2:i.op=2
  · rw[if_pos c2]at hm
    exact cD
  rw[if_neg c2]at hm
  by_cases c3:i.op=3
  · rw[if_pos c3]at hm
    simp only[List.mem_cons,List.not_mem_nil,or_false]at hm
    rcases hm with rfl|rfl
    · exact⟨by dsimp only;omega,Qp _⟩
    · exact⟨by dsimp only;omega,Qp _⟩
  rw[if_neg c3]at hm
  by_cases c4:i.op=4
  · rw[if_pos c4]at hm
    simp only[List.mem_cons,List.not_mem_nil,or_false]at hm
    rcases hm with rfl|rfl|rfl
    · exact⟨by dsimp only;omega,Qp _⟩
    · exact⟨by dsimp only;omega,Qp _⟩
    · exact⟨by dsimp only;omega,jp⟩
  rw[if_neg c4]at hm
  by_cases c5:i.op≤10
  · rw[if_pos c5]at hm
    exact cD
  rw[if_neg c5]at hm
  by_cases c6:i.op≤15
  · rw[if_pos c6]at hm
    exact cD
  rw[if_neg c6]at hm
  by_cases c7:i.op≤18
  · rw[if_pos c7]at hm
    exact cD
  rw[if_neg c7]at hm
  by_cases c8:i.op≤27
  · rw[if_pos c8]at hm
    have hn:=numOp_in i.op
    unfold numM at hm
    by_cases d1:i.rd=0
    · rw[if_pos d1]at hm;cases hm
    rw[if_neg d1]at hm
    generalize numOp i.op=q at hn hm
    by_cases d2:i.rs1=0∧(q=28∨q=36∨q=33)
    · rw[if_pos d2]at hm;rw[List.mem_singleton]at hm;subst hm;exact⟨by dsimp only;omega,Qp _⟩
    rw[if_neg d2]at hm
    by_cases d3:i.rs1=0∧(q=37∨q=30∨q=34∨q=35)
    · rw[if_pos d3]at hm;rw[List.mem_singleton]at hm;subst hm;exact⟨by dsimp only;omega,jp⟩
    rw[if_neg d3]at hm
    exact cD
  rw[if_neg c8]at hm
  by_cases c9:i.op≤45
  · rw[if_pos c9]at hm
    by_cases d1:i.rd=0
    · rw[if_pos d1]at hm;cases hm
    rw[if_neg d1]at hm
    exact cF
  rw[if_neg c9]at hm
  by_cases c10:i.op≤56
  · rw[if_pos c10]at hm
    exact cF
  rw[if_neg c10]at hm
  by_cases c11:i.op=58
  · rw[if_pos c11]at hm
    exact cF
  rw[if_neg c11]at hm
  by_cases c12:i.op=59
  · rw[if_pos c12]at hm
    exact cF
  rw[if_neg c12]at hm
  cases hm
theorem regOk_in{b:Bool}{r:Int}(h:regOk b r=true):0≤r∧r<36:=by
  unfold regOk at h
  simp at h
  omega
theorem mayM_regs{m:MicD}(h:mayM m=true):(0≤m.d∧m.d<36)∧(0≤m.a∧m.a<36)∧(0≤m.b∧m.b<36):=by
  unfold mayM at h
  rw[Bool.and_eq_true,Bool.and_eq_true,Bool.and_eq_true]at h
  exact⟨regOk_in h.1.1.2,regOk_in h.1.2,regOk_in h.2⟩
theorem rowM_opn(pc:Int):∀(l:List InsD) (k:Nat),l.all isS=true→∀m∈rowM pc k l,(1≤m.op∧m.op≤656)∧U32 m.n
  |[],_,_,m,hm=>by cases hm
  | i :: r, k, h, m, hm => by
    simp only[List.all_cons,Bool.and_eq_true]at h
    simp only[rowM,insM,List.mem_append,List.mem_cons]at hm
    rcases hm with(hm|hm)|hm
    · subst hm;exact⟨by dsimp only;omega,Qp _⟩
    · exact bodyM_opn h.1 _ m hm
    · exact rowM_opn pc r (k+1) h.2 m hm
theorem mkM_ok(pc:Int)(l:List InsD):∀m∈mkM pc l,m.Ok:=fun m hm=>by
  have h1:=mkM_may pc l
  unfold mayL at h1
  rw[Bool.and_eq_true,List.all_eq_true]at h1
  have h2:=mayM_regs (h1.2 m hm)
  have h3:(1≤m.op∧m.op≤656)∧U32 m.n:=by
    unfold mkM at hm
    split at hm
    · cases hm
    · rename_i hc
      have ha:l.all isS=true:=by
        cases e:l.all isS
        · exact absurd (.inr e) hc
        · rfl
      exact rowM_opn pc l 0 ha m hm
  exact⟨om,om,om,om,h3.2⟩
theorem rowS_is(l:List Int):∀n pc,∀i∈rowS l n pc,isS i=true∧I32 i.imm
  |0,_,i,hi=>by cases hi
  | n + 1, pc, i, hi => by
    unfold rowS at hi
    split at hi
    · cases hd:dec (QB l 13 pc)with
      |none=>rw[hd]at hi;cases hi
      | some x =>
        rw[hd]at hi
        dsimp only at hi
        rcases List.mem_cons.1 hi with rfl|hi
        · exact dec_is _ _ hd
        · split at hi
          · cases hi
          · exact rowS_is l n _ i hi
    · cases hi
theorem makeS_is(l:List Int)(pc:Int):∀i∈(QS l pc).2,isS i=true∧I32 i.imm:=fun i hi=>by
  unfold QS at hi
  split at hi
  · cases hi
  · exact rowS_is l 16 pc i hi
structure RunD where
  h:Hart
  m:List Int
  out:List Int
  steps:Int
  stores:List (Int × Int)
  temps:List Int
  here:Int
  own:Bool
  over:Bool
  bf:Int
  bt:Int
def rg(p:Int × Int):List Value:=[.int .u32 p.1,.int .u32 p.2]
def RunD.get(d:RunD)(k:Nat):Int:=if k<32 then d.h.regs.getD k 0 else d.temps.getD (k-32) 0
def RunD.put(d:RunD)(k:Nat)(x:Int):RunD:=if 32≤k then {d with temps:=d.temps.set (k-32) x} else {d with h:=d.h.setReg k x}
def RunD.stop(d:RunD)(pc:Int):RunD:={d with over:=true,h:=d.h.setPc pc}
def RunD.trap(d:RunD)(c:Int):RunD:={d with over:=true,h:=(d.h.trap c).setPc d.here}
def hits(a bf bt:Int)(n:Nat):Bool:=(List.range n).any (fun k=>decide (bf≤u32 (a+(k:Int))∧u32 (a+(k:Int))<bt))
def RunD.stored(d:RunD)(a:Int)(n:Nat):RunD:={d with stores:=d.stores++[(a,u32 (a+n))],own:=d.own||hits a d.bf d.bt n}
structure RunD.Wf (d:RunD):Prop where
  h:d.h.Wf
  m:jC d.m
  mlen:d.m.length≤140737488351232
  out:∀x∈d.out,U32 x
  steps:QY d.steps
  stores:∀p∈d.stores,U32 p.1∧U32 p.2
  tlen:d.temps.length=4
  temps:∀x∈d.temps,U32 x
  here:U32 d.here
  bf:U32 d.bf
  bt:U32 d.bt
def r7tail(d:RunD)(vm vo vs:Value):List Value:=[vm,vo,.int .i64 d.steps,vs]++(d.temps.map (Value.int .u32)++[.int .u32 d.here,.bool d.own,.bool d.over,.int .u32 d.bf,.int .u32 d.bt])
def r7list(d:RunD)(vm vo vs:Value):List Value:=qJ d.h++r7tail d vm vo vs
section
variable {d : RunD} {vm vo vs : Value}
theorem r7_len(h:d.h.regs.length=32)(ht:d.temps.length=4):(r7list d vm vo vs).length=50:=by
  simp[r7list,r7tail,qJ,h,ht]
end
theorem r7ints_keep{k:IntKind}{w w':World}{v:Value}{l:List Int}(h:Ints k w v l)(hk:l≠[]→∀q,v.ownBlock=some q→w'.heap[q]? =w.heap[q]?):Ints k w' v l:=by
  obtain⟨hl,ao,cap,e,q1,q2,q3,q4⟩:=h
  refine⟨hl,ao,cap,e,q1,q2,q3,fun x hx hn=> ?_⟩
  obtain⟨hs,ha⟩:=q4 x hx hn
  have hb:=hk (by intro e2;rw[e2]at hn;exact hn rfl) x.block (by rw[e,hx];rfl)
  exact⟨hs,fun j hj=>(qA hb _).trans (ha j hj)⟩
structure R7 (rp:Nat) (TO TS:TypeId) (w:World) (d:RunD) (vm vo vs:Value):Prop where
  wf:d.Wf
  at_:At w rp 0 (r7list d vm vo vs)
  frz:∀o,w.frozen? ⟨rp,o,none⟩=false
  mem:Ints .u8 w vm d.m
  out:w.ownsRow (rp+1) TO 1 vo d.out.length (d.out.map (Value.int .u32))
  sto:w.ownsRow (rp+1) TS 2 vs d.stores.length (d.stores.flatMap rg)
  mlt:d.m≠[]→∀q,vm.ownBlock=some q→q<w.heap.size∧q≠rp∧vo.ownBlock≠some q∧vs.ownBlock≠some q
  apart:∀q,vo.ownBlock=some q→vs.ownBlock≠some q
structure G7 (rp:Nat) (w:World) (vo vs:Value) (w':World) (vo' vs':Value):Prop where
  os:w'.os=w.os
  tape:w'.tape=w.tape
  output:w'.output=w.output
  size:w.heap.size≤w'.heap.size
  block:∀k,k<w.heap.size→k≠rp→vo.ownBlock≠some k→vs.ownBlock≠some k→w'.heap[k]? =w.heap[k]?
  vo:∀q,vo'.ownBlock=some q→vo.ownBlock=some q∨w.heap.size≤q
  vs:∀q,vs'.ownBlock=some q→vs.ownBlock=some q∨w.heap.size≤q
section
variable {rp : Nat} {TO TS : TypeId} {w w' w'' : World} {d d' : RunD} {vm vo vs vo' vs' vo'' vs'' : Value}
theorem G7.refl:G7 rp w vo vs w vo vs:=⟨rfl,rfl,rfl,sN _,fun _ _ _ _ _=>rfl,fun _ h=>.inl h,fun _ h=>.inl h⟩
theorem G7.trans(h:G7 rp w vo vs w' vo' vs')(k:G7 rp w' vo' vs' w'' vo'' vs''):G7 rp w vo vs w'' vo'' vs'':=
  ⟨k.os.trans h.os,k.tape.trans h.tape,k.output.trans h.output,Nat.le_trans h.size k.size,fun j hj h1 h2 h3=>
    (k.block j (Nat.lt_of_lt_of_le hj h.size) h1 (fun e=>(h.vo j e).elim h2 (fun e2=>absurd hj (Nat.not_lt.2 e2))) (fun e=>(h.vs j e).elim h3 (fun e2=>absurd hj (Nat.not_lt.2 e2)))).trans (h.block j hj h1 h2 h3),
    fun q e=>(k.vo q e).elim (fun e2=>h.vo q e2) (fun e2=>.inr (Nat.le_trans h.size e2)),
    fun q e=>(k.vs q e).elim (fun e2=>h.vs q e2) (fun e2=>.inr (Nat.le_trans h.size e2))⟩
theorem G7.below(hb:Below w.heap.size w w'):G7 rp w vo vs w' vo vs:=⟨hb.os,hb.tape,hb.output,hb.size,fun k hk _ _ _=>hb.block k hk,fun _ h=>.inl h,fun _ h=>.inl h⟩
theorem G7.set(o:Nat)(v:Value):G7 rp w vo vs (w.setCell ⟨rp,o,none⟩ v) vo vs:=
  ⟨rfl,rfl,rfl,by simp,fun k _ h1 _ _=>sT _ _ _ _ (by show k≠rp;exact h1),fun _ h=>.inl h,fun _ h=>.inl h⟩
theorem R7.lt(h:R7 rp TO TS w d vm vo vs):rp<w.heap.size:=by
  have h1:=h.at_ 0 (by rw[r7_len h.wf.h.len h.wf.tlen];omega)
  exact qD h1
theorem R7.below(h:R7 rp TO TS w d vm vo vs)(hb:Below w.heap.size w w'):R7 rp TO TS w' d vm vo vs:=
  ⟨h.wf,h.at_.below hb,fun o=>(hb.frozen (p:=⟨rp,o,none⟩) h.lt).trans (h.frz o),h.mem.below hb,qP h.out hb,qP h.sto hb,fun hn q e=>by have:=h.mlt hn q e;exact⟨Nat.lt_of_lt_of_le this.1 hb.size,this.2⟩,h.apart⟩
theorem G7.keeps(h:G7 rp w vo vs w' vo' vs'){b off:Nat}{xs:List Value}(ha:At w b off xs)(h1:b≠rp)(h2:vo.ownBlock≠some b)(h3:vs.ownBlock≠some b):At w' b off xs:=fun j hj=>
  (World.cell?_of_block (h.block b (qD (ha j hj)) h1 h2 h3)).trans (ha j hj)
end
section
variable {rp : Nat} {TO TS : TypeId} {w w2 w3 : World} {d : RunD} {vm vo vs v' : Value}
end
def dq(q:Int)(l:List BlkD):List BlkD:=if 0≤q then l.eraseIdx q.toNat else l
theorem dq_len(q:Int)(l:List BlkD):(dq q l).length≤l.length:=by
  unfold dq;split
  · exact List.length_eraseIdx_le l q.toNat
  · exact sN _
theorem dq_mem{q:Int}{l:List BlkD}{x:BlkD}(h:x∈dq q l):x∈l:=by
  unfold dq at h;split at h
  · exact List.mem_of_mem_eraseIdx h
  · exact h
def putL(room:Int)(l:List BlkD)(y:BlkD):List BlkD:=if room<((dq (qu l y.pc) l++[y]).length:Int)then(dq (qu l y.pc) l++[y]).drop 1 else dq (qu l y.pc) l++[y]
def putP(room pu:Int)(l:List BlkD)(y:BlkD):Int:=if room<((dq (qu l y.pc) l++[y]).length:Int)then wrap64 (pu+1)else pu
theorem abs_pcs{l l':List BlkD}(h:l.map BlkD.abs=l'.map BlkD.abs)(pc:Int):Qo l pc=Qo l' pc:=by
  have e:∀l:List BlkD,Qo l pc=(l.map BlkD.abs).findIdx (fun p=>p.1==pc):=fun l=>by
    unfold Qo;rw[List.findIdx_map];rfl
  rw[e,e,h]
theorem abs_place{l l':List BlkD}(h:l.map BlkD.abs=l'.map BlkD.abs)(pc:Int):qu l pc=qu l' pc:=by
  have hl:l.length=l'.length:=by have:=congrArg List.length h;simpa using this
  unfold qu;rw[abs_pcs h,hl]
theorem dq_abs{l l':List BlkD}(h:l.map BlkD.abs=l'.map BlkD.abs)(q:Int):(dq q l).map BlkD.abs=(dq q l').map BlkD.abs:=by
  unfold dq;split
  · simp only[List.eraseIdx_eq_take_drop_succ,List.map_append,List.map_take,List.map_drop,h]
  · exact h
theorem put_abs{room:Int}{l l':List BlkD}{y y':BlkD}(h:l.map BlkD.abs=l'.map BlkD.abs)(hy:y.abs=y'.abs):(putL room l y).map BlkD.abs=(putL room l' y').map BlkD.abs∧∀pu,putP room pu l y=putP room pu l' y':=by
  have hp:y.pc=y'.pc:=congrArg Prod.fst hy
  have e:(dq (qu l y.pc) l++[y]).map BlkD.abs=(dq (qu l' y'.pc) l'++[y']).map BlkD.abs:=by
    rw[List.map_append,List.map_append,hp,abs_place h,dq_abs h];simp[hy]
  have hl:(dq (qu l y.pc) l++[y]).length=(dq (qu l' y'.pc) l'++[y']).length:=by have:=congrArg List.length e;simpa using this
  unfold putL putP
  rw[hl]
  refine⟨?_,fun pu=>rfl⟩
  split
  · rw[List.map_drop,List.map_drop,e]
  · exact e
theorem sl_drop{w:World}{g n cap s:Nat}{xs:List Value}(h:Sl w (.slice (some ⟨g,0,none⟩) (n+1) cap) s (n+1) xs):Sl w (.slice (some ⟨g,s,none⟩) n (cap-1)) s n (xs.drop s):=by
  obtain⟨hl,ao,c,e,h1,h2,h3,h4⟩:=h
  cases e
  refine⟨by rw[List.length_drop,hl,Nat.add_mul];omega,_,_,rfl,om,om,xH,fun x hx hne=> ?_⟩
  cases hx
  refine⟨rfl,fun j hj=> ?_⟩
  have hx2:xs≠[]:=by intro e;rw[e]at hne;simp at hne
  have h5:=(h4 _ rfl hx2).2
  have hj2:s+j<xs.length:=by simp at hj;omega
  have:=h5 (s+j) hj2
  simp only[sM]at this
  show w.cell? ⟨g,s+j,none⟩=_
  rw[this];simp
theorem flat_drop:∀l:List BlkD,(l.drop 1).flatMap qo=(l.flatMap qo).drop 2
  |[]=>rfl
  |x::r=>by simp[qo]
theorem sl_none{w:World}{ao:Option Addr}{cap s:Nat}(hc:cap≤maxLen)(h0:ao=none→cap=0):Sl w (.slice ao 0 cap) s 0 []:=⟨by simp,ao,cap,rfl,om,hc,h0,fun _ _ hne=>absurd rfl hne⟩
structure jd (w:World) (vm vh vo:Value) (s:St):Prop where
  mach:jw w vm vh s.mach
  out:Ints .u32 w vo s.out
theorem shown_nil(w:World)(n:Nat):jd w (.slice none 0 0) (.slice none 0 0) (.slice none 0 0) ⟨[],[],[],n⟩:=
  have h:∀(s:Nat),Sl w (.slice none 0 0) s 0 []:=fun s=>⟨by simp,none,0,rfl,Nat.zero_le _,by decide,fun _=>rfl,fun a ha=>by cases ha⟩
  ⟨⟨h 1,h 37⟩,h 1⟩
theorem jd.setCells{w:World}{vm vh vo:Value}{s:St}(h:jd w vm vh vo s){b:Nat}(h1:∀k,vm.ownBlock=some k→b<k)(h2:∀k,vh.ownBlock=some k→b<k)(h3:∀k,vo.ownBlock=some k→b<k)(o:Nat)(vs:List Value):jd (w.setCells b o vs) vm vh vo s:=
  ⟨⟨jN (fun b' off n c e=>by have:=h1 b' xB;omega) _ _ _ h.mach.1,jN (fun b' off n c e=>by have:=h2 b' xB;omega) _ _ _ h.mach.2⟩,jN (fun b' off n c e=>by have:=h3 b' xB;omega) _ _ _ h.out⟩
theorem qt{w:World}{b n:Nat}{cs:Array Value}{t:TypeId}(h:w.heap[b]? =some (.cells cs t (0,0)))(hn:cs.size=n):w.there b 0 n:=fun j hj=>by
  have hj2:0+j<cs.size:=om
  exact⟨by unfold World.cell?;rw[h];simp;omega,by unfold World.frozen?;rw[h];simp⟩
section
variable {bp bh hc cp k : Nat} {vm vo : Value} {ty : TypeId} {o0 o : List Int} {fr tw : Int} {w w' : World} {s : St}
theorem Bd.shown(h:Bd bp bh hc vm vo ty w s)(hw:∀x∈s.harts,x.Wf):jd w vm (.slice (some ⟨bh,0,none⟩) s.harts.length hc) vo s:=by
  refine⟨⟨h.bytes, ?_,_,hc,rfl,h.hcap.1,h.hcap.2,xH,fun a ha _=> ?_⟩,ql h.own⟩
  · show(s.harts.flatMap qJ).length=s.harts.length*37
    have:∀l:List Hart,(∀x∈l,x.Wf)→(l.flatMap qJ).length=l.length*37:=fun l=>by
      induction l with
      |nil=>intro _;rfl
      | cons x r ih =>
        intro hx
        rw[List.flatMap_cons,sW,ih (fun y hy=>hx y (by simp[hy])),qG (hx x zC),List.length_cons]
        omega
    exact this _ hw
  · cases ha
    exact⟨rfl,h.harts⟩
theorem Wk.finish{w1 w0:World}{B z:Nat}{v3:Value}(h:Wk bp bh hc cp k vm vo ty o0 o fr tw w s)(h3:s.out=o0++o)(hB:Below B w0 w)(hBb:B≤bp)(hz:z<bp)
    (hown:w1.ownsRow (bp+1) ty 1 v3 (o0.length+o.length) (o0.map (Value.int .u32)++o.map (Value.int .u32))) (hg:w.drew.grownBy w1 vo.ownBlock):
    Bd bp bh hc vm v3 ty (w1.setCell ⟨bp,2,none⟩ v3) s∧Below B w0 (w1.setCell ⟨bp,2,none⟩ v3)∧(w1.setCell ⟨bp,2,none⟩ v3).heap[z]? =w.heap[z]? ∧w.heap.size≤(w1.setCell ⟨bp,2,none⟩ v3).heap.size:=by
  have hbw:=Nat.lt_trans h.b2 h.clt
  have hlo:∀g,vo.ownBlock=some g→bp+1≤g:=fun g e=>(h.own.lt g e).1
  have hbd:=(h.below (w':=w.drew) (Below.drew br)).stop hown hg
  have e3:({s with out:=o0++o}:St)=s:=by rw[←h3]
  rw[e3]at hbd
  have hsz:w.heap.size≤w1.heap.size:=hg.size
  refine⟨hbd,(hB.drew.grown hg (by show B≤w.heap.size;omega) (fun g e=>by have:=hlo g e;omega)).setCell (p:=⟨bp,2,none⟩) hBb _, ?_,by simpa using hsz⟩
  exact(sT _ _ _ _ (by show z≠bp;omega)).trans (hg.block z (by show z<w.heap.size;omega) (fun e=>by have:=hlo _ e.symm;omega))
theorem Wk.any(h:Wk bp bh hc cp k vm vo ty o0 o fr tw w s)(x:List Int):Wk bp bh hc cp k vm vo ty o0 o fr tw w {s with out:=x}:=
  ⟨h.core,h.b1,h.b2,h.c0,h.c1,h.c2,h.c3,h.frz,h.harts,h.mlt,h.own,h.vlt,h.kl,h.hcap⟩
end
theorem PB.begin{w:World}{B bp bh hc:Nat}{vm x:Value}{t ty:TypeId}{m:Mach}(b1:bp<B)(b2:bp<bh)(c0:w.cell? ⟨bp,0,none⟩=some vm)(c1:w.cell? ⟨bp,1,none⟩=some x)(c2:w.cell? ⟨bp,2,none⟩=some (.slice none 0 0))(c3:w.cell? ⟨bp,3,none⟩=some (.int .i64 0))
    (frz:∀o,w.frozen? ⟨bp,o,none⟩=false) (hm:w.ownsRow B t 1 vm m.mem.length (m.mem.map (Value.int .u8))) (hvm:∀k,vm.ownBlock=some k→k≠bh) (hat:At w bh 0 (m.harts.flatMap qJ)) (hlt:bh<w.heap.size) (hfz:∀o,w.frozen? ⟨bh,o,none⟩=false) (hcap:m.harts.length≤hc∧hc≤maxLen):
    PB bp bh hc vm (.slice none 0 0) ty (w.setCell ⟨bp,1,none⟩ (.slice (some ⟨bh,0,none⟩) m.harts.length hc)) (qN m):=by
  have hc:∀j,j≠1→(w.setCell ⟨bp,1,none⟩ (.slice (some ⟨bh,0,none⟩) m.harts.length hc)).cell? ⟨bp,j,none⟩=w.cell? ⟨bp,j,none⟩:=fun j hj=>sJ _ _ _ _ zD
  refine⟨b2,(hc 0 om).trans c0,sK _ _ _ c1,(hc 2 om).trans c2,(hc 3 om).trans c3,fun o=>(sL _ _ _ _).trans (frz o),hat.set_other (by show bp≠bh;omega) _,by simpa using hlt,fun o=>(sL _ _ _ _).trans (hfz o), ?_,fun _ k e=>⟨?_,hvm k e,by intro e2;cases e2⟩,World.ownsRow_nil _ _ _ _,hcap⟩
  · exact jI (by have:=ql hm;unfold Ints;exact this) (fun _ g hg=>sT _ _ _ _ (by show g≠bp;have:=hm.lt g hg;omega))
  · have:=hm.lt k e;omega
section
variable {bp bh hc : Nat} {vm vo : Value} {ty : TypeId} {w : World} {s : St}
theorem PB.shown(h:PB bp bh hc vm vo ty w s)(hw:∀x∈s.harts,x.Wf):jd w vm (.slice (some ⟨bh,0,none⟩) s.harts.length hc) vo s:=by
  refine⟨⟨h.bytes, ?_,_,hc,rfl,h.hcap.1,h.hcap.2,xH,fun a ha _=> ?_⟩,ql h.own⟩
  · exact flatMap_length qJ 37 (fun x hx=>qG (hw x hx))
  · cases ha
    exact⟨rfl,h.harts⟩
theorem PB.hart(h:PB bp bh hc vm vo ty w s)(wf:s.Wf){k:Nat}(hk:k<s.harts.length):At w bh (k*37) (qJ (s.hart k)):=by
  rw[St.hart_at hk]
  exact jc h.harts (fun x hx=>qG (wf.harts x hx)) hk
end
theorem qT{b j:Nat}(hj:j≠b):∀(vs:List Value) (o:Nat) (w:World),(w.setCells b o vs).heap[j]? =w.heap[j]?
  |[],_,_=>rfl
  |v::r,o,w=>by rw[World.setCells,qT hj r];exact sT _ _ _ _ (by show j≠b;exact hj)
theorem qv{w:World}{b o:Nat}{vs:List Value}(h:w.there b o vs.length):At (w.setCells b o vs) b o vs:=fun j hj=>
  World.rangeAt_setCells_same w b o vs h j vs[j] (by simp[hj])
theorem PB.far{bp bh hc b:Nat}{vm vo:Value}{ty:TypeId}{w:World}{s:St}(h:PB bp bh hc vm vo ty w s)(hb:b<bp)(o:Nat)(vs:List Value):PB bp bh hc vm vo ty (w.setCells b o vs) s:=by
  have b1:=h.b1
  have hk:∀g,bp≤g→(w.setCells b o vs).heap[g]? =w.heap[g]? :=fun g hg=>qT om _ _ _
  exact⟨h.b1,(qA (hk bp (sN _)) _).trans h.c0,(qA (hk bp (sN _)) _).trans h.c1,(qA (hk bp (sN _)) _).trans h.c2,(qA (hk bp (sN _)) _).trans h.c3,fun o=>(qK (hk bp (sN _)) o).trans (h.frz o),fun j hj=>(qA (hk bh om) _).trans (h.harts j hj),by simpa[QK]using h.hlt,fun o=>(qK (hk bh om) o).trans (h.hfz o),jI h.bytes (fun hne g hg=>hk g (by have:=(h.mlt hne g hg).1;omega)),h.mlt,qI h.own (fun g hg=>hk g (by have:=(h.own.lt g hg).1;omega)),h.hcap⟩
theorem jM.lay{w:World}{d:DidD}{c:qF}(h:jM w d c)(ok:d.Ok){bd:Nat}(hm:c.m≠[]→∀g,d.vm.ownBlock=some g→g≠bd)(ho:c.out≠[]→∀g,d.vo.ownBlock=some g→g≠bd)(ht:w.there bd 0 41):
    jM (w.setCells bd 0 (uM d)) d c∧At (w.setCells bd 0 (uM d)) bd 0 (uM d):=
  ⟨⟨h.h,jI h.m (fun hne g hg=>qT (hm hne g hg) _ _ _),jI h.o (fun hne g hg=>qT (ho hne g hg) _ _ _),h.fr,h.many⟩,qv (by rw[dlist_len ok];exact ht)⟩
def Qz(w:World)(g:Nat)(t:TypeId)(n:Nat):Prop:=∃cur:Array Value,w.heap[g]? =some (.cells cur t (0,0))∧cur.size=n
section
variable {w w' : World} {g : Nat} {t : TypeId} {n : Nat}
theorem Qz.lt(h:Qz w g t n):g<w.heap.size:=by obtain⟨cur,e,_⟩:=h;exact(Array.getElem?_eq_some_iff.1 e).1
theorem Qz.block(h:Qz w g t n)(e:w'.heap[g]? =w.heap[g]?):Qz w' g t n:=by obtain⟨cur,h1,h2⟩:=h;exact⟨cur,e.trans h1,h2⟩
theorem Qz.setCell(h:Qz w g t n)(p:Addr)(u:Value):Qz (w.setCell p u) g t n:=by
  by_cases e:g=p.block
  · subst e
    obtain⟨cur,h1,h2⟩:=h
    cases hs:p.spot with
    |none=>exact⟨cur.setIfInBounds p.off u,by simp[World.setCell,Array.getElem?_modify,hs,h1],by simpa using h2⟩
    |some s=>exact⟨cur,by simp[World.setCell,Array.getElem?_modify,hs,h1],h2⟩
  · exact h.block (sT _ _ _ _ e)
theorem Qz.setCells(b:Nat):∀(vs:List Value) (o:Nat) {w:World},Qz w g t n→Qz (w.setCells b o vs) g t n
  |[],_,_,h=>h
  |v::r,o,_,h=>Qz.setCells b r (o+1) (h.setCell ⟨b,o,none⟩ v)
theorem Qz.frozen(h:Qz w g t n)(o:Nat):w.frozen? ⟨g,o,none⟩=false:=by obtain⟨cur,h1,_⟩:=h;simp[World.frozen?,h1]
theorem Qz.isSome(h:Qz w g t n){o:Nat}(ho:o<n):(w.cell? ⟨g,o,none⟩).isSome=true:=by obtain⟨cur,h1,h2⟩:=h;simp[World.cell?,h1];omega
theorem Qz.there(h:Qz w g t n){o m:Nat}(ho:o+m≤n):w.there g o m:=fun j hj=>⟨h.isSome om,h.frozen _⟩
theorem Qz.owns{B s k cap:Nat}{xs:List Value}(h:Qz w g t (cap*s))(hat:At w g 0 xs)(hl:xs.length=k*s)(hk:k≤cap)(hc:cap≤maxLen)(hB:B≤g):w.ownsRow B t s (.slice (some ⟨g,0,none⟩) k cap) k xs:=by
  obtain⟨cur,h1,h2⟩:=h
  refine⟨hl,.inr ⟨g,cap,cur,rfl,hB,h1,hk,hc,h2, ?_⟩⟩
  have hks:k*s≤cap*s:=Nat.mul_le_mul_right s hk
  refine List.ext_getElem (by simp[hl];omega) (fun i h3 h4=> ?_)
  have:=hat i h4
  rw[sM]at this
  have hci:i<cur.size:=om
  have h6:w.cell? ⟨g,i,none⟩=Option.some cur[i]:=by simp[World.cell?,h1,hci]
  rw[h6]at this
  have h7:=Option.some.inj this
  simpa using h7
theorem shape_of{B s k:Nat}{v:Value}{xs:List Value}(h:w.ownsRow B t s v k xs)(hk:0<k):∃cap,v=.slice (some ⟨v.ownBlock.getD 0,0,none⟩) k cap∧B≤v.ownBlock.getD 0∧k≤cap∧cap≤maxLen∧Qz w (v.ownBlock.getD 0) t (cap*s)∧At w (v.ownBlock.getD 0) 0 xs:=by
  rcases jF h with⟨_,e,_⟩|⟨g,cap,rfl,hB,hg,hn,hm,hat,_⟩
  · omega
  · obtain⟨_,h2⟩:=h
    rcases h2 with⟨e,_⟩|⟨g',cap',cur,e,_,h1,_,_,h4,_⟩
    · cases e
    · cases e
      exact⟨cap,rfl,hB,hn,hm,⟨cur,h1,h4⟩,hat⟩
end
theorem shape_apart{w:World}{g n B s k:Nat}{t t':TypeId}{v:Value}{xs:List Value}(h:Qz w g t n)(h':w.ownsRow B t' s v k xs)(hne:t≠t'):∀j,v.ownBlock=some j→j≠g:=by
  intro j hj e
  subst e
  obtain⟨cur,h1,_⟩:=h
  rcases h'.2 with⟨rfl,_⟩|⟨g2,_,c2,rfl,_,e2,_⟩
  · cases hj
  · cases hj
    rw[h1]at e2
    cases e2
    exact hne rfl
structure Dl (B:Nat) (TB TI:TypeId) (g cap:Nat) (w0 w:World) (ys:List BlkD) (kept:List BlkD) (j:Nat):Prop where
  shape:Qz w g TB (cap*2)
  front:At w g 0 (kept.flatMap qo)
  rest:∀q (hq:q<ys.length),j≤q→At w g (q*2) (qo ys[q])
  row:∀y∈ys,w.ownsRow B TI 5 y.vi y.ins.length (y.ins.flatMap jJ)
  bel:Below B w0 w
section
variable {B : Nat} {TB TI : TypeId} {g cap j : Nat} {w0 w w' : World} {ys kept : List BlkD}
theorem cG{p:Prop}(h:p:=by
 have:ys.flatMap qo=(ys.take k).flatMap qo++(ys.drop k).flatMap qo:=by rw[←List.flatMap_append,List.take_append_drop]
 rw[this]at hat
 exact hat.append_left):p:=h
theorem Dl.begin{v:Value}(h:Cp B TB TI w v ys)(hl:0<ys.length):∃g cap,v=.slice (some ⟨g,0,none⟩) ys.length cap∧B≤g∧ys.length≤cap∧cap≤maxLen∧∀k,(hk:k≤ys.length)→Dl B TB TI g cap w w ys (ys.take k) k:=by
  obtain⟨cap,e,hB,hc,hm,hs,hat⟩:=shape_of h.own hl
  refine⟨_,cap,e,hB,hc,hm,fun k hk=>⟨hs, ?_,fun q hq _=> ?_,h.row,Below.refl _ _⟩⟩
  · exact cG
  · have:=At.elem qo 2 (fun _ _=>rfl) hat q hq
    simpa using this
theorem Dl.below(h:Dl B TB TI g cap w0 w ys kept j)(hB:B≤w.heap.size)(hb:Below w.heap.size w w'):Dl B TB TI g cap w0 w' ys kept j:=
  ⟨h.shape.block (hb.block g h.shape.lt),h.front.below hb,fun q hq hj=>(h.rest q hq hj).below hb,fun y hy=>qP (h.row y hy) hb,h.bel.trans (hb.mono hB)⟩
theorem Dl.skip(h:Dl B TB TI g cap w0 w ys kept j):Dl B TB TI g cap w0 w ys kept (j+1):=⟨h.shape,h.front,fun q hq hj=>h.rest q hq om,h.row,h.bel⟩
theorem jK:∀l:List BlkD,(l.flatMap qo).length=l.length*2
  |[]=>rfl
  |x::r=>by rw[List.flatMap_cons,sW,jK r,List.length_cons];simp[qo];omega
theorem Dl.keep(hne:TB≠TI)(hBg:B≤g)(h:Dl B TB TI g cap w0 w ys kept j)(x:BlkD)(hk:kept.length≤j)(hjc:j<cap):
    Dl B TB TI g cap w0 ((w.setCell ⟨g,kept.length*2,none⟩ (.int .u32 x.pc)).setCell ⟨g,kept.length*2+1,none⟩ x.vi) ys (kept++[x]) (j+1):=by
  have hs0:=h.shape.isSome (o:=kept.length*2) om
  have hs1:=h.shape.isSome (o:=kept.length*2+1) om
  obtain⟨u0,hu0⟩:=Option.isSome_iff_exists.1 hs0
  obtain⟨u1,hu1⟩:=Option.isSome_iff_exists.1 hs1
  have hoff:∀o,o≠kept.length*2→o≠kept.length*2+1→((w.setCell ⟨g,kept.length*2,none⟩ (.int .u32 x.pc)).setCell ⟨g,kept.length*2+1,none⟩ x.vi).cell? ⟨g,o,none⟩=w.cell? ⟨g,o,none⟩:=fun o h1 h2=>by
    rw[sJ _ _ _ _ (by intro e;injection e with _ e2;exact h2 e2.symm),sJ _ _ _ _ (by intro e;injection e with _ e2;exact h1 e2.symm)]
  refine⟨(h.shape.setCell _ _).setCell _ _, ?_,fun q hq hj i hi=> ?_,fun y hy=> ?_,(h.bel.setCell (p:=⟨g,kept.length*2,none⟩) hBg _).setCell (p:=⟨g,kept.length*2+1,none⟩) hBg _⟩
  · rw[List.flatMap_append]
    refine At.append (fun i hi=> ?_) ?_
    · have hl:=jK kept
      rw[hoff _ om om]
      exact h.front i hi
    · rw[jK,sM]
      intro i hi
      have hi2:i<2:=hi
      match i,hi with
      |0,_=>exact(sJ _ _ _ _ zD).trans (sK _ _ _ hu0)
      |1,_=>exact sK _ _ _ ((sJ _ _ _ _ zD).trans hu1)
  · have hi2:i<2:=hi
    rw[hoff _ om om]
    exact h.rest q hq om i hi
  · refine qI (h.row y hy) (fun k hk=> ?_)
    have:=shape_apart h.shape (h.row y hy) hne k hk
    rw[sT _ _ _ _ (by show k≠g;exact this),sT _ _ _ _ (by show k≠g;exact this)]
theorem Dl.finish(hne:TB≠TI)(hBg:B≤g)(h:Dl B TB TI g cap w0 w ys kept j)(hsub:∀y∈kept,y∈ys)(hpc:∀y∈ys,U32 y.pc)(hk:kept.length≤cap)(hm:cap≤maxLen)(zs:List Value):
    Cp B TB TI (w.setCells g (kept.length*2) zs) (.slice (some ⟨g,0,none⟩) kept.length cap) kept∧Below B w0 (w.setCells g (kept.length*2) zs):=by
  refine⟨⟨(Qz.setCells g zs _ h.shape).owns (fun i hi=> ?_) (jK _) hk hm hBg,fun y hy=>hpc y (hsub y hy),fun y hy=>qI (h.row y (hsub y hy)) (fun k hk=>qT (shape_apart h.shape (h.row y (hsub y hy)) hne k hk) _ _ _)⟩,qL hBg _ _ _ h.bel⟩
  have hl:=jK kept
  rw[World.cell?_setCells_out _ _ _ _ _ (fun _ hs=>by left;show 0+i<_;omega)]
  exact h.front i hi
end
theorem uz{P:Program}{ops:Array Oper}{rest:List Oper}{o:Oper}{a:Act}{w:World}{Q:Exit→Act→World→Prop}(hgd:o.guard=none)(x:Operand)(t e:TypeId)
    (ho:o.op=.call {callee:=.builtin .clear,args:=#[x],argTypes:=#[t]}) (i:TypeInfo) (z:Value) (size:Nat) (ht:P.underlying t=some (.slice e)) (hi:P.info? e=some i) (hz:i.zero=some z) (hzs:z.cells.size=size)
    (hz1:∀v∈z.cells.toList,v.oneCell'=true)
    (g off n c:Nat) (hx:a.eval x=.slice (some ⟨g,off,none⟩) n c) (hth:w.there g off (n*size))
    (h:∀zs:List Value,zs.length=n*size→wpList P ops Q rest (a.put o.dst (.tuple #[])) (w.setCells g off zs)):wpList P ops Q (o::rest) a w:=by
  refine wpList_plain hgd fun K hK=> ?_
  have hr:∃zs:List Value,zs.length=n*size∧(Builtin.clear_ #[t] o.type #[.slice (some ⟨g,off,none⟩) n c]).run P w=.ok (.tuple #[]) (w.setCells g off zs):=by
    by_cases h0:n=0
    · subst h0
      exact⟨[],by simp,by simp[Builtin.clear_,run_underlying ht,World.setCells]⟩
    · have hone:∀v∈(Builtin.zeroCells z.cells n).toList,v.oneCell'=true:=by
        intro v hv
        unfold Builtin.zeroCells at hv
        simp only[Array.toList_map,List.mem_map]at hv
        obtain⟨j,_,rfl⟩:=hv
        have hpos:0<z.cells.size:=by
          rcases Nat.eq_zero_or_pos z.cells.size with e|e
          · rename_i hj
            rw[e]at hj;simp at hj
          · exact e
        have hlt:=Nat.mod_lt j hpos
        rw[getElem!_pos z.cells _ hlt]
        exact hz1 _ zC
      have hsz:(Builtin.zeroCells z.cells n).toList.length=n*size:=by simp[size_zeroCells,hzs]
      have hst:=run_storeCells_cells (P:=P) g off (Builtin.zeroCells z.cells n).toList 0 w (fun j hj=>by simpa using (hth j om).1) (fun j hj=>by simpa using (hth j om).2) hone
      refine⟨_,hsz, ?_⟩
      obtain⟨m,rfl⟩:∃m,n=m+1:=⟨n-1,om⟩
      simp[Builtin.clear_,run_underlying ht,zeroValue,typeInfo,hi,hz,hst]
  obtain⟨zs,hl,hr⟩:=hr
  unfold Oper.wp execOp
  simp only[ho,resolve,invoke,builtin,Sem.run_bind,Sem.run_pure,Result.andThen_ok,List.map_toArray,List.map_cons,List.map_nil,hx,hr]
  exact hK _ _ (h zs hl)
theorem step_append_fit{P:Program}{w:World}{ops:Array Oper}{o:Oper}{a:Act}{K:Act→World→Prop}{Q:Exit→Act→World→Prop}{E:Prop}(hgd:o.guard=none)(s x:Operand)(t:TypeId)
    (ho:o.op=.call {callee:=.builtin .append,args:=#[s,x],argTypes:=#[t,t]})
    (e:TypeId) (i:TypeInfo) (size:Nat) (ht:P.underlying t=some (.slice e)) (hi:P.info? e=some i) (hsize:i.size=size)
    (g n cap:Nat) (hs:a.eval s=.slice (some ⟨g,0,none⟩) n cap)
    (ad:Addr) (m c:Nat) (news:List Value) (hx:a.eval x=.slice (some ad) m c) (hl:news.length=m*size) (hnews:∀j u,news[j]? =some u→w.cell? (ad.add j)=some u) (h1:∀u∈news,u.oneCell'=true)
    (hroom:n+m≤cap) (r:Nat) (hr:n+m=r) (hth:w.there g (n*size) news.length)
    (h:K (a.put o.dst (.slice (some ⟨g,0,none⟩) r cap)) (w.setCells g (n*size) news)):
    if Region.wanted o (yielded ops a.tmps)=true then Oper.wp P o a w K Q else E:=by
  have hw:Region.wanted o (yielded ops a.tmps)=true:=wA
  rw[if_pos hw]
  subst hsize
  subst hr
  have hrun:=run_append_room_cells (P:=P) w t o.type e i ht hi g 0 n cap ad m c news hl hnews h1 hroom (fun j hj=>by rw[sM];exact(hth j hj).1) (fun j hj=>by rw[sM];exact(hth j hj).2)
  rw[sM]at hrun
  unfold Oper.wp
  simp[execOp,ho,resolve,invoke,builtin,hs,hx,hrun,Result.andThen]
  exact h
section
variable {B : Nat} {TB TI : TypeId} {g cap k : Nat} {w : World} {ys : List BlkD} {v : Value}
theorem Cp.erase(hne:TB≠TI)(h:Cp B TB TI w (.slice (some ⟨g,0,none⟩) ys.length cap) ys)(hBg:B≤g)(hk:k<ys.length)(hc:ys.length≤cap)(hm:cap≤maxLen)(hs:Qz w g TB (cap*2))(hat:At w g 0 (ys.flatMap qo))(zs:List Value):
    Cp B TB TI ((w.setCells g (k*2) ((ys.drop (k+1)).flatMap qo)).setCells g ((ys.length-1)*2) zs) (.slice (some ⟨g,0,none⟩) (ys.length-1) cap) (ys.eraseIdx k)∧Below B w ((w.setCells g (k*2) ((ys.drop (k+1)).flatMap qo)).setCells g ((ys.length-1)*2) zs):=by
  have hl2:(ys.eraseIdx k).length=ys.length-1:=by rw[List.length_eraseIdx];simp[hk]
  have hln:=jK (ys.drop (k+1))
  have hlt:=jK (ys.take k)
  have hlk:(ys.take k).length=k:=zL
  have hld:(ys.drop (k+1)).length=ys.length-(k+1):=zC
  have hsub:∀y∈ys.eraseIdx k,y∈ys:=fun y hy=>List.mem_of_mem_eraseIdx hy
  have hsh:=Qz.setCells g zs ((ys.length-1)*2) (Qz.setCells g ((ys.drop (k+1)).flatMap qo) (k*2) hs)
  have hatt:At w g 0 ((ys.take k).flatMap qo):=by
    exact cG
  refine⟨⟨?_,fun y hy=>h.pc y (hsub y hy),fun y hy=>qI (h.row y (hsub y hy)) (fun j hj=> ?_)⟩,qL hBg _ _ _ (qL hBg _ _ _ br)⟩
  · rw[hl2]
    refine hsh.owns (fun i hi=> ?_) (by rw[jK,hl2]) om hm hBg
    have hi2:=hi
    rw[jK,hl2]at hi2
    rw[World.cell?_setCells_out _ _ _ _ _ (fun _ hs=>by left;show 0+i<_;omega)]
    have e:(ys.eraseIdx k).flatMap qo=(ys.take k).flatMap qo++(ys.drop (k+1)).flatMap qo:=by rw[List.eraseIdx_eq_take_drop_succ,List.flatMap_append]
    have key:At (w.setCells g (k*2) ((ys.drop (k+1)).flatMap qo)) g 0 ((ys.eraseIdx k).flatMap qo):=by
      rw[e]
      refine At.append (fun i hi=> ?_) ?_
      · rw[World.cell?_setCells_out _ _ _ _ _ (fun _ hs=>by left;show 0+i<_;omega)]
        exact hatt i hi
      · rw[hlt,hlk,sM]
        exact qv (hs.there (by rw[hln,hld];omega))
    exact key i hi
  · have:=shape_apart hs (h.row y (hsub y hy)) hne j hj
    rw[qT this,qT this]
end
section
variable {B TB h : Nat} {w w6 w8 w9 : World} {zs : List BlkD} {v : Value} {xs : List Value} {n : Nat}
theorem put_below(hb68:Below w6.heap.size w6 w8)(hown:w8.ownsRow B TB 2 v n xs)(hg:w8.grownBy w9 v.ownBlock)(hB:B≤w6.heap.size):Below B w6 w9:=
  have e:∀k,k<B→w9.heap[k]? =w8.heap[k]? :=fun k hk=>hg.block k (by have:=hb68.size;omega) (fun e=>by have:=(hown.lt k e.symm).1;omega)
  ⟨hg.os.trans hb68.os,hg.tape.trans hb68.tape,hg.output.trans hb68.output,Nat.le_trans hb68.size hg.size,fun k hk=>(e k hk).trans (hb68.block k om)⟩
end
theorem put_tail{B TB TI T h:Nat}{w w6 w8 w9:World}{zs:List BlkD}{z y:BlkD}{room pu st:Int}{aX aY:Option Addr}{cX cY:Nat}(hne:TB≠TI)(hhB:h+3≤B)(hB6:B≤w6.heap.size)(hcp:Cp B TB TI w8 (.slice aX zs.length cX) zs)(hb6:Below h w w6)
    (hf6:∀o,w6.frozen? ⟨h,o,none⟩=false) (hz6:w6.heap[h+1+1]? =some (.cells #[.int .i64 0,.slice none 0 0,.int .i64 0,.int .i64 0] T (0,0))) (g:At w6 h 0 [.int .i64 room,.slice aX zs.length cX,.int .i64 pu,.int .i64 st])
    (hb68:Below w6.heap.size w6 w8) (hzp:U32 z.pc) (hzr:w8.ownsRow B TI 5 z.vi z.ins.length (z.ins.flatMap jJ)) (hza:z.abs=y.abs) (hown:w9.ownsRow B TB 2 (.slice aY (zs.length+1) cY) (zs.length+1) (zs.flatMap qo++qo z)) (hg:w8.grownBy w9 (Value.slice aX zs.length cX).ownBlock):
    Cp B TB TI (w9.setCell ⟨h,1,none⟩ (.slice aY (zs.length+1) cY)) (.slice aY (zs.length+1) cY) (zs++[z])∧z.abs=y.abs∧Below h w (w9.setCell ⟨h,1,none⟩ (.slice aY (zs.length+1) cY))∧(∀o,(w9.setCell ⟨h,1,none⟩ (.slice aY (zs.length+1) cY)).frozen? ⟨h,o,none⟩=false)∧(w9.setCell ⟨h,1,none⟩ (.slice aY (zs.length+1) cY)).heap[h+1+1]? =some (.cells #[.int .i64 0,.slice none 0 0,.int .i64 0,.int .i64 0] T (0,0))∧At (w9.setCell ⟨h,1,none⟩ (.slice aY (zs.length+1) cY)) h 0 [.int .i64 room,.slice aY (zs.length+1) cY,.int .i64 pu,.int .i64 st]∧w6.heap.size≤(w9.setCell ⟨h,1,none⟩ (.slice aY (zs.length+1) cY)).heap.size:=by
  have hb:=put_below hb68 hcp.own hg hB6
  have hb9:Below h w6 w9:=hb.mono om
  refine⟨(Cp.snoc hne hcp hzp hzr hown hg).set (show h<B by omega) _,hza,(hb6.trans (hb9.mono (sN _))).setCell (p:=⟨h,1,none⟩) (sN _) _,fun o=> ?_, ?_, ?_, ?_⟩
  · rw[sL,hb.frozen (p:=⟨h,o,none⟩) (show h<B by omega)];exact hf6 o
  · rw[sT _ _ _ _ (by show h+1+1≠h;omega),hb.block _ om];exact hz6
  · have g9:At w9 h 0 [.int .i64 room,.slice aX zs.length cX,.int .i64 pu,.int .i64 st]:=fun j hj=>(hb.cell (p:=⟨h,0+j,none⟩) (show h<B by omega)).trans (g j hj)
    have:=g9.set 1 zC (.slice aY (zs.length+1) cY)
    exact this
  · simpa using hb.size
theorem put_fin{room:Int}{ys l zs:List BlkD}{y z:BlkD}(hab:ys.map BlkD.abs=l.map BlkD.abs)(hz:z.abs=y.abs)(hzs:zs=dq (qu ys y.pc) ys)(pu:Int):
    (room<((zs.length+1:Nat):Int)→((zs++[z]).drop 1).map BlkD.abs=(putL room l y).map BlkD.abs∧putP room pu l y=wrap64 (pu+1))∧(¬room<((zs.length+1:Nat):Int)→(zs++[z]).map BlkD.abs=(putL room l y).map BlkD.abs∧putP room pu l y=pu):=by
  obtain⟨h1,h2⟩:=put_abs (room:=room) hab hz
  have hp:z.pc=y.pc:=congrArg Prod.fst hz
  have hl:((dq (qu ys z.pc) ys++[z]).length:Int)=((zs.length+1:Nat):Int):=by rw[hp,←hzs];simp
  rw[←h1,←h2 pu]
  unfold putL putP
  rw[hl,hp,←hzs]
  refine⟨fun h=> ?_,fun h=> ?_⟩
  · rw[if_pos h,if_pos h];exact⟨rfl,rfl⟩
  · rw[if_neg h,if_neg h];exact⟨rfl,rfl⟩
def pcs(l:List BlkD):List Int:=l.map (·.pc)
theorem pcs_abs{l l':List BlkD}(h:l.map BlkD.abs=l'.map BlkD.abs):pcs l=pcs l':=by
  have:∀l:List BlkD,pcs l=(l.map BlkD.abs).map Prod.fst:=fun l=>by unfold pcs;rw[List.map_map];rfl
  rw[this,this,h]
theorem len_abs{l l':List BlkD}(h:l.map BlkD.abs=l'.map BlkD.abs):l.length=l'.length:=by have:=congrArg List.length h;simpa using this
theorem ins_abs{n:Nat}{l l':List BlkD}(h:l.map BlkD.abs=l'.map BlkD.abs)(hi:∀x∈l',x.ins.length≤n):∀x∈l,x.ins.length≤n:=fun x hx=>by
  obtain⟨y,hy,e⟩:=List.mem_map.1 (show x.abs∈l'.map BlkD.abs by rw[←h];exact List.mem_map_of_mem hx)
  have e2:y.ins=x.ins:=congrArg Prod.snd e
  rw[←e2];exact hi y hy
theorem nodup_inj{l:List Int}(hd:l.Nodup){i j:Nat}(hi:i<l.length)(hj:j<l.length)(e:l[i]=l[j]):i=j:=by
  rcases Nat.lt_trichotomy i j with h|h|h
  · exact absurd e (List.pairwise_iff_getElem.1 hd i j hi hj h)
  · exact h
  · exact absurd e.symm (List.pairwise_iff_getElem.1 hd j i hj hi h)
theorem pcs_inj{l:List BlkD}(hd:(pcs l).Nodup){i j:Nat}(hi:i<l.length)(hj:j<l.length)(e:l[i].pc=l[j].pc):i=j:=by
  have h:(l.map (·.pc)).Nodup:=hd
  exact nodup_inj h (by simpa using hi) xW (by simp only[List.getElem_map];exact e)
theorem dq_not{l:List BlkD}{pc:Int}(hd:(pcs l).Nodup):∀x∈dq (qu l pc) l,x.pc≠pc:=by
  intro x hx
  unfold dq qu at hx
  by_cases h:Qo l pc<l.length
  · rw[if_pos h]at hx
    rw[if_pos om,sV]at hx
    intro e
    have hp:(l[Qo l pc].pc==pc)=true:=List.findIdx_getElem (p:=fun x:BlkD=>x.pc==pc) (xs:=l) (w:=h)
    have hp2:l[Qo l pc].pc=pc:=by simpa using hp
    obtain⟨i,hi,hne,rfl⟩:∃i,∃hi:i<l.length,i≠Qo l pc∧l[i]=x:=by
      obtain⟨j,hj,e2⟩:=List.mem_iff_getElem.1 hx
      rw[List.getElem_eraseIdx]at e2
      split at e2
      · exact⟨j,om,om,e2⟩
      · rename_i hjj
        have hj3:=hj
        rw[List.length_eraseIdx]at hj3
        simp only[h,if_true]at hj3
        exact⟨j+1,om,om,e2⟩
    exact hne (pcs_inj hd hi h (by rw[e,hp2]))
  · rw[if_neg h,if_neg om]at hx
    intro e
    have:(pcs l).length=(pcs l).length:=rfl
    refine h ?_
    unfold Qo
    exact List.findIdx_lt_length_of_exists ⟨x,hx,by simp[e]⟩
theorem dq_sub(q:Int)(l:List BlkD):(dq q l).Sublist l:=by
  unfold dq;split
  · exact List.eraseIdx_sublist l q.toNat
  · exact List.Sublist.refl _
theorem pcs_sub{l l':List BlkD}(h:l.Sublist l')(hd:(pcs l').Nodup):(pcs l).Nodup:=List.Sublist.nodup (h.map _) hd
theorem pcs_snoc{l:List BlkD}{y:BlkD}(hd:(pcs l).Nodup)(hn:∀x∈l,x.pc≠y.pc):(pcs (l++[y])).Nodup:=by
  unfold pcs
  rw[List.map_append,List.nodup_append]
  refine⟨hd,by simp, ?_⟩
  intro a ha b hb
  obtain⟨x,hx,rfl⟩:=List.mem_map.1 ha
  simp only[List.map_cons,List.map_nil,List.mem_singleton]at hb
  rw[hb];exact hn x hx
theorem putL_keeps{room:Int}{l:List BlkD}{y:BlkD}(h0:0≤room)(hl:(l.length:Int)≤room)(hd:(pcs l).Nodup)(hi:∀x∈l,x.ins.length≤16)(hy:y.ins.length≤16):
    (pcs (putL room l y)).Nodup∧((putL room l y).length:Int)≤room∧(∀x∈putL room l y,x.ins.length≤16)∧(0<room→∃A,putL room l y=A++[y]∧∀x∈A,x.pc≠y.pc):=by
  have hnd:=pcs_snoc (pcs_sub (dq_sub (qu l y.pc) l) hd) (dq_not (pc:=y.pc) hd)
  have hln:=dq_len (qu l y.pc) l
  have hii:∀x∈dq (qu l y.pc) l++[y],x.ins.length≤16:=fun x hx=>by
    rcases List.mem_append.1 hx with hx|hx
    · exact hi x (dq_mem hx)
    · rw[List.mem_singleton]at hx;rw[hx];exact hy
  unfold putL
  split
  · rename_i hgt
    refine⟨pcs_sub (List.drop_sublist _ _) hnd,by simp;omega,fun x hx=>hii x (List.mem_of_mem_drop hx),fun hp=> ?_⟩
    simp only[sW,List.length_cons,List.length_nil]at hgt
    have hne:1≤(dq (qu l y.pc) l).length:=om
    refine⟨(dq (qu l y.pc) l).drop 1,by rw[List.drop_append_of_le_length hne],fun x hx=>dq_not hd x (List.mem_of_mem_drop hx)⟩
  · rename_i hgt
    exact⟨hnd,om,hii,fun _=>⟨_,rfl,dq_not hd⟩⟩
theorem blks_sets{w:World}{v:Value}{l:List BlkD}{B b:Nat}(h:Blks w v l)(hf:Far B v l)(hb:b<B)(o:Nat)(us:List Value):Blks (w.setCells b o us) v l:=
  ⟨jN (fun b' off n c e=>by have:=hf.1 b' xB;omega) _ _ _ h.1,fun x hx=>⟨jN (fun b' off n c e=>by have:=hf.2 x hx b' xB;omega) _ _ _ (h.2 x hx).at_,(h.2 x hx).pc⟩⟩
structure CK (cb:Nat) (room:Int) (w wr:World) (v:Value) (zs:List BlkD) (pu st:Int):Prop where
  at_:At wr cb 0 [.int .i64 room,v,.int .i64 pu,.int .i64 st]
  frz:∀o,wr.frozen? ⟨cb,o,none⟩=false
  blks:Blks wr v zs
  ins:∀x∈zs,x.ins.length≤16
  len:(zs.length:Int)≤room
  dis:(pcs zs).Nodup
  bel:Below w.heap.size w wr
  lo:w.heap.size≤cb
  hi:cb<wr.heap.size
section
variable {cb : Nat} {room : Int} {w wr w' : World} {v v' : Value} {zs zs' : List BlkD} {pu st pu' st' : Int}
theorem CK.below(h:CK cb room w wr v zs pu st)(hb:Below wr.heap.size wr w'):CK cb room w w' v zs pu st:=
  ⟨h.at_.below hb,fun o=>(hb.frozen (p:=⟨cb,o,none⟩) h.hi).trans (h.frz o),h.blks.below hb,h.ins,h.len,h.dis,h.bel.trans (hb.mono h.bel.size),h.lo,Nat.lt_of_lt_of_le h.hi hb.size⟩
theorem CK.there(h:CK cb room w wr v zs pu st):wr.there cb 0 4:=fun j hj=>⟨by
  have:=h.at_ j xW
  rw[this];rfl,h.frz _⟩
theorem CK.next(h:CK cb room w wr v zs pu st)(hb:Below wr.heap.size wr w')(hv:Blks w' v' zs')(hf:Far wr.heap.size v' zs')(hi:∀x∈zs',x.ins.length≤16)(hl:(zs'.length:Int)≤room)(hd:(pcs zs').Nodup):
    CK cb room w (w'.setCells cb 0 [.int .i64 room,v',.int .i64 pu',.int .i64 st']) v' zs' pu' st':=
  have k:=h.below hb
  ⟨qv (vs:=[.int .i64 room,v',.int .i64 pu',.int .i64 st']) k.there,fun o=>by rw[World.frozen?_setCells];exact k.frz o,blks_sets hv hf h.hi _ _,hi,hl,hd,qL h.lo _ _ _ k.bel,h.lo,by rw[QK];exact k.hi⟩
end
theorem load_out2{P:Program}{w:World}{R:Nat}{a0 a1 x0 x1:Value}{ty:TypeId}{d:TypeDesc}(r0:w.cell? ⟨R,0,none⟩=some a0)(r1:w.cell? ⟨R,1,none⟩=some a1)
    (hu:P.underlying ty=some d) (hd:(match d with| .struct _| .array _ _=>true|_=>false)=true) (hi:(P.info? ty).map (·.size)=some 2):
    (loadVar ty ⟨R,0,none⟩).run P ((w.setCell ⟨R,0,none⟩ x0).setCell ⟨R,1,none⟩ x1)=.ok (.agg #[x0,x1]) ((w.setCell ⟨R,0,none⟩ x0).setCell ⟨R,1,none⟩ x1):=by
  refine QL _ R 0 ty #[x0,x1] d (fun j hj=> ?_) hu hd (by simpa using hi)
  have r1':(w.setCell ⟨R,0,none⟩ x0).cell? ⟨R,1,none⟩=some a1:=(sJ _ _ _ _ zD).trans r1
  match j,hj with
  |0,_=>exact(sJ _ _ _ _ zD).trans (sK _ _ _ r0)
  |1,_=>exact sK _ _ _ r1'
theorem load_new{P:Program}(w:World)(cs:Array Value)(e:TypeId){ty:TypeId}{d:TypeDesc}(hu:P.underlying ty=some d)(hd:(match d with| .struct _| .array _ _=>true|_=>false)=true)(hi:(P.info? ty).map (·.size)=some cs.size):
    (loadVar ty ⟨w.heap.size,0,none⟩).run P (w.alloc (.cells cs e))=.ok (.agg cs) (w.alloc (.cells cs e)):=
  QL _ w.heap.size 0 ty cs d (QN w cs.toList e (0,0)) hu hd hi
theorem UI{w:World}{v:Value}{s n:Nat}{xs:List Value}{b:Nat}{cs:Array Value}{t:TypeId}{fr:Nat × Nat}(h:Sl w v s n xs)(hb:w.heap[b]? =some (.cells cs t fr))(hs:cs.size<s)(o:Nat)(us:List Value):Sl (w.setCells b o us) v s n xs:=by
  obtain⟨hl,ao,cap,e,h1,h2,h3,h4⟩:=h
  refine⟨hl,ao,cap,e,h1,h2,h3,fun x hx hne=> ?_⟩
  obtain⟨hsp,hat⟩:=h4 x hx hne
  have hx0:xs.length≠0:=by intro e;exact hne (List.eq_nil_of_length_eq_zero e)
  have hn0:n≠0:=by intro e;rw[e]at hl;simp at hl;exact hx0 (by rw[hl];rfl)
  have hge:s≤xs.length:=by rw[hl];exact Nat.le_mul_of_pos_left s om
  have hbn:x.block≠b:=by
    intro e2
    have h5:=hat cs.size om
    unfold World.cell? at h5
    rw[show(⟨x.block,x.off+cs.size,none⟩:Addr).block=b from e2,hb]at h5
    simp at h5
  exact⟨hsp,fun j hj=>(qA (qT hbn _ _ _) _).trans (hat j hj)⟩
end Go.Proofs.YtlfnddmncbkjaabGreatDoor.Fb
