import Derived.Test.YtlfnddmncbkjaacGreatZWStep4h
import Derived.Test.YtlfnddmncbkjaacGreatZWDecode2
set_option linter.unusedVariables false
set_option linter.unusedSimpArgs false
set_option maxRecDepth 100000
set_option maxHeartbeats 4000000
namespace Go.Proofs.YtlfnddmncbkjaacGreat.W
open Go.RowKit Fb
theorem did_putNew{W:World}{h:Hart}{l:List Int}{v:Value}{op at_ x:Int}(hq:qU l op at_=true)(ha:U32 at_)(hl:l.length≤4096)(hv:Ints .u8 W v (qn l op at_ x)):
    qd W ⟨h,v,.slice none 0 0,at_,qM op⟩ ((⟨h,l,[],0,0⟩:qD).put op at_ x):=by
  have hs:0<qM op∧at_+qM op≤l.length:=by simp[qU,there]at hq;omega
  have ha1:=ha.1
  have e:(⟨h,l,[],0,0⟩:qD).put op at_ x=⟨h,qn l op at_ x,[],at_,(at_+qM op)%4294967296⟩:=by unfold qD.put;rw[if_pos hq]
  rw[e]
  refine⟨rfl,hv,Sl.nil _ _,rfl, ?_⟩
  show qM op=(at_+qM op)%4294967296-at_
  omega
theorem _root_.Go.Proofs.YtlfnddmncbkjaacGreat.Fb.qd.setState{w:World}{d:DidD}{c:qD}(h:qd w d c)(x:Int):qd w {d with h:={d.h with state:=x}} {c with h:={c.h with state:=x}}:=⟨by show({d.h with state:=x}:Hart)={c.h with state:=x};rw[h.h],h.m,h.o,h.fr,h.many⟩
theorem uE:
    (∀(h:Hart) (wf:h.Wf) (v:Value) (l:List Int) (w:World) (hv:Ints .u8 w v l) (hb:QP l) (hl:l.length≤4096) (hok:qN l 13 h.pc=true) (op:Int) (kd k1 k2:Nat) (imm:Int) (hop:16≤op∧op≤18) (hk:kd<32) (h1:k1<32) (h2:k2<32) (hi: -2147483648≤imm∧imm≤2147483647) (hdec:dec (qa l 13 h.pc)=some ⟨op,kd,k1,k2,imm⟩) (hq:qU l op ((h.reg k1+imm%4294967296)%4294967296)=false),Calls Tryz.prog 18 #[.agg (qL h),v] w fun e w'=>∃d',e=.returned (.agg (qA d'))∧qd w' d' (doS ⟨op,kd,k1,k2,imm⟩ (⟨h,l,[],0,0⟩:qD))∧(d'.vm=v∨∀q,d'.vm.ownBlock=some q→w.heap.size≤q)∧(∀q,d'.vo.ownBlock=some q→w.heap.size≤q)∧Below w.heap.size w w')∧
    (∀(h:Hart) (wf:h.Wf) (v:Value) (l:List Int) (w:World) (hv:Ints .u8 w v l) (hb:QP l) (hl:l.length≤4096) (hok:qN l 13 h.pc=true) (op:Int) (kd k1 k2:Nat) (imm:Int) (hop:16≤op∧op≤18) (hk:kd<32) (h1:k1<32) (h2:k2<32) (hi: -2147483648≤imm∧imm≤2147483647) (hdec:dec (qa l 13 h.pc)=some ⟨op,kd,k1,k2,imm⟩) (hq:qU l op ((h.reg k1+imm%4294967296)%4294967296)=true),Calls Tryz.prog 18 #[.agg (qL h),v] w fun e w'=>∃d',e=.returned (.agg (qA d'))∧qd w' d' (doS ⟨op,kd,k1,k2,imm⟩ (⟨h,l,[],0,0⟩:qD))∧(d'.vm=v∨∀q,d'.vm.ownBlock=some q→w.heap.size≤q)∧(∀q,d'.vo.ownBlock=some q→w.heap.size≤q)∧Below w.heap.size w w')∧
    (∀(h:Hart) (wf:h.Wf) (v:Value) (l:List Int) (w:World) (hv:Ints .u8 w v l) (hb:QP l) (hl:l.length≤4096) (hok:qN l 13 h.pc=true) (op:Int) (kd k1 k2:Nat) (imm:Int) (hop:46≤op∧op≤56) (hk:kd<32) (h1:k1<32) (h2:k2<32) (hi: -2147483648≤imm∧imm≤2147483647) (hdec:dec (qa l 13 h.pc)=some ⟨op,kd,k1,k2,imm⟩) (hq:(qY (⟨h,l,[],0,0⟩:qD) op (h.reg k1) (h.reg k2)).2.2=false),Calls Tryz.prog 18 #[.agg (qL h),v] w fun e w'=>∃d',e=.returned (.agg (qA d'))∧qd w' d' (doS ⟨op,kd,k1,k2,imm⟩ (⟨h,l,[],0,0⟩:qD))∧(d'.vm=v∨∀q,d'.vm.ownBlock=some q→w.heap.size≤q)∧(∀q,d'.vo.ownBlock=some q→w.heap.size≤q)∧Below w.heap.size w w')∧
    (∀(h:Hart) (wf:h.Wf) (v:Value) (l:List Int) (w:World) (hv:Ints .u8 w v l) (hb:QP l) (hl:l.length≤4096) (hok:qN l 13 h.pc=true) (op:Int) (kd k1 k2:Nat) (imm:Int) (hop:46≤op∧op≤56) (hk:kd<32) (h1:k1<32) (h2:k2<32) (hi: -2147483648≤imm∧imm≤2147483647) (hdec:dec (qa l 13 h.pc)=some ⟨op,kd,k1,k2,imm⟩) (hq:(qY (⟨h,l,[],0,0⟩:qD) op (h.reg k1) (h.reg k2)).2.2=true),Calls Tryz.prog 18 #[.agg (qL h),v] w fun e w'=>∃d',e=.returned (.agg (qA d'))∧qd w' d' (doS ⟨op,kd,k1,k2,imm⟩ (⟨h,l,[],0,0⟩:qD))∧(d'.vm=v∨∀q,d'.vm.ownBlock=some q→w.heap.size≤q)∧(∀q,d'.vo.ownBlock=some q→w.heap.size≤q)∧Below w.heap.size w w')∧
    (∀(h:Hart) (wf:h.Wf) (v:Value) (l:List Int) (w:World) (hv:Ints .u8 w v l) (hb:QP l) (hl:l.length≤4096) (hok:qN l 13 h.pc=true) (kd k1 k2:Nat) (imm:Int) (hk:kd<32) (h1:k1<32) (h2:k2<32) (hi: -2147483648≤imm∧imm≤2147483647) (hdec:dec (qa l 13 h.pc)=some ⟨58,kd,k1,k2,imm⟩) (hq:h.reg 17=0),Calls Tryz.prog 18 #[.agg (qL h),v] w fun e w'=>∃d',e=.returned (.agg (qA d'))∧qd w' d' (doS ⟨58,kd,k1,k2,imm⟩ (⟨h,l,[],0,0⟩:qD))∧(d'.vm=v∨∀q,d'.vm.ownBlock=some q→w.heap.size≤q)∧(∀q,d'.vo.ownBlock=some q→w.heap.size≤q)∧Below w.heap.size w w')∧
    (∀(h:Hart) (wf:h.Wf) (v:Value) (l:List Int) (w:World) (hv:Ints .u8 w v l) (hb:QP l) (hl:l.length≤4096) (hok:qN l 13 h.pc=true) (kd k1 k2:Nat) (imm:Int) (hk:kd<32) (h1:k1<32) (h2:k2<32) (hi: -2147483648≤imm∧imm≤2147483647) (hdec:dec (qa l 13 h.pc)=some ⟨58,kd,k1,k2,imm⟩) (hq:h.reg 17=1),Calls Tryz.prog 18 #[.agg (qL h),v] w fun e w'=>∃d',e=.returned (.agg (qA d'))∧qd w' d' (doS ⟨58,kd,k1,k2,imm⟩ (⟨h,l,[],0,0⟩:qD))∧(d'.vm=v∨∀q,d'.vm.ownBlock=some q→w.heap.size≤q)∧(∀q,d'.vo.ownBlock=some q→w.heap.size≤q)∧Below w.heap.size w w')∧
    (∀(h:Hart) (wf:h.Wf) (v:Value) (l:List Int) (w:World) (hv:Ints .u8 w v l) (hb:QP l) (hl:l.length≤4096) (hok:qN l 13 h.pc=true) (kd k1 k2:Nat) (imm:Int) (hk:kd<32) (h1:k1<32) (h2:k2<32) (hi: -2147483648≤imm∧imm≤2147483647) (hdec:dec (qa l 13 h.pc)=some ⟨58,kd,k1,k2,imm⟩) (hq:¬h.reg 17=0∧¬h.reg 17=1),Calls Tryz.prog 18 #[.agg (qL h),v] w fun e w'=>∃d',e=.returned (.agg (qA d'))∧qd w' d' (doS ⟨58,kd,k1,k2,imm⟩ (⟨h,l,[],0,0⟩:qD))∧(d'.vm=v∨∀q,d'.vm.ownBlock=some q→w.heap.size≤q)∧(∀q,d'.vo.ownBlock=some q→w.heap.size≤q)∧Below w.heap.size w w'):=by
  refine⟨?g0, ?g1, ?g2, ?g3, ?g4, ?g5, ?g6⟩
  case' g6=>
    intro h wf v l w hv hb hl hok kd k1 k2 imm hk h1 h2 hi hdec hq
    obtain⟨i0,i1⟩:=hi
    obtain⟨xa,hxa⟩:∃x,x=h.regs.getD k1 0:=⟨_,rfl⟩
    obtain⟨xb,hxb⟩:∃x,x=h.regs.getD k2 0:=⟨_,rfl⟩
    obtain⟨xn,hxn⟩:∃x,x=imm%4294967296:=⟨_,rfl⟩
    obtain⟨pc,hpcv⟩:∃x,x=h.pc:=⟨_,rfl⟩
    have era:h.reg (k1:Int)=xa:=zX
    have erb:h.reg (k2:Int)=xb:=zW
    have ua:U32 xa:=yB
    have ub:U32 xb:=yA
    have un:U32 xn:=zO
    have up:U32 pc:=yE
    obtain⟨c0,hc0⟩:∃c,c=(⟨h,l,[],0,0⟩:qD):=⟨_,rfl⟩
    have e:doS ⟨58,kd,k1,k2,imm⟩ (⟨h,l,[],0,0⟩:qD)=c0.trap 5:=by
      rw[hc0]
      unfold doS
      dsimp only
      rw[era,erb,←hxn,←hpcv]
      rw[if_neg om,if_neg om,if_neg om,if_neg om,if_neg om,if_neg om,if_neg om,if_neg om,if_neg om,if_neg om,if_pos rfl]
      rw[show qz (⟨h,l,[],0,0⟩:qD)=(qD.trap (⟨h,l,[],0,0⟩:qD) 5,false)from(if_neg hq.1).trans (if_neg hq.2)];rfl
    rw[e]
    clear e
    have HC0:=lI hc0
    have HA:=lI ua
    have HB:=lI ub
    have HN:=lI un
    have HU:=lI up
    have HPC:Hid (h.pc=pc):=lI hpcv.symm
    have HOf:Hid (∀W,Calls Tryz.prog 30 #[.int .i64 imm] W fun e w'=>e=.returned (.int .u32 xn)∧W=w'):=lI (fun W=>by rw[hxn];exact QY imm W om)
    have HS1:=lI (fun W=>qi pc 4 W up ⟨by decide,by decide⟩)
    have HS2:=lI (fun W=>qi xa xn W ua un)
    clear era erb ua ub un up hxn hc0 hpcv
    obtain⟨op,hop⟩:∃x:Int,x=58:=⟨_,rfl⟩
    rw[←hop]at hdec
    have HOP:=lI hop
    clear hop
  case' g5=>
    intro h wf v l w hv hb hl hok kd k1 k2 imm hk h1 h2 hi hdec hq
    obtain⟨i0,i1⟩:=hi
    obtain⟨xa,hxa⟩:∃x,x=h.regs.getD k1 0:=⟨_,rfl⟩
    obtain⟨xb,hxb⟩:∃x,x=h.regs.getD k2 0:=⟨_,rfl⟩
    obtain⟨xn,hxn⟩:∃x,x=imm%4294967296:=⟨_,rfl⟩
    obtain⟨pc,hpcv⟩:∃x,x=h.pc:=⟨_,rfl⟩
    have era:h.reg (k1:Int)=xa:=zX
    have erb:h.reg (k2:Int)=xb:=zW
    have ua:U32 xa:=yB
    have ub:U32 xb:=yA
    have un:U32 xn:=zO
    have up:U32 pc:=yE
    obtain⟨c0,hc0⟩:∃c,c=(⟨h,l,[],0,0⟩:qD):=⟨_,rfl⟩
    have e:doS ⟨58,kd,k1,k2,imm⟩ (⟨h,l,[],0,0⟩:qD)=({c0 with out:=c0.out++[h.reg 10]}:qD).setPc ((pc+4)%4294967296):=by
      rw[hc0]
      unfold doS
      dsimp only
      rw[era,erb,←hxn,←hpcv]
      rw[if_neg om,if_neg om,if_neg om,if_neg om,if_neg om,if_neg om,if_neg om,if_neg om,if_neg om,if_neg om,if_pos rfl]
      rw[show qz (⟨h,l,[],0,0⟩:qD)=({(⟨h,l,[],0,0⟩:qD)with out:=((⟨h,l,[],0,0⟩:qD)).out++[h.reg 10]},true)from(if_neg (by show ¬h.reg 17=0;rw[hq];decide)).trans (if_pos hq)];rfl
    rw[e]
    clear e
    have HC0:=lI hc0
    have HA:=lI ua
    have HB:=lI ub
    have HN:=lI un
    have HU:=lI up
    have HPC:Hid (h.pc=pc):=lI hpcv.symm
    have HOf:Hid (∀W,Calls Tryz.prog 30 #[.int .i64 imm] W fun e w'=>e=.returned (.int .u32 xn)∧W=w'):=lI (fun W=>by rw[hxn];exact QY imm W om)
    have HS1:=lI (fun W=>qi pc 4 W up ⟨by decide,by decide⟩)
    have HS2:=lI (fun W=>qi xa xn W ua un)
    obtain⟨x10,hx10⟩:∃x,x=h.reg 10:=⟨_,rfl⟩
    rw[←hx10]
    have HX10:=lI hx10.symm
    clear hx10
    clear era erb ua ub un up hxn hc0 hpcv
    obtain⟨op,hop⟩:∃x:Int,x=58:=⟨_,rfl⟩
    rw[←hop]at hdec
    have HOP:=lI hop
    clear hop
  case' g4=>
    intro h wf v l w hv hb hl hok kd k1 k2 imm hk h1 h2 hi hdec hq
    obtain⟨i0,i1⟩:=hi
    obtain⟨xa,hxa⟩:∃x,x=h.regs.getD k1 0:=⟨_,rfl⟩
    obtain⟨xb,hxb⟩:∃x,x=h.regs.getD k2 0:=⟨_,rfl⟩
    obtain⟨xn,hxn⟩:∃x,x=imm%4294967296:=⟨_,rfl⟩
    obtain⟨pc,hpcv⟩:∃x,x=h.pc:=⟨_,rfl⟩
    have era:h.reg (k1:Int)=xa:=zX
    have erb:h.reg (k2:Int)=xb:=zW
    have ua:U32 xa:=yB
    have ub:U32 xb:=yA
    have un:U32 xn:=zO
    have up:U32 pc:=yE
    obtain⟨c0,hc0⟩:∃c,c=(⟨h,l,[],0,0⟩:qD):=⟨_,rfl⟩
    have e:doS ⟨58,kd,k1,k2,imm⟩ (⟨h,l,[],0,0⟩:qD)={c0 with h:={c0.h with state:=1}}:=by
      rw[hc0]
      unfold doS
      dsimp only
      rw[era,erb,←hxn,←hpcv]
      rw[if_neg om,if_neg om,if_neg om,if_neg om,if_neg om,if_neg om,if_neg om,if_neg om,if_neg om,if_neg om,if_pos rfl]
      rw[show qz (⟨h,l,[],0,0⟩:qD)=({(⟨h,l,[],0,0⟩:qD)with h:={((⟨h,l,[],0,0⟩:qD)).h with state:=1}},false)from if_pos hq,hpcv];rfl
    rw[e]
    clear e
    have HC0:=lI hc0
    have HA:=lI ua
    have HB:=lI ub
    have HN:=lI un
    have HU:=lI up
    have HPC:Hid (h.pc=pc):=lI hpcv.symm
    have HOf:Hid (∀W,Calls Tryz.prog 30 #[.int .i64 imm] W fun e w'=>e=.returned (.int .u32 xn)∧W=w'):=lI (fun W=>by rw[hxn];exact QY imm W om)
    have HS1:=lI (fun W=>qi pc 4 W up ⟨by decide,by decide⟩)
    have HS2:=lI (fun W=>qi xa xn W ua un)
    clear era erb ua ub un up hxn hc0 hpcv
    obtain⟨op,hop⟩:∃x:Int,x=58:=⟨_,rfl⟩
    rw[←hop]at hdec
    have HOP:=lI hop
    clear hop
  case' g3=>
    intro h wf v l w hv hb hl hok op kd k1 k2 imm hop hk h1 h2 hi hdec hq
    obtain⟨o0,o1⟩:=hop
    have f1:(op==1)=false:=sH.2 om
    have f2:(op==2)=false:=sH.2 om
    have f3:(op==3)=false:=sH.2 om
    have f4:(op==4)=false:=sH.2 om
    obtain⟨i0,i1⟩:=hi
    obtain⟨xa,hxa⟩:∃x,x=h.regs.getD k1 0:=⟨_,rfl⟩
    obtain⟨xb,hxb⟩:∃x,x=h.regs.getD k2 0:=⟨_,rfl⟩
    obtain⟨xn,hxn⟩:∃x,x=imm%4294967296:=⟨_,rfl⟩
    obtain⟨pc,hpcv⟩:∃x,x=h.pc:=⟨_,rfl⟩
    have era:h.reg (k1:Int)=xa:=zX
    have erb:h.reg (k2:Int)=xb:=zW
    rw[era,erb]at hq
    have ua:U32 xa:=yB
    have ub:U32 xb:=yA
    have un:U32 xn:=zO
    have up:U32 pc:=yE
    obtain⟨c0,hc0⟩:∃c,c=(⟨h,l,[],0,0⟩:qD):=⟨_,rfl⟩
    have e:doS ⟨op,kd,k1,k2,imm⟩ (⟨h,l,[],0,0⟩:qD)=(Jc c0 op xa xb kd).setPc ((pc+4)%4294967296):=by
      rw[hc0]
      unfold doS
      dsimp only
      rw[era,erb,←hxn,←hpcv]
      rw[if_neg om,if_neg om,if_neg om,if_neg om,if_neg om,if_neg om,if_neg om,if_neg om,if_neg om,if_pos om,if_pos hq]
      unfold Jc;rw[if_pos hq]
    rw[e]
    clear e
    have HC0:=lI hc0
    have HA:=lI ua
    have HB:=lI ub
    have HN:=lI un
    have HU:=lI up
    have HPC:Hid (h.pc=pc):=lI hpcv.symm
    have HOf:Hid (∀W,Calls Tryz.prog 30 #[.int .i64 imm] W fun e w'=>e=.returned (.int .u32 xn)∧W=w'):=lI (fun W=>by rw[hxn];exact QY imm W om)
    have HS1:=lI (fun W=>qi pc 4 W up ⟨by decide,by decide⟩)
    have HS2:=lI (fun W=>qi xa xn W ua un)
    have HWC:Hid c0.Wf:=lI (by rw[hc0];exact⟨wf,hb,by simp,(⟨by decide,by decide⟩:U32 0),(⟨by decide,by decide⟩:U32 0),xZ,by simp⟩)
    rw[←hc0]at hq
    clear era erb ua ub un up hxn hc0 hpcv
  case' g2=>
    intro h wf v l w hv hb hl hok op kd k1 k2 imm hop hk h1 h2 hi hdec hq
    obtain⟨o0,o1⟩:=hop
    have f1:(op==1)=false:=sH.2 om
    have f2:(op==2)=false:=sH.2 om
    have f3:(op==3)=false:=sH.2 om
    have f4:(op==4)=false:=sH.2 om
    obtain⟨i0,i1⟩:=hi
    obtain⟨xa,hxa⟩:∃x,x=h.regs.getD k1 0:=⟨_,rfl⟩
    obtain⟨xb,hxb⟩:∃x,x=h.regs.getD k2 0:=⟨_,rfl⟩
    obtain⟨xn,hxn⟩:∃x,x=imm%4294967296:=⟨_,rfl⟩
    obtain⟨pc,hpcv⟩:∃x,x=h.pc:=⟨_,rfl⟩
    have era:h.reg (k1:Int)=xa:=zX
    have erb:h.reg (k2:Int)=xb:=zW
    rw[era,erb]at hq
    have ua:U32 xa:=yB
    have ub:U32 xb:=yA
    have un:U32 xn:=zO
    have up:U32 pc:=yE
    obtain⟨c0,hc0⟩:∃c,c=(⟨h,l,[],0,0⟩:qD):=⟨_,rfl⟩
    have e:doS ⟨op,kd,k1,k2,imm⟩ (⟨h,l,[],0,0⟩:qD)=Jc c0 op xa xb kd:=by
      rw[hc0]
      unfold doS
      dsimp only
      rw[era,erb,←hxn,←hpcv]
      rw[if_neg om,if_neg om,if_neg om,if_neg om,if_neg om,if_neg om,if_neg om,if_neg om,if_neg om,if_pos om,if_neg wF]
      unfold Jc;rw[if_neg wF]
    rw[e]
    clear e
    have HC0:=lI hc0
    have HA:=lI ua
    have HB:=lI ub
    have HN:=lI un
    have HU:=lI up
    have HPC:Hid (h.pc=pc):=lI hpcv.symm
    have HOf:Hid (∀W,Calls Tryz.prog 30 #[.int .i64 imm] W fun e w'=>e=.returned (.int .u32 xn)∧W=w'):=lI (fun W=>by rw[hxn];exact QY imm W om)
    have HS1:=lI (fun W=>qi pc 4 W up ⟨by decide,by decide⟩)
    have HS2:=lI (fun W=>qi xa xn W ua un)
    have HWC:Hid c0.Wf:=lI (by rw[hc0];exact⟨wf,hb,by simp,(⟨by decide,by decide⟩:U32 0),(⟨by decide,by decide⟩:U32 0),xZ,by simp⟩)
    rw[←hc0]at hq
    clear era erb ua ub un up hxn hc0 hpcv
  case' g1=>
    intro h wf v l w hv hb hl hok op kd k1 k2 imm hop hk h1 h2 hi hdec hq
    obtain⟨o0,o1⟩:=hop
    have f1:(op==1)=false:=sH.2 om
    have f2:(op==2)=false:=sH.2 om
    have f3:(op==3)=false:=sH.2 om
    have f4:(op==4)=false:=sH.2 om
    obtain⟨i0,i1⟩:=hi
    obtain⟨xa,hxa⟩:∃x,x=h.regs.getD k1 0:=⟨_,rfl⟩
    obtain⟨xb,hxb⟩:∃x,x=h.regs.getD k2 0:=⟨_,rfl⟩
    obtain⟨xn,hxn⟩:∃x,x=imm%4294967296:=⟨_,rfl⟩
    obtain⟨pc,hpcv⟩:∃x,x=h.pc:=⟨_,rfl⟩
    have era:h.reg (k1:Int)=xa:=zX
    have erb:h.reg (k2:Int)=xb:=zW
    rw[era,←hxn]at hq
    have ua:U32 xa:=yB
    have ub:U32 xb:=yA
    have un:U32 xn:=zO
    have up:U32 pc:=yE
    obtain⟨c0,hc0⟩:∃c,c=(⟨h,l,[],0,0⟩:qD):=⟨_,rfl⟩
    have e:doS ⟨op,kd,k1,k2,imm⟩ (⟨h,l,[],0,0⟩:qD)=(c0.put op ((xa+xn)%4294967296) xb).setPc ((pc+4)%4294967296):=by
      rw[hc0]
      unfold doS
      dsimp only
      rw[era,erb,←hxn,←hpcv]
      rw[if_neg om,if_neg om,if_neg om,if_neg om,if_neg om,if_neg om,if_pos om,if_pos hq]
    rw[e]
    clear e
    have HC0:=lI hc0
    have HA:=lI ua
    have HB:=lI ub
    have HN:=lI un
    have HU:=lI up
    have HPC:Hid (h.pc=pc):=lI hpcv.symm
    have HOf:Hid (∀W,Calls Tryz.prog 30 #[.int .i64 imm] W fun e w'=>e=.returned (.int .u32 xn)∧W=w'):=lI (fun W=>by rw[hxn];exact QY imm W om)
    have HS1:=lI (fun W=>qi pc 4 W up ⟨by decide,by decide⟩)
    have HS2:=lI (fun W=>qi xa xn W ua un)
    clear era erb ua ub un up hxn hc0 hpcv
  case' g0=>
    intro h wf v l w hv hb hl hok op kd k1 k2 imm hop hk h1 h2 hi hdec hq
    obtain⟨o0,o1⟩:=hop
    have f1:(op==1)=false:=sH.2 om
    have f2:(op==2)=false:=sH.2 om
    have f3:(op==3)=false:=sH.2 om
    have f4:(op==4)=false:=sH.2 om
    obtain⟨i0,i1⟩:=hi
    obtain⟨xa,hxa⟩:∃x,x=h.regs.getD k1 0:=⟨_,rfl⟩
    obtain⟨xb,hxb⟩:∃x,x=h.regs.getD k2 0:=⟨_,rfl⟩
    obtain⟨xn,hxn⟩:∃x,x=imm%4294967296:=⟨_,rfl⟩
    obtain⟨pc,hpcv⟩:∃x,x=h.pc:=⟨_,rfl⟩
    have era:h.reg (k1:Int)=xa:=zX
    have erb:h.reg (k2:Int)=xb:=zW
    rw[era,←hxn]at hq
    have ua:U32 xa:=yB
    have ub:U32 xb:=yA
    have un:U32 xn:=zO
    have up:U32 pc:=yE
    obtain⟨c0,hc0⟩:∃c,c=(⟨h,l,[],0,0⟩:qD):=⟨_,rfl⟩
    have e:doS ⟨op,kd,k1,k2,imm⟩ (⟨h,l,[],0,0⟩:qD)=c0.trap 4:=by
      rw[hc0]
      unfold doS
      dsimp only
      rw[era,erb,←hxn,←hpcv]
      rw[if_neg om,if_neg om,if_neg om,if_neg om,if_neg om,if_neg om,if_pos om,if_neg wF]
    rw[e]
    clear e
    have HC0:=lI hc0
    have HA:=lI ua
    have HB:=lI ub
    have HN:=lI un
    have HU:=lI up
    have HPC:Hid (h.pc=pc):=lI hpcv.symm
    have HOf:Hid (∀W,Calls Tryz.prog 30 #[.int .i64 imm] W fun e w'=>e=.returned (.int .u32 xn)∧W=w'):=lI (fun W=>by rw[hxn];exact QY imm W om)
    have HS1:=lI (fun W=>qi pc 4 W up ⟨by decide,by decide⟩)
    have HS2:=lI (fun W=>qi xa xn W ua un)
    clear era erb ua ub un up hxn hc0 hpcv
  all_goals
    obtain⟨ao,cap,hve,_⟩:=hv.open
    have HV:=lI hv
    have wfc:((⟨h,l,[],0,0⟩:qD)).Wf:=⟨wf,hb,by simp,(⟨by decide,by decide⟩:U32 0),(⟨by decide,by decide⟩:U32 0),xZ,by simp⟩
    obtain⟨d0,hd0⟩:∃d0,d0=(⟨h,v,.slice none 0 0,0,0⟩:DidD):=⟨_,rfl⟩
    have d0_ok:d0.Ok:=wA
    have HBD:=lI (fun W=>UB h wf.len v hv.one ao _ cap hve W)
    rw[←hd0]at HBD
    have hbox:At (w.alloc (.cells (qL h) 46)) w.heap.size 0 (qJ h):=Qf w (qJ h) 46 (0,0)
    have hsz:(Tryz.prog.info? 46).map (·.size)=some (qL h).size:=wK
    have HDO:Hid (∀W,Ints .u8 W v l→qd W d0 c0):=lI (fun W hW=>by rw[hd0,HC0.out];exact⟨rfl,hW,Sl.nil _ _,rfl,rfl⟩)
    have HD0E:=lI hd0
    subst hve
    clear hv hd0
    go_enter Tryz.func18,Tryz.ntmps18
    go_upto_region 1 with(fail)
    show Code.wp _ _ _ _ ((w.alloc (.cells (qL h) 46)).alloc (.cells (qA did0) 67))
    have hb1:At ((w.alloc (.cells (qL h) 46)).alloc (.cells (qA did0) 67)) w.heap.size 0 (qJ h):=hbox.below Fb.blw
    have hbz1:Below w.heap.size w ((w.alloc (.cells (qL h) 46)).alloc (.cells (qA did0) 67)):=Fb.blw
    have hs1:(((w.alloc (.cells (qL h) 46)).alloc (.cells (qA did0) 67))).heap.size=w.heap.size+2:=zG
    have hR1:=Jn h (w:=w) (tH:=46) (tD:=67)
    generalize ((w.alloc (.cells (qL h) 46)).alloc (.cells (qA did0) 67))=w1 at *
    have HSZ1:=lI hs1
    clear hs1
    go_upto_region 2 with(first|(refine qI rfl 46 _ rfl w.heap.size 0 rfl (qL h) _ hb1 Tryz.underlying46 rfl hsz ?_)|(refine JE rfl 67 _ rfl #[(0,.agg (qL h)),(1,.slice ao l.length cap)] wC _ (HBD.out _) ?_)|(refine Qw rfl 67 _ _ rfl w1 _ (qA d0) rfl rfl rfl (qG d0_ok) wR (Jx d0_ok) ?_))
    have hs1:=HSZ1.out
    have hD:=DBox.begin3 (w:=w1) (tD:=67) (d:=d0) hR1 om
    have hb2:=hb1.below (Below.alloc br (sO _) (.cells (qA d0) 67))
    have hbz2:Below w.heap.size w (w1.alloc (.cells (qA d0) 67)):=hbz1.trans (Below.alloc br om _)
    have hs2:(w1.alloc (.cells (qA d0) 67)).heap.size=w.heap.size+3:=zB
    rw[hs1]at hD
    have e12:w1.heap.size=w.heap.size+2:=hs1
    rw[e12]
    generalize w1.alloc (.cells (qA d0) 67)=w2 at *
    have hpc:=hb2.get (qe wf)
    simp only[sM]at hpc
    clear hb1 hbz1 hs1 hR1 e12
    have HL:=lI (fun W hW=>Qy (.slice ao l.length cap) l 13 h.pc W hW wf.pc hb.getD)
    rw[hok]at HL
    clear hok
    have HDc:=lI (fun W=>uS (qa l 13 h.pc) W (um l h.pc wf.pc hb.getD))
    rw[hdec]at HDc
    simp only[Option.getD_some,Option.isSome_some,ql]at HDc
    go_upto_region 5 with(go_at_call 27;refine(HL.out _ (HV.out.below hbz2)).mono ?_;rintro e w3 ⟨rfl,rfl⟩)
    go_wp2_with fail
    refine(HDc.out _).mono ?_
    rintro e w3 ⟨rfl,hb3⟩
    obtain⟨w4,hw4⟩:∃w4,w4=w3.alloc (.cells #[.int .i64 op,.int .i64 kd,.int .i64 k1,.int .i64 k2,.int .i32 imm] 82):=⟨_,rfl⟩
    have hs3:=hb3.size
    have hB4:Below w2.heap.size w2 w4:=by rw[hw4];exact hb3.trans (Below.alloc br hs3 _)
    have hs4:w4.heap.size=w3.heap.size+1:=wJ
    have q0:w4.cell? ⟨w3.heap.size,0,none⟩=some (.int .i64 op):=zD
    have q1:w4.cell? ⟨w3.heap.size,1,none⟩=some (.int .i64 kd):=zD
    have q2:w4.cell? ⟨w3.heap.size,2,none⟩=some (.int .i64 k1):=zD
    have q3:w4.cell? ⟨w3.heap.size,3,none⟩=some (.int .i64 k2):=zD
    have q4:w4.cell? ⟨w3.heap.size,4,none⟩=some (.int .i32 imm):=zD
    have hh4:At w4 w.heap.size 0 (qJ h):=hb2.below hB4
    have HD5:=lI ((hD.below om om hB4))
    have hra:=hh4.get (qV wf k1 h1)
    have hrb:=hh4.get (qV wf k2 h2)
    have hpc4:=hh4.get (qe wf)
    simp only[sM]at hra hrb hpc4
    rw[←hxa]at hra
    rw[←hxb]at hrb
    have hbz4:Below w.heap.size w w4:=hbz2.trans (hB4.mono om)
    have HW4:=lI hw4
    clear hw4 hb2 hB4 hb3 hD hpc hbz2 hxa hxb
    have j1:(k1:Int)<32:=om
    have j2:(k2:Int)<32:=om
    go_upto_region 6 with(fail)
    rw[←HW4.out]
    rw[HPC.out]at hpc4
    go_upto_region 13 with(first|(go_at_call 30;refine(HOf.out _).mono ?_;rintro e w' ⟨rfl,rfl⟩)|(go_at_call 31;refine(HS1.out _).mono ?_;rintro e w' ⟨rfl,na,rfl⟩)|(go_at_call 31;refine(HS2.out _).mono ?_;rintro e w' ⟨rfl,nb,rfl⟩))
    have hpc5:(w4.drewN (na+nb)).cell? ⟨w.heap.size,32,none⟩=some (.int .u32 pc):=hpc4
    have hh5:At (w4.drewN (na+nb)) w.heap.size 0 (qJ h):=hh4
    have HD6:=lI (HD5.out.drewN (na+nb))
    have hbz:Below w.heap.size w (w4.drewN (na+nb)):=qC hbz4 _
    have hsz5:(w4.drewN (na+nb)).heap.size=w3.heap.size+1:=hs4
    have p0:(w4.drewN (na+nb)).cell? ⟨w3.heap.size,0,none⟩=some (.int .i64 op):=q0
    have p1:(w4.drewN (na+nb)).cell? ⟨w3.heap.size,1,none⟩=some (.int .i64 kd):=q1
    have p2:(w4.drewN (na+nb)).cell? ⟨w3.heap.size,2,none⟩=some (.int .i64 k1):=q2
    have p3:(w4.drewN (na+nb)).cell? ⟨w3.heap.size,3,none⟩=some (.int .i64 k2):=q3
    have p4:(w4.drewN (na+nb)).cell? ⟨w3.heap.size,4,none⟩=some (.int .i32 imm):=q4
    clear q0 q1 q2 q3 q4 hpc4 hh4 HD5 hra hrb hbz4 hs4
    generalize w4.drewN (na+nb)=w5 at *
  · skip
    have HDD:Hid (∀W,Below w.heap.size w W→qd W d0 c0):=lI (fun W hW=>HDO.out W (HV.out.below hW))
    have HVM:Hid (d0.vm=.slice ao l.length cap∧d0.vo=.slice none 0 0):=lI xG
    have hbe:=hbz
    go_upto_region 32 with(fail)
    go_wp2_with (first|(refine qI rfl 67 _ rfl (w.heap.size+2) 0 rfl (qA d0) _ HD6.out.at_ Tryz.underlying67 rfl (qG d0_ok) ?_))
    refine(store4_no d0 d0_ok l op ((xa+xn)%4294967296) xb _ (by rw[HVM.out.1];exact HV.out.below hbz) (QG _) HB.out om hq).mono ?_
    rintro e w6 ⟨rfl,hb6⟩
    have hs6:=hb6.size
    have HB6:=HD6.out.below om om hb6
    have htB:=HB6.thereB d0_ok d0_ok
    have HD7:=lI (HB6.put d0_ok d0_ok)
    have hbe7:=qB (b:=w.heap.size+2) om (qA d0).toList 0 _ (hbz.trans (hb6.mono om))
    have hs7:(w6.setCells (w.heap.size+2) 0 (qA d0).toList).heap.size=w6.heap.size:=Qa _ _ _ _
    clear hb6 HB6 p0 p1 p2 p3 p4 hh5 hpc5
    go_upto_region 34 with(first|(refine sT rfl 67 _ _ rfl (w.heap.size+2) 0 (qA d0) rfl rfl htB (qG d0_ok) (qX d0_ok) ?_))
    generalize w6.setCells (w.heap.size+2) 0 (qA d0).toList=w7 at *
    go_wp2_with (first|(refine qI rfl 67 _ rfl (w.heap.size+2) 0 rfl (qA d0) _ HD7.out.at_ Tryz.underlying67 rfl (qG d0_ok) ?_))
    refine(JN d0 d0_ok 4 _).mono ?_
    rintro e w8 ⟨rfl,hb8⟩
    have hs8:=hb8.size
    have HD8:=lI (HD7.out.below om om hb8)
    have dt_ok:(d0.trap 4).Ok:=⟨d0_ok.len,d0_ok.m1,d0_ok.o1⟩
    have hbt:=hbe7.trans (hb8.mono om)
    clear hb8
    have ht:(w8).there (w.heap.size+1) 0 (qA (d0.trap 4)).size:=wH
    have hld:=qQ (P:=Tryz.prog) ht Tryz.underlying67 rfl (qG dt_ok)
    go_wp2_with (first|(refine sT rfl 67 _ _ rfl (w.heap.size+1) 0 (qA (d0.trap 4)) rfl rfl ht (qG dt_ok) (qX dt_ok) ?_))
    refine sP (qk zP _ zP hld) rfl ⟨_,rfl,(HDD.out _ (qB om _ _ _ hbt)).trap 4,.inl ?_, ?_,qB om _ _ _ hbt⟩
    · exact HVM.out.1
    · intro q e;rw[show(d0.trap 4).vo=.slice none 0 0 from HVM.out.2]at e;cases e
  · skip
    go_upto_region 32 with(fail)
    go_wp2_with (first|(refine qI rfl 67 _ rfl (w.heap.size+2) 0 rfl (qA d0) _ HD6.out.at_ Tryz.underlying67 rfl (qG d0_ok) ?_))
    refine(store4_yes d0 d0_ok l op ((xa+xn)%4294967296) xb _ (by rw[HD0E.out];exact HV.out.below hbz) (QG _) HB.out om hq).mono ?_
    rintro e w6 ⟨v',rfl,hm6,hfr',hb6⟩
    obtain⟨d1,hd1⟩:∃d1,d1=({d0 with vm:=v',fr:=(xa+xn)%4294967296,many:=qM op}:DidD):=⟨_,rfl⟩
    have d1_ok:d1.Ok:=by rw[hd1];exact⟨d0_ok.len,hm6.one,d0_ok.o1⟩
    rw[←hd1]
    obtain⟨c1m,hc1m⟩:∃x,x=qn l op ((xa+xn)%4294967296) xb:=⟨_,rfl⟩
    have hvv:d1.vm=v':=by rw[hd1]
    rw[←hvv,←hc1m]at hm6
    have HFR:Hid (d1.vm=.slice ao l.length cap∨∀q,d1.vm.ownBlock=some q→w.heap.size+3≤q):=lI (.inr (by rw[hvv];exact fun q e=>by have:=hfr' q e;omega))
    have HVO:Hid (d1.vo=.slice none 0 0):=lI (by rw[hd1,HD0E.out])
    have HDD:Hid (∀W,Ints .u8 W d1.vm c1m→qd W d1 (c0.put op ((xa+xn)%4294967296) xb)):=lI (fun W hm=>by
      rw[hvv,hc1m]at hm
      rw[hd1,HD0E.out,HC0.out]
      exact did_putNew (h:=h) hq (QG _) hl hm)
    clear hd1 hfr' hvv hc1m
    have hs6:=hb6.size
    have HB6:=HD6.out.below om om hb6
    have htB:=HB6.thereB d0_ok d1_ok
    have HD7:=lI (HB6.put d0_ok d1_ok)
    have hb60:=hbz.trans (hb6.mono om)
    have hbe:=qB (b:=w.heap.size+2) om (qA d1).toList 0 _ hb60
    have hm7:Ints .u8 (w6.setCells (w.heap.size+2) 0 (qA d1).toList) d1.vm c1m:=by
      rcases HFR.out with e|hf
      · rw[e];exact ur HV.out (by rw[←e];exact hm6) hb60 hbe
      · exact qt (JI hf om) _ _ _ hm6
    clear hb6 HB6 p0 p1 p2 p3 p4 hh5 hpc5 hm6 hb60
    go_upto_region 54 with(first|(refine sT rfl 67 _ _ rfl (w.heap.size+2) 0 (qA d1) rfl rfl htB (qG d1_ok) (qX d1_ok) ?_))
    generalize w6.setCells (w.heap.size+2) 0 (qA d1).toList=w7 at *
    have c32:=HD7.out.get (Qb (Qz d1_ok.len))
    have f32:=HD7.out.frz 32
    obtain⟨d9,hd9⟩:∃d9,d9=({d1 with h:={d1.h with pc:=((pc+4)%4294967296)}}:DidD):=⟨_,rfl⟩
    have d9_ok:d9.Ok:=yF
    have HD9:Hid (DBox (w.heap.size+2) (w.heap.size+1) 67 (w7.setCell ⟨w.heap.size+2,32,none⟩ (.int .u32 ((pc+4)%4294967296))) d9):=lI (by
      rw[hd9]
      exact HD7.out.set 32 (.int .u32 ((pc+4)%4294967296)) xC (qq (qh d1_ok.len ((pc+4)%4294967296)) yT))
    have hbf:=hbe.setCell (p:=⟨w.heap.size+2,32,none⟩) zU (.int .u32 ((pc+4)%4294967296))
    have HD9E:=lI hd9
    clear hd9
    go_upto_region 55 with(fail)
    have ht:=HD9.out.there
    rw[←qT d9_ok]at ht
    have hld:=qQ (P:=Tryz.prog) ht Tryz.underlying67 rfl (qG d9_ok)
    go_wp2_with (first|(refine qI rfl 67 _ rfl (w.heap.size+2) 0 rfl (qA d9) _ HD9.out.at_ Tryz.underlying67 rfl (qG d9_ok) ?_)|(refine sT rfl 67 _ _ rfl (w.heap.size+1) 0 (qA d9) rfl rfl ht (qG d9_ok) (qX d9_ok) ?_))
    have hW:=qB (b:=w.heap.size+1) om (qA d9).toList 0 _ hbf
    refine sP (qk zP _ zP hld) rfl ⟨d9,rfl, ?_, ?_, ?_,hW⟩
    · have hmF:Ints .u8 ((w7.setCell ⟨w.heap.size+2,32,none⟩ (.int .u32 ((pc+4)%4294967296))).setCells (w.heap.size+1) 0 (qA d9).toList) d1.vm c1m:=by
        rcases HFR.out with e|hf
        · rw[e];exact ur HV.out (by rw[←e];exact hm7) hbe hW
        · exact qt (JI hf om) _ _ _ (hm7.set_other (fun b off n c e=>by have:=hf b xF;show w.heap.size+2≠b;omega) _)
      have hX:=(HDD.out _ hmF).setPc (((pc+4)%4294967296))
      rw[HD9E.out]at hX ⊢
      exact hX
    · rcases HFR.out with e|hf
      · exact .inl (by rw[HD9E.out];exact e)
      · exact .inr wB
    · rw[HD9E.out];intro q e;rw[show(({d1 with h:={d1.h with pc:=((pc+4)%4294967296)}}):DidD).vo=.slice none 0 0 from HVO.out]at e;cases e
  · skip
    go_upto_region 42 with(fail)
    go_wp2_with (first|(refine qI rfl 67 _ rfl (w.heap.size+2) 0 rfl (qA d0) _ HD6.out.at_ Tryz.underlying67 rfl (qG d0_ok) ?_))
    refine(atom4_any d0 c0 _ (HDO.out _ (HV.out.below hbz)) HWC.out (by rw[HC0.out];exact hl) op kd k1 k2 imm ⟨o0,o1⟩ hk xa xb HA.out HB.out).mono ?_
    rw[show(qY c0 op xa xb).2.2=false from hq]
    rintro e w6 ⟨d1,rfl,hdo,hfr',hvo',hb6⟩
    have d1_ok:d1.Ok:=hdo.ok (atomR_wf HWC.out op xa xb kd HA.out HB.out)
    obtain⟨c1m,hc1m⟩:∃x,x=(Jc c0 op xa xb kd).m:=⟨_,rfl⟩
    have hm6:Ints .u8 w6 d1.vm c1m:=by rw[hc1m];exact hdo.m
    have HFR:Hid (d1.vm=.slice ao l.length cap∨∀q,d1.vm.ownBlock=some q→w.heap.size+3≤q):=lI (hfr'.imp (fun e=>by rw[e,HD0E.out]) (fun hf q e=>by have:=hf q e;omega))
    have HVO:Hid (d1.vo=.slice none 0 0):=lI (by rw[hvo',HD0E.out])
    have HDD:Hid (∀W,Ints .u8 W d1.vm c1m→qd W d1 (Jc c0 op xa xb kd)):=lI (fun W hm=>⟨hdo.h,by rw[hc1m]at hm;exact hm,by rw[hvo',HD0E.out,atomR_out,HC0.out];exact Sl.nil _ _,hdo.fr,hdo.many⟩)
    clear hdo hfr' hvo' hc1m
    have hs6:=hb6.size
    have HB6:=HD6.out.below om om hb6
    have htB:=HB6.thereB d0_ok d1_ok
    have HD7:=lI (HB6.put d0_ok d1_ok)
    have hb60:=hbz.trans (hb6.mono om)
    have hbe:=qB (b:=w.heap.size+2) om (qA d1).toList 0 _ hb60
    have hm7:Ints .u8 (w6.setCells (w.heap.size+2) 0 (qA d1).toList) d1.vm c1m:=by
      rcases HFR.out with e|hf
      · rw[e];exact ur HV.out (by rw[←e];exact hm6) hb60 hbe
      · exact qt (JI hf om) _ _ _ hm6
    clear hb6 HB6 p0 p1 p2 p3 p4 hh5 hpc5 hm6 hb60
    go_upto_region 44 with(first|(refine sT rfl 67 _ _ rfl (w.heap.size+2) 0 (qA d1) rfl rfl htB (qG d1_ok) (qX d1_ok) ?_))
    generalize w6.setCells (w.heap.size+2) 0 (qA d1).toList=w7 at *
    obtain⟨d9,hd9⟩:∃d9,d9=d1:=⟨_,rfl⟩
    have d9_ok:d9.Ok:=by rw[hd9];exact d1_ok
    have HD9:Hid (DBox (w.heap.size+2) (w.heap.size+1) 67 w7 d9):=lI (by rw[hd9];exact HD7.out)
    have hbf:=hbe
    have HD9E:=lI hd9
    clear hd9
    have ht:=HD9.out.there
    rw[←qT d9_ok]at ht
    have hld:=qQ (P:=Tryz.prog) ht Tryz.underlying67 rfl (qG d9_ok)
    go_wp2_with (first|(refine qI rfl 67 _ rfl (w.heap.size+2) 0 rfl (qA d9) _ HD9.out.at_ Tryz.underlying67 rfl (qG d9_ok) ?_)|(refine sT rfl 67 _ _ rfl (w.heap.size+1) 0 (qA d9) rfl rfl ht (qG d9_ok) (qX d9_ok) ?_))
    have hW:=qB (b:=w.heap.size+1) om (qA d9).toList 0 _ hbf
    refine sP (qk zP _ zP hld) rfl ⟨d9,rfl, ?_, ?_, ?_,hW⟩
    · have hmF:Ints .u8 (w7.setCells (w.heap.size+1) 0 (qA d9).toList) d1.vm c1m:=by
        rcases HFR.out with e|hf
        · rw[e];exact ur HV.out (by rw[←e];exact hm7) hbe hW
        · exact qt (JI hf om) _ _ _ hm7
      have hX:=HDD.out _ hmF
      rw[HD9E.out]at hX ⊢
      exact hX
    · rcases HFR.out with e|hf
      · exact .inl (by rw[HD9E.out];exact e)
      · exact .inr wB
    · rw[HD9E.out];intro q e;rw[show(d1:DidD).vo=.slice none 0 0 from HVO.out]at e;cases e
  · skip
    go_upto_region 42 with(fail)
    go_wp2_with (first|(refine qI rfl 67 _ rfl (w.heap.size+2) 0 rfl (qA d0) _ HD6.out.at_ Tryz.underlying67 rfl (qG d0_ok) ?_))
    refine(atom4_any d0 c0 _ (HDO.out _ (HV.out.below hbz)) HWC.out (by rw[HC0.out];exact hl) op kd k1 k2 imm ⟨o0,o1⟩ hk xa xb HA.out HB.out).mono ?_
    rw[show(qY c0 op xa xb).2.2=true from hq]
    rintro e w6 ⟨d1,rfl,hdo,hfr',hvo',hb6⟩
    have d1_ok:d1.Ok:=hdo.ok (atomR_wf HWC.out op xa xb kd HA.out HB.out)
    obtain⟨c1m,hc1m⟩:∃x,x=(Jc c0 op xa xb kd).m:=⟨_,rfl⟩
    have hm6:Ints .u8 w6 d1.vm c1m:=by rw[hc1m];exact hdo.m
    have HFR:Hid (d1.vm=.slice ao l.length cap∨∀q,d1.vm.ownBlock=some q→w.heap.size+3≤q):=lI (hfr'.imp (fun e=>by rw[e,HD0E.out]) (fun hf q e=>by have:=hf q e;omega))
    have HVO:Hid (d1.vo=.slice none 0 0):=lI (by rw[hvo',HD0E.out])
    have HDD:Hid (∀W,Ints .u8 W d1.vm c1m→qd W d1 (Jc c0 op xa xb kd)):=lI (fun W hm=>⟨hdo.h,by rw[hc1m]at hm;exact hm,by rw[hvo',HD0E.out,atomR_out,HC0.out];exact Sl.nil _ _,hdo.fr,hdo.many⟩)
    clear hdo hfr' hvo' hc1m
    have hs6:=hb6.size
    have HB6:=HD6.out.below om om hb6
    have htB:=HB6.thereB d0_ok d1_ok
    have HD7:=lI (HB6.put d0_ok d1_ok)
    have hb60:=hbz.trans (hb6.mono om)
    have hbe:=qB (b:=w.heap.size+2) om (qA d1).toList 0 _ hb60
    have hm7:Ints .u8 (w6.setCells (w.heap.size+2) 0 (qA d1).toList) d1.vm c1m:=by
      rcases HFR.out with e|hf
      · rw[e];exact ur HV.out (by rw[←e];exact hm6) hb60 hbe
      · exact qt (JI hf om) _ _ _ hm6
    clear hb6 HB6 p0 p1 p2 p3 p4 hh5 hpc5 hm6 hb60
    go_upto_region 54 with(first|(refine sT rfl 67 _ _ rfl (w.heap.size+2) 0 (qA d1) rfl rfl htB (qG d1_ok) (qX d1_ok) ?_))
    generalize w6.setCells (w.heap.size+2) 0 (qA d1).toList=w7 at *
    have c32:=HD7.out.get (Qb (Qz d1_ok.len))
    have f32:=HD7.out.frz 32
    obtain⟨d9,hd9⟩:∃d9,d9=({d1 with h:={d1.h with pc:=((pc+4)%4294967296)}}:DidD):=⟨_,rfl⟩
    have d9_ok:d9.Ok:=yF
    have HD9:Hid (DBox (w.heap.size+2) (w.heap.size+1) 67 (w7.setCell ⟨w.heap.size+2,32,none⟩ (.int .u32 ((pc+4)%4294967296))) d9):=lI (by
      rw[hd9]
      exact HD7.out.set 32 (.int .u32 ((pc+4)%4294967296)) xC (qq (qh d1_ok.len ((pc+4)%4294967296)) yT))
    have hbf:=hbe.setCell (p:=⟨w.heap.size+2,32,none⟩) zU (.int .u32 ((pc+4)%4294967296))
    have HD9E:=lI hd9
    clear hd9
    go_upto_region 55 with(fail)
    have ht:=HD9.out.there
    rw[←qT d9_ok]at ht
    have hld:=qQ (P:=Tryz.prog) ht Tryz.underlying67 rfl (qG d9_ok)
    go_wp2_with (first|(refine qI rfl 67 _ rfl (w.heap.size+2) 0 rfl (qA d9) _ HD9.out.at_ Tryz.underlying67 rfl (qG d9_ok) ?_)|(refine sT rfl 67 _ _ rfl (w.heap.size+1) 0 (qA d9) rfl rfl ht (qG d9_ok) (qX d9_ok) ?_))
    have hW:=qB (b:=w.heap.size+1) om (qA d9).toList 0 _ hbf
    refine sP (qk zP _ zP hld) rfl ⟨d9,rfl, ?_, ?_, ?_,hW⟩
    · have hmF:Ints .u8 ((w7.setCell ⟨w.heap.size+2,32,none⟩ (.int .u32 ((pc+4)%4294967296))).setCells (w.heap.size+1) 0 (qA d9).toList) d1.vm c1m:=by
        rcases HFR.out with e|hf
        · rw[e];exact ur HV.out (by rw[←e];exact hm7) hbe hW
        · exact qt (JI hf om) _ _ _ (hm7.set_other (fun b off n c e=>by have:=hf b xF;show w.heap.size+2≠b;omega) _)
      have hX:=(HDD.out _ hmF).setPc (((pc+4)%4294967296))
      rw[HD9E.out]at hX ⊢
      exact hX
    · rcases HFR.out with e|hf
      · exact .inl (by rw[HD9E.out];exact e)
      · exact .inr wB
    · rw[HD9E.out];intro q e;rw[show(({d1 with h:={d1.h with pc:=((pc+4)%4294967296)}}):DidD).vo=.slice none 0 0 from HVO.out]at e;cases e
  · skip
    have hopl:=HOP.out
    subst hopl
    have HDD:Hid (∀W,Below w.heap.size w W→qd W d0 c0):=lI (fun W hW=>HDO.out W (HV.out.below hW))
    have HVM:Hid (d0.vm=.slice ao l.length cap∧d0.vo=.slice none 0 0):=lI xG
    have hbe:=hbz
    have r17:=hh5.get (qV wf 17 zL)
    simp only[sM]at r17
    rw[show h.regs.getD 17 0=0 from hq]at r17
    go_upto_region 47 with(fail)
    clear r17 hpc5 hh5 p0 p1 p2 p3 p4
    have c35:=HD6.out.get (Qb (hlist_state' d0_ok.len))
    have f35:=HD6.out.frz 35
    obtain⟨d9,hd9⟩:∃d9,d9=({d0 with h:={d0.h with state:=1}}:DidD):=⟨_,rfl⟩
    have d9_ok:d9.Ok:=wE
    have HD9:Hid (DBox (w.heap.size+2) (w.heap.size+1) 67 (w5.setCell ⟨w.heap.size+2,35,none⟩ (.int .i64 1)) d9):=lI (by
      rw[hd9]
      exact HD6.out.set 35 (.int .i64 1) wQ (qq (js d0_ok.len 1) (by rw[QR d0_ok.len];omega)))
    have hbf:=hbe.setCell (p:=⟨w.heap.size+2,35,none⟩) zU (.int .i64 1)
    have HD9E:=lI hd9
    clear hd9
    go_upto_region 48 with(fail)
    have ht:=HD9.out.there
    rw[←qT d9_ok]at ht
    have hld:=qQ (P:=Tryz.prog) ht Tryz.underlying67 rfl (qG d9_ok)
    go_wp2_with (first|(refine qI rfl 67 _ rfl (w.heap.size+2) 0 rfl (qA d9) _ HD9.out.at_ Tryz.underlying67 rfl (qG d9_ok) ?_)|(refine sT rfl 67 _ _ rfl (w.heap.size+1) 0 (qA d9) rfl rfl ht (qG d9_ok) (qX d9_ok) ?_))
    refine sP (qk zP _ zP hld) rfl ⟨d9,rfl, ?_,.inl ?_, ?_,qB om _ _ _ hbf⟩
    · rw[HD9E.out]
      have hW:=qB (b:=w.heap.size+1) om (qA d9).toList 0 _ hbf
      rw[HD9E.out]at hW
      exact(HDD.out _ hW).setState _
    · rw[HD9E.out];exact HVM.out.1
    · rw[HD9E.out];intro q e;rw[show({d0 with h:={d0.h with state:=1}}:DidD).vo=.slice none 0 0 from HVM.out.2]at e;cases e
  · skip
    have hopl:=HOP.out
    subst hopl
    have r17:=hh5.get (qV wf 17 zL)
    simp only[sM]at r17
    have r10:=hh5.get (qV wf 10 zL)
    simp only[sM]at r10
    rw[show h.regs.getD 17 0=1 from hq]at r17
    rw[show h.regs.getD 10 0=x10 from HX10.out]at r10
    go_upto_region 51 with(fail)
    have hnew:Below w5.heap.size w5 (w5.alloc (.cells #[.int .u32 x10] 43)):=Below.alloc br (sO _) _
    obtain⟨d1,hd1⟩:∃d1,d1=({d0 with vo:=.slice (some ⟨w5.heap.size,0,none⟩) 1 1}:DidD):=⟨_,rfl⟩
    have d1_ok:d1.Ok:=by rw[hd1];exact⟨d0_ok.len,d0_ok.m1,rfl⟩
    have HD7:Hid (DBox (w.heap.size+2) (w.heap.size+1) 67 ((w5.alloc (.cells #[.int .u32 x10] 43)).setCell ⟨w.heap.size+2,38,none⟩ (.slice (some ⟨w5.heap.size,0,none⟩) 1 1)) d1):=lI (by
      rw[hd1]
      exact(HD6.out.below om om hnew).set 38 (.slice (some ⟨w5.heap.size,0,none⟩) 1 1) wQ (UP (d:=d0) (d':={d0 with vo:=.slice (some ⟨w5.heap.size,0,none⟩) 1 1}) rfl d0_ok.len (j:=1) rfl))
    have HD6a:=HD6.out.below om om hnew
    have c38:(w5.alloc (.cells #[.int .u32 x10] 43)).cell? ⟨w.heap.size+2,38,none⟩=some (.slice none 0 0):=HD6a.get (by
      have:=jQ (d:=d0) d0_ok.len 1
      rw[show 37+1=38 from rfl]at this
      rw[this]
      show some d0.vo=_
      rw[HD0E.out])
    have f38:=HD6a.frz 38
    have hbe0:=hbz.trans (hnew.mono om)
    have hbe:=hbe0.setCell (p:=⟨w.heap.size+2,38,none⟩) zU (.slice (some ⟨w5.heap.size,0,none⟩) 1 1)
    have hX:Ints .u32 ((w5.alloc (.cells #[.int .u32 x10] 43)).setCell ⟨w.heap.size+2,38,none⟩ (.slice (some ⟨w5.heap.size,0,none⟩) 1 1)) (.slice (some ⟨w5.heap.size,0,none⟩) 1 1) [x10]:=Ints.mk ((Qf w5 [.int .u32 x10] 43 (0,0)).set_other (p:=⟨w.heap.size+2,38,none⟩) (by show w.heap.size+2≠w5.heap.size;omega) _) rfl zL zL
    have HX:=lI hX
    have HS5:Hid (w.heap.size+3≤w5.heap.size):=lI om
    have HVM:Hid (d1.vm=.slice ao l.length cap∧d1.vo=.slice (some ⟨w5.heap.size,0,none⟩) 1 1):=lI xA
    have HDD:Hid (∀W,Below w.heap.size w W→Ints .u32 W d1.vo [x10]→qd W d1 {c0 with out:=c0.out++[x10]}):=lI (fun W hW ho=>by
      have hx:=HDO.out _ (HV.out.below hW)
      have e0:c0.out=[]:=by rw[HC0.out]
      rw[e0,List.nil_append]
      rw[hd1]at ho ⊢
      exact⟨hx.h,hx.m,ho,hx.fr,hx.many⟩)
    have p0n:((w5.alloc (.cells #[.int .u32 x10] 43)).setCell ⟨w.heap.size+2,38,none⟩ (.slice (some ⟨w5.heap.size,0,none⟩) 1 1)).cell? ⟨w3.heap.size,0,none⟩=some (.int .i64 58):=(sJ _ _ _ _ yL).trans ((hnew.cell (p:=⟨w3.heap.size,0,none⟩) (by show w3.heap.size<_;omega)).trans p0)
    clear hd1 hX hnew hbe0 hh5 HD6a p0 p1 p2 p3 p4 hsz5
    go_upto_region 54 with(fail)
    generalize ((w5.alloc (.cells #[.int .u32 x10] 43)).setCell ⟨w.heap.size+2,38,none⟩ (.slice (some ⟨w5.heap.size,0,none⟩) 1 1))=w7 at *
    have c32:=HD7.out.get (Qb (Qz d1_ok.len))
    have f32:=HD7.out.frz 32
    obtain⟨d9,hd9⟩:∃d9,d9=({d1 with h:={d1.h with pc:=((pc+4)%4294967296)}}:DidD):=⟨_,rfl⟩
    have d9_ok:d9.Ok:=yF
    have HD9:Hid (DBox (w.heap.size+2) (w.heap.size+1) 67 (w7.setCell ⟨w.heap.size+2,32,none⟩ (.int .u32 ((pc+4)%4294967296))) d9):=lI (by
      rw[hd9]
      exact HD7.out.set 32 (.int .u32 ((pc+4)%4294967296)) xC (qq (qh d1_ok.len ((pc+4)%4294967296)) yT))
    have hbf:=hbe.setCell (p:=⟨w.heap.size+2,32,none⟩) zU (.int .u32 ((pc+4)%4294967296))
    have HD9E:=lI hd9
    clear hd9
    go_upto_region 55 with(fail)
    have ht:=HD9.out.there
    rw[←qT d9_ok]at ht
    have hld:=qQ (P:=Tryz.prog) ht Tryz.underlying67 rfl (qG d9_ok)
    go_wp2_with (first|(refine qI rfl 67 _ rfl (w.heap.size+2) 0 rfl (qA d9) _ HD9.out.at_ Tryz.underlying67 rfl (qG d9_ok) ?_)|(refine sT rfl 67 _ _ rfl (w.heap.size+1) 0 (qA d9) rfl rfl ht (qG d9_ok) (qX d9_ok) ?_))
    refine sP (qk zP _ zP hld) rfl ⟨d9,rfl, ?_,.inl ?_, ?_,qB om _ _ _ hbf⟩
    · rw[HD9E.out]
      have hW:=qB (b:=w.heap.size+1) om (qA d9).toList 0 _ hbf
      rw[HD9E.out]at hW
      exact(HDD.out _ hW (by rw[HVM.out.2];exact qt (fun b off n c e=>by cases e;have:=HS5.out;omega) _ _ _ (HX.out.set_other (fun b off n c e=>by cases e;have:=HS5.out;show w.heap.size+2≠_;omega) _))).setPc _
    · rw[HD9E.out];exact HVM.out.1
    · rw[HD9E.out];intro q e;rw[show({d1 with h:={d1.h with pc:=((pc+4)%4294967296)}}:DidD).vo=.slice (some ⟨w5.heap.size,0,none⟩) 1 1 from HVM.out.2]at e;cases e;have:=HS5.out;show w.heap.size≤w5.heap.size;omega
  · skip
    have hopl:=HOP.out
    subst hopl
    have HDD:Hid (∀W,Below w.heap.size w W→qd W d0 c0):=lI (fun W hW=>HDO.out W (HV.out.below hW))
    have HVM:Hid (d0.vm=.slice ao l.length cap∧d0.vo=.slice none 0 0):=lI xG
    have hbe:=hbz
    have r17:=hh5.get (qV wf 17 zL)
    simp only[sM]at r17
    obtain⟨x17,hx17⟩:∃x,x=h.regs.getD 17 0:=⟨_,rfl⟩
    have g0:(x17==0)=false:=sH.2 (by rw[hx17];exact hq.1)
    have g1:(x17==1)=false:=sH.2 (by rw[hx17];exact hq.2)
    rw[←hx17]at r17
    clear hx17 hq
    go_upto_region 50 with(fail)
    go_wp2_with (first|(refine qI rfl 67 _ rfl (w.heap.size+2) 0 rfl (qA d0) _ HD6.out.at_ Tryz.underlying67 rfl (qG d0_ok) ?_))
    refine(JN d0 d0_ok 5 _).mono ?_
    rintro e w8 ⟨rfl,hb8⟩
    have hs8:=hb8.size
    have HD8:=lI (HD6.out.below om om hb8)
    have dt_ok:(d0.trap 5).Ok:=⟨d0_ok.len,d0_ok.m1,d0_ok.o1⟩
    have hbt:=hbz.trans (hb8.mono om)
    clear hb8
    have ht:(w8).there (w.heap.size+1) 0 (qA (d0.trap 5)).size:=wH
    have hld:=qQ (P:=Tryz.prog) ht Tryz.underlying67 rfl (qG dt_ok)
    go_wp2_with (first|(refine sT rfl 67 _ _ rfl (w.heap.size+1) 0 (qA (d0.trap 5)) rfl rfl ht (qG dt_ok) (qX dt_ok) ?_))
    refine sP (qk zP _ zP hld) rfl ⟨_,rfl,(HDD.out _ (qB om _ _ _ hbt)).trap 5,.inl ?_, ?_,qB om _ _ _ hbt⟩
    · exact HVM.out.1
    · intro q e;rw[show(d0.trap 5).vo=.slice none 0 0 from HVM.out.2]at e;cases e
abbrev step4_store_no:=uE.1
abbrev step4_store_yes:=uE.2.1
abbrev step4_atom_no:=uE.2.2.1
abbrev step4_atom_yes:=uE.2.2.2.1
abbrev step4_ecall0:=uE.2.2.2.2.1
abbrev step4_ecall1:=uE.2.2.2.2.2.1
abbrev step4_ecall2:=uE.2.2.2.2.2.2
end Go.Proofs.YtlfnddmncbkjaacGreat.W
