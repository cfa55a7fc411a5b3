import Derived.Test.YtlfnddmncbkjaacGreatZGX
import Derived.Test.YtlfnddmncbkjaacGreatZWDecode2
set_option linter.unusedVariables false
set_option linter.unusedSimpArgs false
set_option maxRecDepth 100000
set_option maxHeartbeats 4000000
namespace Go.Proofs.YtlfnddmncbkjaacGreat.W
open Go.RowKit Fb
theorem uc:
    (∀(h:Hart) (wf:h.Wf) (v:Value) (l:List Int) (w:World) (hv:Ints .u8 w v l) (hb:QP l) (hl:l.length≤4096) (hok:qN l 13 h.pc=true) (op:Int) (kd k1 k2:Nat) (imm:Int) (hop:5≤op∧op≤10) (hk:kd<32) (h1:k1<32) (h2:k2<32) (hi: -2147483648≤imm∧imm≤2147483647) (hdec:dec (qa l 13 h.pc)=some ⟨op,kd,k1,k2,imm⟩) (hq:holds op (h.reg k1) (h.reg k2)=true),Calls Tryz.prog 18 #[.agg (qL h),v] w fun e w'=>∃d',e=.returned (.agg (qA d'))∧qd w' d' (doS ⟨op,kd,k1,k2,imm⟩ (⟨h,l,[],0,0⟩:qD))∧(d'.vm=v∨∀q,d'.vm.ownBlock=some q→w.heap.size≤q)∧(∀q,d'.vo.ownBlock=some q→w.heap.size≤q)∧Below w.heap.size w w')∧
    (∀(h:Hart) (wf:h.Wf) (v:Value) (l:List Int) (w:World) (hv:Ints .u8 w v l) (hb:QP l) (hl:l.length≤4096) (hok:qN l 13 h.pc=true) (op:Int) (kd k1 k2:Nat) (imm:Int) (hop:5≤op∧op≤10) (hk:kd<32) (h1:k1<32) (h2:k2<32) (hi: -2147483648≤imm∧imm≤2147483647) (hdec:dec (qa l 13 h.pc)=some ⟨op,kd,k1,k2,imm⟩) (hq:holds op (h.reg k1) (h.reg k2)=false),Calls Tryz.prog 18 #[.agg (qL h),v] w fun e w'=>∃d',e=.returned (.agg (qA d'))∧qd w' d' (doS ⟨op,kd,k1,k2,imm⟩ (⟨h,l,[],0,0⟩:qD))∧(d'.vm=v∨∀q,d'.vm.ownBlock=some q→w.heap.size≤q)∧(∀q,d'.vo.ownBlock=some q→w.heap.size≤q)∧Below w.heap.size w w')∧
    (∀(h:Hart) (wf:h.Wf) (v:Value) (l:List Int) (w:World) (hv:Ints .u8 w v l) (hb:QP l) (hl:l.length≤4096) (hok:qN l 13 h.pc=true) (op:Int) (kd k1 k2:Nat) (imm:Int) (hop:11≤op∧op≤15) (hk:kd<32) (h1:k1<32) (h2:k2<32) (hi: -2147483648≤imm∧imm≤2147483647) (hdec:dec (qa l 13 h.pc)=some ⟨op,kd,k1,k2,imm⟩) (hq:qN l op ((h.reg k1+imm%4294967296)%4294967296)=false),Calls Tryz.prog 18 #[.agg (qL h),v] w fun e w'=>∃d',e=.returned (.agg (qA d'))∧qd w' d' (doS ⟨op,kd,k1,k2,imm⟩ (⟨h,l,[],0,0⟩:qD))∧(d'.vm=v∨∀q,d'.vm.ownBlock=some q→w.heap.size≤q)∧(∀q,d'.vo.ownBlock=some q→w.heap.size≤q)∧Below w.heap.size w w')∧
    (∀(h:Hart) (wf:h.Wf) (v:Value) (l:List Int) (w:World) (hv:Ints .u8 w v l) (hb:QP l) (hl:l.length≤4096) (hok:qN l 13 h.pc=true) (op:Int) (kd k1 k2:Nat) (imm:Int) (hop:11≤op∧op≤15) (hk:kd<32) (h1:k1<32) (h2:k2<32) (hi: -2147483648≤imm∧imm≤2147483647) (hdec:dec (qa l 13 h.pc)=some ⟨op,kd,k1,k2,imm⟩) (hq:qN l op ((h.reg k1+imm%4294967296)%4294967296)=true),Calls Tryz.prog 18 #[.agg (qL h),v] w fun e w'=>∃d',e=.returned (.agg (qA d'))∧qd w' d' (doS ⟨op,kd,k1,k2,imm⟩ (⟨h,l,[],0,0⟩:qD))∧(d'.vm=v∨∀q,d'.vm.ownBlock=some q→w.heap.size≤q)∧(∀q,d'.vo.ownBlock=some q→w.heap.size≤q)∧Below w.heap.size w w')∧
    (∀(h:Hart) (wf:h.Wf) (v:Value) (l:List Int) (w:World) (hv:Ints .u8 w v l) (hb:QP l) (hl:l.length≤4096) (hok:qN l 13 h.pc=true) (op:Int) (kd k1 k2:Nat) (imm:Int) (hop:19≤op∧op≤27) (hk:kd<32) (h1:k1<32) (h2:k2<32) (hi: -2147483648≤imm∧imm≤2147483647) (hdec:dec (qa l 13 h.pc)=some ⟨op,kd,k1,k2,imm⟩),Calls Tryz.prog 18 #[.agg (qL h),v] w fun e w'=>∃d',e=.returned (.agg (qA d'))∧qd w' d' (doS ⟨op,kd,k1,k2,imm⟩ (⟨h,l,[],0,0⟩:qD))∧(d'.vm=v∨∀q,d'.vm.ownBlock=some q→w.heap.size≤q)∧(∀q,d'.vo.ownBlock=some q→w.heap.size≤q)∧Below w.heap.size w w')∧
    (∀(h:Hart) (wf:h.Wf) (v:Value) (l:List Int) (w:World) (hv:Ints .u8 w v l) (hb:QP l) (hl:l.length≤4096) (hok:qN l 13 h.pc=true) (op:Int) (kd k1 k2:Nat) (imm:Int) (hop:28≤op∧op≤45) (hk:kd<32) (h1:k1<32) (h2:k2<32) (hi: -2147483648≤imm∧imm≤2147483647) (hdec:dec (qa l 13 h.pc)=some ⟨op,kd,k1,k2,imm⟩),Calls Tryz.prog 18 #[.agg (qL h),v] w fun e w'=>∃d',e=.returned (.agg (qA d'))∧qd w' d' (doS ⟨op,kd,k1,k2,imm⟩ (⟨h,l,[],0,0⟩:qD))∧(d'.vm=v∨∀q,d'.vm.ownBlock=some q→w.heap.size≤q)∧(∀q,d'.vo.ownBlock=some q→w.heap.size≤q)∧Below w.heap.size w w'):=by
  refine⟨?g0, ?g1, ?g2, ?g3, ?g4, ?g5⟩
  case' g5=>
    intro h wf v l w hv hb hl hok op kd k1 k2 imm hop hk h1 h2 hi hdec
    obtain⟨o0,o1⟩:=hop
    have f1:(op==1)=false:=sH.2 om
    have f2:(op==2)=false:=sH.2 om
    have f3:(op==3)=false:=sH.2 om
    have f4:(op==4)=false:=sH.2 om
    obtain⟨i0,i1⟩:=hi
    obtain⟨xa,hxa⟩:∃x,x=h.regs.getD k1 0:=⟨_,rfl⟩
    obtain⟨xb,hxb⟩:∃x,x=h.regs.getD k2 0:=⟨_,rfl⟩
    obtain⟨xn,hxn⟩:∃x,x=imm%4294967296:=⟨_,rfl⟩
    obtain⟨pc,hpcv⟩:∃x,x=h.pc:=⟨_,rfl⟩
    have era:h.reg (k1:Int)=xa:=zX
    have erb:h.reg (k2:Int)=xb:=zW
    have ua:U32 xa:=yB
    have ub:U32 xb:=yA
    have un:U32 xn:=zO
    have up:U32 pc:=yE
    obtain⟨c0,hc0⟩:∃c,c=(⟨h,l,[],0,0⟩:qD):=⟨_,rfl⟩
    have e:doS ⟨op,kd,k1,k2,imm⟩ (⟨h,l,[],0,0⟩:qD)=(c0.set kd (alu op xa xb)).setPc ((pc+4)%4294967296):=by
      rw[hc0]
      unfold doS
      dsimp only
      rw[era,erb,←hxn,←hpcv]
      rw[if_neg om,if_neg om,if_neg om,if_neg om,if_neg om,if_neg om,if_neg om,if_neg om,if_pos om]
    rw[e]
    clear e
    have HC0:=lI hc0
    have HA:=lI ua
    have HB:=lI ub
    have HN:=lI un
    have HU:=lI up
    have HPC:Hid (h.pc=pc):=lI hpcv.symm
    have HOf:Hid (∀W,Calls Tryz.prog 30 #[.int .i64 imm] W fun e w'=>e=.returned (.int .u32 xn)∧W=w'):=lI (fun W=>by rw[hxn];exact QY imm W om)
    have HS1:=lI (fun W=>qi pc 4 W up ⟨by decide,by decide⟩)
    have HS2:=lI (fun W=>qi xa xn W ua un)
    have HAl:=lI (fun W=>alu1_any op xa xb W ua.1 ua.2 ub.1 ub.2)
    generalize alu op xa xb=xl at *
    clear era erb ua ub un up hxn hc0 hpcv
  case' g4=>
    intro h wf v l w hv hb hl hok op kd k1 k2 imm hop hk h1 h2 hi hdec
    obtain⟨o0,o1⟩:=hop
    have f1:(op==1)=false:=sH.2 om
    have f2:(op==2)=false:=sH.2 om
    have f3:(op==3)=false:=sH.2 om
    have f4:(op==4)=false:=sH.2 om
    obtain⟨i0,i1⟩:=hi
    obtain⟨xa,hxa⟩:∃x,x=h.regs.getD k1 0:=⟨_,rfl⟩
    obtain⟨xb,hxb⟩:∃x,x=h.regs.getD k2 0:=⟨_,rfl⟩
    obtain⟨xn,hxn⟩:∃x,x=imm%4294967296:=⟨_,rfl⟩
    obtain⟨pc,hpcv⟩:∃x,x=h.pc:=⟨_,rfl⟩
    have era:h.reg (k1:Int)=xa:=zX
    have erb:h.reg (k2:Int)=xb:=zW
    have ua:U32 xa:=yB
    have ub:U32 xb:=yA
    have un:U32 xn:=zO
    have up:U32 pc:=yE
    obtain⟨c0,hc0⟩:∃c,c=(⟨h,l,[],0,0⟩:qD):=⟨_,rfl⟩
    have e:doS ⟨op,kd,k1,k2,imm⟩ (⟨h,l,[],0,0⟩:qD)=(c0.set kd (alu (immOp op) xa xn)).setPc ((pc+4)%4294967296):=by
      rw[hc0]
      unfold doS
      dsimp only
      rw[era,erb,←hxn,←hpcv]
      rw[if_neg om,if_neg om,if_neg om,if_neg om,if_neg om,if_neg om,if_neg om,if_pos om]
    rw[e]
    clear e
    have HC0:=lI hc0
    have HA:=lI ua
    have HB:=lI ub
    have HN:=lI un
    have HU:=lI up
    have HPC:Hid (h.pc=pc):=lI hpcv.symm
    have HOf:Hid (∀W,Calls Tryz.prog 30 #[.int .i64 imm] W fun e w'=>e=.returned (.int .u32 xn)∧W=w'):=lI (fun W=>by rw[hxn];exact QY imm W om)
    have HS1:=lI (fun W=>qi pc 4 W up ⟨by decide,by decide⟩)
    have HS2:=lI (fun W=>qi xa xn W ua un)
    have HAl:=lI (fun W=>alu1_any (immOp op) xa xn W ua.1 ua.2 un.1 un.2)
    generalize alu (immOp op) xa xn=xl at *
    clear era erb ua ub un up hxn hc0 hpcv
  case' g3=>
    intro h wf v l w hv hb hl hok op kd k1 k2 imm hop hk h1 h2 hi hdec hq
    obtain⟨o0,o1⟩:=hop
    have f1:(op==1)=false:=sH.2 om
    have f2:(op==2)=false:=sH.2 om
    have f3:(op==3)=false:=sH.2 om
    have f4:(op==4)=false:=sH.2 om
    obtain⟨i0,i1⟩:=hi
    obtain⟨xa,hxa⟩:∃x,x=h.regs.getD k1 0:=⟨_,rfl⟩
    obtain⟨xb,hxb⟩:∃x,x=h.regs.getD k2 0:=⟨_,rfl⟩
    obtain⟨xn,hxn⟩:∃x,x=imm%4294967296:=⟨_,rfl⟩
    obtain⟨pc,hpcv⟩:∃x,x=h.pc:=⟨_,rfl⟩
    have era:h.reg (k1:Int)=xa:=zX
    have erb:h.reg (k2:Int)=xb:=zW
    rw[era,←hxn]at hq
    have ua:U32 xa:=yB
    have ub:U32 xb:=yA
    have un:U32 xn:=zO
    have up:U32 pc:=yE
    obtain⟨c0,hc0⟩:∃c,c=(⟨h,l,[],0,0⟩:qD):=⟨_,rfl⟩
    have e:doS ⟨op,kd,k1,k2,imm⟩ (⟨h,l,[],0,0⟩:qD)=(c0.set kd (qa l op ((xa+xn)%4294967296))).setPc ((pc+4)%4294967296):=by
      rw[hc0]
      unfold doS
      dsimp only
      rw[era,erb,←hxn,←hpcv]
      rw[if_neg om,if_neg om,if_neg om,if_neg om,if_neg om,if_pos om,if_pos hq]
    rw[e]
    clear e
    have HC0:=lI hc0
    have HA:=lI ua
    have HB:=lI ub
    have HN:=lI un
    have HU:=lI up
    have HPC:Hid (h.pc=pc):=lI hpcv.symm
    have HOf:Hid (∀W,Calls Tryz.prog 30 #[.int .i64 imm] W fun e w'=>e=.returned (.int .u32 xn)∧W=w'):=lI (fun W=>by rw[hxn];exact QY imm W om)
    have HS1:=lI (fun W=>qi pc 4 W up ⟨by decide,by decide⟩)
    have HS2:=lI (fun W=>qi xa xn W ua un)
    obtain⟨xl,hxl⟩:∃x,x=qa l op ((xa+xn)%4294967296):=⟨_,rfl⟩
    rw[←hxl]
    have HXL:=lI hxl
    clear hxl
    clear era erb ua ub un up hxn hc0 hpcv
  case' g2=>
    intro h wf v l w hv hb hl hok op kd k1 k2 imm hop hk h1 h2 hi hdec hq
    obtain⟨o0,o1⟩:=hop
    have f1:(op==1)=false:=sH.2 om
    have f2:(op==2)=false:=sH.2 om
    have f3:(op==3)=false:=sH.2 om
    have f4:(op==4)=false:=sH.2 om
    obtain⟨i0,i1⟩:=hi
    obtain⟨xa,hxa⟩:∃x,x=h.regs.getD k1 0:=⟨_,rfl⟩
    obtain⟨xb,hxb⟩:∃x,x=h.regs.getD k2 0:=⟨_,rfl⟩
    obtain⟨xn,hxn⟩:∃x,x=imm%4294967296:=⟨_,rfl⟩
    obtain⟨pc,hpcv⟩:∃x,x=h.pc:=⟨_,rfl⟩
    have era:h.reg (k1:Int)=xa:=zX
    have erb:h.reg (k2:Int)=xb:=zW
    rw[era,←hxn]at hq
    have ua:U32 xa:=yB
    have ub:U32 xb:=yA
    have un:U32 xn:=zO
    have up:U32 pc:=yE
    obtain⟨c0,hc0⟩:∃c,c=(⟨h,l,[],0,0⟩:qD):=⟨_,rfl⟩
    have e:doS ⟨op,kd,k1,k2,imm⟩ (⟨h,l,[],0,0⟩:qD)=c0.trap 3:=by
      rw[hc0]
      unfold doS
      dsimp only
      rw[era,erb,←hxn,←hpcv]
      rw[if_neg om,if_neg om,if_neg om,if_neg om,if_neg om,if_pos om,if_neg wF]
    rw[e]
    clear e
    have HC0:=lI hc0
    have HA:=lI ua
    have HB:=lI ub
    have HN:=lI un
    have HU:=lI up
    have HPC:Hid (h.pc=pc):=lI hpcv.symm
    have HOf:Hid (∀W,Calls Tryz.prog 30 #[.int .i64 imm] W fun e w'=>e=.returned (.int .u32 xn)∧W=w'):=lI (fun W=>by rw[hxn];exact QY imm W om)
    have HS1:=lI (fun W=>qi pc 4 W up ⟨by decide,by decide⟩)
    have HS2:=lI (fun W=>qi xa xn W ua un)
    clear era erb ua ub un up hxn hc0 hpcv
  case' g1=>
    intro h wf v l w hv hb hl hok op kd k1 k2 imm hop hk h1 h2 hi hdec hq
    obtain⟨o0,o1⟩:=hop
    have f1:(op==1)=false:=sH.2 om
    have f2:(op==2)=false:=sH.2 om
    have f3:(op==3)=false:=sH.2 om
    have f4:(op==4)=false:=sH.2 om
    obtain⟨i0,i1⟩:=hi
    obtain⟨xa,hxa⟩:∃x,x=h.regs.getD k1 0:=⟨_,rfl⟩
    obtain⟨xb,hxb⟩:∃x,x=h.regs.getD k2 0:=⟨_,rfl⟩
    obtain⟨xn,hxn⟩:∃x,x=imm%4294967296:=⟨_,rfl⟩
    obtain⟨pc,hpcv⟩:∃x,x=h.pc:=⟨_,rfl⟩
    have era:h.reg (k1:Int)=xa:=zX
    have erb:h.reg (k2:Int)=xb:=zW
    rw[era,erb]at hq
    have ua:U32 xa:=yB
    have ub:U32 xb:=yA
    have un:U32 xn:=zO
    have up:U32 pc:=yE
    obtain⟨c0,hc0⟩:∃c,c=(⟨h,l,[],0,0⟩:qD):=⟨_,rfl⟩
    have e:doS ⟨op,kd,k1,k2,imm⟩ (⟨h,l,[],0,0⟩:qD)=c0.setPc ((pc+4)%4294967296):=by
      rw[hc0]
      unfold doS
      dsimp only
      rw[era,erb,←hxn,←hpcv]
      rw[if_neg om,if_neg om,if_neg om,if_neg om,if_pos om,if_neg wF]
    rw[e]
    clear e
    have HC0:=lI hc0
    have HA:=lI ua
    have HB:=lI ub
    have HN:=lI un
    have HU:=lI up
    have HPC:Hid (h.pc=pc):=lI hpcv.symm
    have HOf:Hid (∀W,Calls Tryz.prog 30 #[.int .i64 imm] W fun e w'=>e=.returned (.int .u32 xn)∧W=w'):=lI (fun W=>by rw[hxn];exact QY imm W om)
    have HS1:=lI (fun W=>qi pc 4 W up ⟨by decide,by decide⟩)
    have HS2:=lI (fun W=>qi xa xn W ua un)
    have HS3:=lI (fun W=>qi pc xn W up un)
    have HH:=lI (fun W=>holds1_any op xa xb W ua.1 ua.2 ub.1 ub.2)
    rw[hq]at HH
    clear era erb ua ub un up hxn hc0 hpcv
  case' g0=>
    intro h wf v l w hv hb hl hok op kd k1 k2 imm hop hk h1 h2 hi hdec hq
    obtain⟨o0,o1⟩:=hop
    have f1:(op==1)=false:=sH.2 om
    have f2:(op==2)=false:=sH.2 om
    have f3:(op==3)=false:=sH.2 om
    have f4:(op==4)=false:=sH.2 om
    obtain⟨i0,i1⟩:=hi
    obtain⟨xa,hxa⟩:∃x,x=h.regs.getD k1 0:=⟨_,rfl⟩
    obtain⟨xb,hxb⟩:∃x,x=h.regs.getD k2 0:=⟨_,rfl⟩
    obtain⟨xn,hxn⟩:∃x,x=imm%4294967296:=⟨_,rfl⟩
    obtain⟨pc,hpcv⟩:∃x,x=h.pc:=⟨_,rfl⟩
    have era:h.reg (k1:Int)=xa:=zX
    have erb:h.reg (k2:Int)=xb:=zW
    rw[era,erb]at hq
    have ua:U32 xa:=yB
    have ub:U32 xb:=yA
    have un:U32 xn:=zO
    have up:U32 pc:=yE
    obtain⟨c0,hc0⟩:∃c,c=(⟨h,l,[],0,0⟩:qD):=⟨_,rfl⟩
    have e:doS ⟨op,kd,k1,k2,imm⟩ (⟨h,l,[],0,0⟩:qD)=c0.setPc ((pc+xn)%4294967296):=by
      rw[hc0]
      unfold doS
      dsimp only
      rw[era,erb,←hxn,←hpcv]
      rw[if_neg om,if_neg om,if_neg om,if_neg om,if_pos om,if_pos hq]
    rw[e]
    clear e
    have HC0:=lI hc0
    have HA:=lI ua
    have HB:=lI ub
    have HN:=lI un
    have HU:=lI up
    have HPC:Hid (h.pc=pc):=lI hpcv.symm
    have HOf:Hid (∀W,Calls Tryz.prog 30 #[.int .i64 imm] W fun e w'=>e=.returned (.int .u32 xn)∧W=w'):=lI (fun W=>by rw[hxn];exact QY imm W om)
    have HS1:=lI (fun W=>qi pc 4 W up ⟨by decide,by decide⟩)
    have HS2:=lI (fun W=>qi xa xn W ua un)
    have HS3:=lI (fun W=>qi pc xn W up un)
    have HH:=lI (fun W=>holds1_any op xa xb W ua.1 ua.2 ub.1 ub.2)
    rw[hq]at HH
    clear era erb ua ub un up hxn hc0 hpcv
  all_goals
    obtain⟨ao,cap,hve,_⟩:=hv.open
    have HV:=lI hv
    have wfc:((⟨h,l,[],0,0⟩:qD)).Wf:=⟨wf,hb,by simp,(⟨by decide,by decide⟩:U32 0),(⟨by decide,by decide⟩:U32 0),xZ,by simp⟩
    obtain⟨d0,hd0⟩:∃d0,d0=(⟨h,v,.slice none 0 0,0,0⟩:DidD):=⟨_,rfl⟩
    have d0_ok:d0.Ok:=wA
    have HBD:=lI (fun W=>UB h wf.len v hv.one ao _ cap hve W)
    rw[←hd0]at HBD
    have hbox:At (w.alloc (.cells (qL h) 46)) w.heap.size 0 (qJ h):=Qf w (qJ h) 46 (0,0)
    have hsz:(Tryz.prog.info? 46).map (·.size)=some (qL h).size:=wK
    have HDO:Hid (∀W,Ints .u8 W v l→qd W d0 c0):=lI (fun W hW=>by rw[hd0,HC0.out];exact⟨rfl,hW,Sl.nil _ _,rfl,rfl⟩)
    have HD0E:=lI hd0
    subst hve
    clear hv hd0
    go_enter Tryz.func18,Tryz.ntmps18
    go_upto_region 1 with(fail)
    show Code.wp _ _ _ _ ((w.alloc (.cells (qL h) 46)).alloc (.cells (qA did0) 67))
    have hb1:At ((w.alloc (.cells (qL h) 46)).alloc (.cells (qA did0) 67)) w.heap.size 0 (qJ h):=hbox.below Fb.blw
    have hbz1:Below w.heap.size w ((w.alloc (.cells (qL h) 46)).alloc (.cells (qA did0) 67)):=Fb.blw
    have hs1:(((w.alloc (.cells (qL h) 46)).alloc (.cells (qA did0) 67))).heap.size=w.heap.size+2:=zG
    have hR1:=Jn h (w:=w) (tH:=46) (tD:=67)
    generalize ((w.alloc (.cells (qL h) 46)).alloc (.cells (qA did0) 67))=w1 at *
    have HSZ1:=lI hs1
    clear hs1
    go_upto_region 2 with(first|(refine qI rfl 46 _ rfl w.heap.size 0 rfl (qL h) _ hb1 Tryz.underlying46 rfl hsz ?_)|(refine JE rfl 67 _ rfl #[(0,.agg (qL h)),(1,.slice ao l.length cap)] wC _ (HBD.out _) ?_)|(refine Qw rfl 67 _ _ rfl w1 _ (qA d0) rfl rfl rfl (qG d0_ok) wR (Jx d0_ok) ?_))
    have hs1:=HSZ1.out
    have hD:=DBox.begin3 (w:=w1) (tD:=67) (d:=d0) hR1 om
    have hb2:=hb1.below (Below.alloc br (sO _) (.cells (qA d0) 67))
    have hbz2:Below w.heap.size w (w1.alloc (.cells (qA d0) 67)):=hbz1.trans (Below.alloc br om _)
    have hs2:(w1.alloc (.cells (qA d0) 67)).heap.size=w.heap.size+3:=zB
    rw[hs1]at hD
    have e12:w1.heap.size=w.heap.size+2:=hs1
    rw[e12]
    generalize w1.alloc (.cells (qA d0) 67)=w2 at *
    have hpc:=hb2.get (qe wf)
    simp only[sM]at hpc
    clear hb1 hbz1 hs1 hR1 e12
    have HL:=lI (fun W hW=>Qy (.slice ao l.length cap) l 13 h.pc W hW wf.pc hb.getD)
    rw[hok]at HL
    clear hok
    have HDc:=lI (fun W=>uS (qa l 13 h.pc) W (um l h.pc wf.pc hb.getD))
    rw[hdec]at HDc
    simp only[Option.getD_some,Option.isSome_some,ql]at HDc
    go_upto_region 5 with(go_at_call 27;refine(HL.out _ (HV.out.below hbz2)).mono ?_;rintro e w3 ⟨rfl,rfl⟩)
    go_wp2_with fail
    refine(HDc.out _).mono ?_
    rintro e w3 ⟨rfl,hb3⟩
    obtain⟨w4,hw4⟩:∃w4,w4=w3.alloc (.cells #[.int .i64 op,.int .i64 kd,.int .i64 k1,.int .i64 k2,.int .i32 imm] 82):=⟨_,rfl⟩
    have hs3:=hb3.size
    have hB4:Below w2.heap.size w2 w4:=by rw[hw4];exact hb3.trans (Below.alloc br hs3 _)
    have hs4:w4.heap.size=w3.heap.size+1:=wJ
    have q0:w4.cell? ⟨w3.heap.size,0,none⟩=some (.int .i64 op):=zD
    have q1:w4.cell? ⟨w3.heap.size,1,none⟩=some (.int .i64 kd):=zD
    have q2:w4.cell? ⟨w3.heap.size,2,none⟩=some (.int .i64 k1):=zD
    have q3:w4.cell? ⟨w3.heap.size,3,none⟩=some (.int .i64 k2):=zD
    have q4:w4.cell? ⟨w3.heap.size,4,none⟩=some (.int .i32 imm):=zD
    have hh4:At w4 w.heap.size 0 (qJ h):=hb2.below hB4
    have HD5:=lI ((hD.below om om hB4))
    have hra:=hh4.get (qV wf k1 h1)
    have hrb:=hh4.get (qV wf k2 h2)
    have hpc4:=hh4.get (qe wf)
    simp only[sM]at hra hrb hpc4
    rw[←hxa]at hra
    rw[←hxb]at hrb
    have hbz4:Below w.heap.size w w4:=hbz2.trans (hB4.mono om)
    have HW4:=lI hw4
    clear hw4 hb2 hB4 hb3 hD hpc hbz2 hxa hxb
    have j1:(k1:Int)<32:=om
    have j2:(k2:Int)<32:=om
    go_upto_region 6 with(fail)
    rw[←HW4.out]
    rw[HPC.out]at hpc4
    go_upto_region 13 with(first|(go_at_call 30;refine(HOf.out _).mono ?_;rintro e w' ⟨rfl,rfl⟩)|(go_at_call 31;refine(HS1.out _).mono ?_;rintro e w' ⟨rfl,na,rfl⟩)|(go_at_call 31;refine(HS2.out _).mono ?_;rintro e w' ⟨rfl,nb,rfl⟩))
    have hpc5:(w4.drewN (na+nb)).cell? ⟨w.heap.size,32,none⟩=some (.int .u32 pc):=hpc4
    have hh5:At (w4.drewN (na+nb)) w.heap.size 0 (qJ h):=hh4
    have HD6:=lI (HD5.out.drewN (na+nb))
    have hbz:Below w.heap.size w (w4.drewN (na+nb)):=qC hbz4 _
    have hsz5:(w4.drewN (na+nb)).heap.size=w3.heap.size+1:=hs4
    have p0:(w4.drewN (na+nb)).cell? ⟨w3.heap.size,0,none⟩=some (.int .i64 op):=q0
    have p1:(w4.drewN (na+nb)).cell? ⟨w3.heap.size,1,none⟩=some (.int .i64 kd):=q1
    have p2:(w4.drewN (na+nb)).cell? ⟨w3.heap.size,2,none⟩=some (.int .i64 k1):=q2
    have p3:(w4.drewN (na+nb)).cell? ⟨w3.heap.size,3,none⟩=some (.int .i64 k2):=q3
    have p4:(w4.drewN (na+nb)).cell? ⟨w3.heap.size,4,none⟩=some (.int .i32 imm):=q4
    clear q0 q1 q2 q3 q4 hpc4 hh4 HD5 hra hrb hbz4 hs4
    generalize w4.drewN (na+nb)=w5 at *
  · skip
    go_upto_region 24 with(fail)
    go_upto_region 54 with(first|(go_at_call 33;refine(HH.out _).mono ?_;rintro e w6 ⟨rfl,rfl⟩)|(go_at_call 31;refine(HS3.out _).mono ?_;rintro e w9 ⟨rfl,nc,rfl⟩))
    have HDD:Hid (∀W,Below w.heap.size w W→qd W d0 c0):=lI (fun W hW=>HDO.out W (HV.out.below hW))
    have HVM:Hid (d0.vm=.slice ao l.length cap∧d0.vo=.slice none 0 0):=lI xG
    have hbe:=hbz
    have HD6n:=lI (HD6.out.drewN nc)
    have hbe:=qC hbe nc
    clear HD6 hpc5 hh5 p0 p1 p2 p3 p4
    generalize w5.drewN nc=w10 at *
    have c32:=HD6n.out.get (Qb (Qz d0_ok.len))
    have f32:=HD6n.out.frz 32
    obtain⟨d9,hd9⟩:∃d9,d9=({d0 with h:={d0.h with pc:=((pc+xn)%4294967296)}}:DidD):=⟨_,rfl⟩
    have d9_ok:d9.Ok:=wE
    have HD9:Hid (DBox (w.heap.size+2) (w.heap.size+1) 67 (w10.setCell ⟨w.heap.size+2,32,none⟩ (.int .u32 ((pc+xn)%4294967296))) d9):=lI (by
      rw[hd9]
      exact HD6n.out.set 32 (.int .u32 ((pc+xn)%4294967296)) wQ (qq (qh d0_ok.len ((pc+xn)%4294967296)) (by rw[QR d0_ok.len];omega)))
    have hbf:=hbe.setCell (p:=⟨w.heap.size+2,32,none⟩) zU (.int .u32 ((pc+xn)%4294967296))
    have HD9E:=lI hd9
    clear hd9
    go_upto_region 55 with(fail)
    have ht:=HD9.out.there
    rw[←qT d9_ok]at ht
    have hld:=qQ (P:=Tryz.prog) ht Tryz.underlying67 rfl (qG d9_ok)
    go_wp2_with (first|(refine qI rfl 67 _ rfl (w.heap.size+2) 0 rfl (qA d9) _ HD9.out.at_ Tryz.underlying67 rfl (qG d9_ok) ?_)|(refine sT rfl 67 _ _ rfl (w.heap.size+1) 0 (qA d9) rfl rfl ht (qG d9_ok) (qX d9_ok) ?_))
    refine sP (qk zP _ zP hld) rfl ⟨d9,rfl, ?_,.inl ?_, ?_,qB om _ _ _ hbf⟩
    · rw[HD9E.out]
      have hW:=qB (b:=w.heap.size+1) om (qA d9).toList 0 _ hbf
      rw[HD9E.out]at hW
      exact(HDD.out _ hW).setPc _
    · rw[HD9E.out];exact HVM.out.1
    · rw[HD9E.out];intro q e;rw[show({d0 with h:={d0.h with pc:=((pc+xn)%4294967296)}}:DidD).vo=.slice none 0 0 from HVM.out.2]at e;cases e
  · skip
    go_upto_region 24 with(fail)
    go_upto_region 54 with(first|(go_at_call 33;refine(HH.out _).mono ?_;rintro e w6 ⟨rfl,rfl⟩)|(go_at_call 31;refine(HS3.out _).mono ?_;rintro e w9 ⟨rfl,nc,rfl⟩))
    have HDD:Hid (∀W,Below w.heap.size w W→qd W d0 c0):=lI (fun W hW=>HDO.out W (HV.out.below hW))
    have HVM:Hid (d0.vm=.slice ao l.length cap∧d0.vo=.slice none 0 0):=lI xG
    have hbe:=hbz
    clear hpc5 hh5 p0 p1 p2 p3 p4
    have c32:=HD6.out.get (Qb (Qz d0_ok.len))
    have f32:=HD6.out.frz 32
    obtain⟨d9,hd9⟩:∃d9,d9=({d0 with h:={d0.h with pc:=((pc+4)%4294967296)}}:DidD):=⟨_,rfl⟩
    have d9_ok:d9.Ok:=wE
    have HD9:Hid (DBox (w.heap.size+2) (w.heap.size+1) 67 (w5.setCell ⟨w.heap.size+2,32,none⟩ (.int .u32 ((pc+4)%4294967296))) d9):=lI (by
      rw[hd9]
      exact HD6.out.set 32 (.int .u32 ((pc+4)%4294967296)) wQ (qq (qh d0_ok.len ((pc+4)%4294967296)) (by rw[QR d0_ok.len];omega)))
    have hbf:=hbe.setCell (p:=⟨w.heap.size+2,32,none⟩) zU (.int .u32 ((pc+4)%4294967296))
    have HD9E:=lI hd9
    clear hd9
    go_upto_region 55 with(fail)
    have ht:=HD9.out.there
    rw[←qT d9_ok]at ht
    have hld:=qQ (P:=Tryz.prog) ht Tryz.underlying67 rfl (qG d9_ok)
    go_wp2_with (first|(refine qI rfl 67 _ rfl (w.heap.size+2) 0 rfl (qA d9) _ HD9.out.at_ Tryz.underlying67 rfl (qG d9_ok) ?_)|(refine sT rfl 67 _ _ rfl (w.heap.size+1) 0 (qA d9) rfl rfl ht (qG d9_ok) (qX d9_ok) ?_))
    refine sP (qk zP _ zP hld) rfl ⟨d9,rfl, ?_,.inl ?_, ?_,qB om _ _ _ hbf⟩
    · rw[HD9E.out]
      have hW:=qB (b:=w.heap.size+1) om (qA d9).toList 0 _ hbf
      rw[HD9E.out]at hW
      exact(HDD.out _ hW).setPc _
    · rw[HD9E.out];exact HVM.out.1
    · rw[HD9E.out];intro q e;rw[show({d0 with h:={d0.h with pc:=((pc+4)%4294967296)}}:DidD).vo=.slice none 0 0 from HVM.out.2]at e;cases e
  · skip
    have HDD:Hid (∀W,Below w.heap.size w W→qd W d0 c0):=lI (fun W hW=>HDO.out W (HV.out.below hW))
    have HVM:Hid (d0.vm=.slice ao l.length cap∧d0.vo=.slice none 0 0):=lI xG
    have hbe:=hbz
    have HL2:=lI (fun W hW=>Qy (.slice ao l.length cap) l op ((xa+xn)%4294967296) W hW (QG _) hb.getD)
    rw[show qN l op ((xa+xn)%4294967296)=false from hq]at HL2
    go_upto_region 27 with(fail)
    go_upto_region 29 with(go_at_call 27;refine(HL2.out _ (HV.out.below hbz)).mono ?_;rintro e w6 ⟨rfl,rfl⟩)
    go_wp2_with (first|(refine qI rfl 67 _ rfl (w.heap.size+2) 0 rfl (qA d0) _ HD6.out.at_ Tryz.underlying67 rfl (qG d0_ok) ?_))
    refine(JN d0 d0_ok 3 _).mono ?_
    rintro e w8 ⟨rfl,hb8⟩
    have hs8:=hb8.size
    have HD8:=lI (HD6.out.below om om hb8)
    have dt_ok:(d0.trap 3).Ok:=⟨d0_ok.len,d0_ok.m1,d0_ok.o1⟩
    have hbt:=hbz.trans (hb8.mono om)
    clear hb8
    have ht:(w8).there (w.heap.size+1) 0 (qA (d0.trap 3)).size:=wH
    have hld:=qQ (P:=Tryz.prog) ht Tryz.underlying67 rfl (qG dt_ok)
    go_wp2_with (first|(refine sT rfl 67 _ _ rfl (w.heap.size+1) 0 (qA (d0.trap 3)) rfl rfl ht (qG dt_ok) (qX dt_ok) ?_))
    refine sP (qk zP _ zP hld) rfl ⟨_,rfl,(HDD.out _ (qB om _ _ _ hbt)).trap 3,.inl ?_, ?_,qB om _ _ _ hbt⟩
    · exact HVM.out.1
    · intro q e;rw[show(d0.trap 3).vo=.slice none 0 0 from HVM.out.2]at e;cases e
  · skip
    have HL2:Hid (∀W,Ints .u8 W (.slice ao l.length cap) l→Calls Tryz.prog 27 #[.slice ao l.length cap,.int .i64 op,.int .u32 ((xa+xn)%4294967296)] W fun e w'=>e=.returned (.tuple #[.int .u32 xl,.bool true])∧W=w'):=lI (fun W hW=>by have:=Qy (.slice ao l.length cap) l op ((xa+xn)%4294967296) W hW (QG _) hb.getD;rw[show qN l op ((xa+xn)%4294967296)=true from hq,←HXL.out]at this;exact this)
    go_upto_region 27 with(fail)
    go_upto_region 30 with(go_at_call 27;refine(HL2.out _ (HV.out.below hbz)).mono ?_;rintro e w6 ⟨rfl,rfl⟩)
    go_wp2_with (first|(refine qI rfl 67 _ rfl (w.heap.size+2) 0 rfl (qA d0) _ HD6.out.at_ Tryz.underlying67 rfl (qG d0_ok) ?_))
    refine(jq d0 d0_ok kd hk xl _).mono ?_
    rintro e w6 ⟨rfl,hb6⟩
    have hs6:=hb6.size
    obtain⟨d1,hd1⟩:∃d1,d1=d0.set kd xl:=⟨_,rfl⟩
    have d1_ok:d1.Ok:=xL
    rw[←hd1]
    have HB6:=HD6.out.below om om hb6
    have htB:=HB6.thereB d0_ok d1_ok
    have HD7:=lI (HB6.put d0_ok d1_ok)
    have hbe:=qB (b:=w.heap.size+2) om (qA d1).toList 0 _ (hbz.trans (hb6.mono om))
    have pc7:(w6.setCells (w.heap.size+2) 0 (qA d1).toList).cell? ⟨w.heap.size,32,none⟩=some (.int .u32 pc):=(World.cell?_setCells_out _ _ _ _ _ (fun hb _=>absurd hb zG)).trans ((hb6.cell (p:=⟨w.heap.size,32,none⟩) zT).trans hpc5)
    have HD1E:=lI hd1
    have HDD:Hid (∀W,Below w.heap.size w W→qd W d1 (c0.set kd xl)):=lI (fun W hW=>by rw[hd1];exact(HDO.out W (HV.out.below hW)).set _ _)
    have HVM:Hid (d1.vm=.slice ao l.length cap∧d1.vo=.slice none 0 0):=lI xA
    clear hd1 hb6 HB6 p0 p1 p2 p3 p4 hh5
    go_upto_region 54 with(first|(refine sT rfl 67 _ _ rfl (w.heap.size+2) 0 (qA d1) rfl rfl htB (qG d1_ok) (qX d1_ok) ?_))
    generalize w6.setCells (w.heap.size+2) 0 (qA d1).toList=w7 at *
    clear pc7
    have c32:=HD7.out.get (Qb (Qz d1_ok.len))
    have f32:=HD7.out.frz 32
    obtain⟨d9,hd9⟩:∃d9,d9=({d1 with h:={d1.h with pc:=((pc+4)%4294967296)}}:DidD):=⟨_,rfl⟩
    have d9_ok:d9.Ok:=yF
    have HD9:Hid (DBox (w.heap.size+2) (w.heap.size+1) 67 (w7.setCell ⟨w.heap.size+2,32,none⟩ (.int .u32 ((pc+4)%4294967296))) d9):=lI (by
      rw[hd9]
      exact HD7.out.set 32 (.int .u32 ((pc+4)%4294967296)) xC (qq (qh d1_ok.len ((pc+4)%4294967296)) yT))
    have hbf:=hbe.setCell (p:=⟨w.heap.size+2,32,none⟩) zU (.int .u32 ((pc+4)%4294967296))
    have HD9E:=lI hd9
    clear hd9
    go_upto_region 55 with(fail)
    have ht:=HD9.out.there
    rw[←qT d9_ok]at ht
    have hld:=qQ (P:=Tryz.prog) ht Tryz.underlying67 rfl (qG d9_ok)
    go_wp2_with (first|(refine qI rfl 67 _ rfl (w.heap.size+2) 0 rfl (qA d9) _ HD9.out.at_ Tryz.underlying67 rfl (qG d9_ok) ?_)|(refine sT rfl 67 _ _ rfl (w.heap.size+1) 0 (qA d9) rfl rfl ht (qG d9_ok) (qX d9_ok) ?_))
    refine sP (qk zP _ zP hld) rfl ⟨d9,rfl, ?_,.inl ?_, ?_,qB om _ _ _ hbf⟩
    · rw[HD9E.out]
      have hW:=qB (b:=w.heap.size+1) om (qA d9).toList 0 _ hbf
      rw[HD9E.out]at hW
      exact(HDD.out _ hW).setPc _
    · rw[HD9E.out];exact HVM.out.1
    · rw[HD9E.out];intro q e;rw[show({d1 with h:={d1.h with pc:=((pc+4)%4294967296)}}:DidD).vo=.slice none 0 0 from HVM.out.2]at e;cases e
  · skip
    go_upto_region 36 with(fail)
    go_upto_region 37 with(first|(go_at_call 35;refine(HAl.out _).mono ?_;rintro e w9 ⟨rfl,nc,rfl⟩)|(go_at_call 36;refine(operation4_any op _ ⟨o0,o1⟩).mono ?_;rintro e w9 ⟨rfl,rfl⟩))
    have HD6n:=lI (HD6.out.drewN nc)
    have hbz:=qC hbz nc
    have hszn:(w5.drewN nc).heap.size=w3.heap.size+1:=hsz5
    have p1n:(w5.drewN nc).cell? ⟨w3.heap.size,1,none⟩=some (.int .i64 kd):=p1
    have hpc5n:(w5.drewN nc).cell? ⟨w.heap.size,32,none⟩=some (.int .u32 pc):=hpc5
    clear HD6 p0 p1 p2 p3 p4 hh5 hpc5
    generalize w5.drewN nc=w5n at *
    go_wp2_with (first|(refine qI rfl 67 _ rfl (w.heap.size+2) 0 rfl (qA d0) _ HD6n.out.at_ Tryz.underlying67 rfl (qG d0_ok) ?_))
    refine(jq d0 d0_ok kd hk xl _).mono ?_
    rintro e w6 ⟨rfl,hb6⟩
    have hs6:=hb6.size
    obtain⟨d1,hd1⟩:∃d1,d1=d0.set kd xl:=⟨_,rfl⟩
    have d1_ok:d1.Ok:=xL
    rw[←hd1]
    have HB6:=HD6n.out.below om om hb6
    have htB:=HB6.thereB d0_ok d1_ok
    have HD7:=lI (HB6.put d0_ok d1_ok)
    have hbe:=qB (b:=w.heap.size+2) om (qA d1).toList 0 _ (hbz.trans (hb6.mono om))
    have pc7:(w6.setCells (w.heap.size+2) 0 (qA d1).toList).cell? ⟨w.heap.size,32,none⟩=some (.int .u32 pc):=(World.cell?_setCells_out _ _ _ _ _ (fun hb _=>absurd hb zG)).trans ((hb6.cell (p:=⟨w.heap.size,32,none⟩) zT).trans hpc5n)
    have HD1E:=lI hd1
    have HDD:Hid (∀W,Below w.heap.size w W→qd W d1 (c0.set kd xl)):=lI (fun W hW=>by rw[hd1];exact(HDO.out W (HV.out.below hW)).set _ _)
    have HVM:Hid (d1.vm=.slice ao l.length cap∧d1.vo=.slice none 0 0):=lI xA
    clear hd1 hb6 HB6 p1n
    go_upto_region 54 with(first|(refine sT rfl 67 _ _ rfl (w.heap.size+2) 0 (qA d1) rfl rfl htB (qG d1_ok) (qX d1_ok) ?_))
    generalize w6.setCells (w.heap.size+2) 0 (qA d1).toList=w7 at *
    clear pc7
    have c32:=HD7.out.get (Qb (Qz d1_ok.len))
    have f32:=HD7.out.frz 32
    obtain⟨d9,hd9⟩:∃d9,d9=({d1 with h:={d1.h with pc:=((pc+4)%4294967296)}}:DidD):=⟨_,rfl⟩
    have d9_ok:d9.Ok:=yF
    have HD9:Hid (DBox (w.heap.size+2) (w.heap.size+1) 67 (w7.setCell ⟨w.heap.size+2,32,none⟩ (.int .u32 ((pc+4)%4294967296))) d9):=lI (by
      rw[hd9]
      exact HD7.out.set 32 (.int .u32 ((pc+4)%4294967296)) xC (qq (qh d1_ok.len ((pc+4)%4294967296)) yT))
    have hbf:=hbe.setCell (p:=⟨w.heap.size+2,32,none⟩) zU (.int .u32 ((pc+4)%4294967296))
    have HD9E:=lI hd9
    clear hd9
    go_upto_region 55 with(fail)
    have ht:=HD9.out.there
    rw[←qT d9_ok]at ht
    have hld:=qQ (P:=Tryz.prog) ht Tryz.underlying67 rfl (qG d9_ok)
    go_wp2_with (first|(refine qI rfl 67 _ rfl (w.heap.size+2) 0 rfl (qA d9) _ HD9.out.at_ Tryz.underlying67 rfl (qG d9_ok) ?_)|(refine sT rfl 67 _ _ rfl (w.heap.size+1) 0 (qA d9) rfl rfl ht (qG d9_ok) (qX d9_ok) ?_))
    refine sP (qk zP _ zP hld) rfl ⟨d9,rfl, ?_,.inl ?_, ?_,qB om _ _ _ hbf⟩
    · rw[HD9E.out]
      have hW:=qB (b:=w.heap.size+1) om (qA d9).toList 0 _ hbf
      rw[HD9E.out]at hW
      exact(HDD.out _ hW).setPc _
    · rw[HD9E.out];exact HVM.out.1
    · rw[HD9E.out];intro q e;rw[show({d1 with h:={d1.h with pc:=((pc+4)%4294967296)}}:DidD).vo=.slice none 0 0 from HVM.out.2]at e;cases e
  · skip
    go_upto_region 39 with(fail)
    go_upto_region 40 with(first|(go_at_call 35;refine(HAl.out _).mono ?_;rintro e w9 ⟨rfl,nc,rfl⟩)|(go_at_call 36;refine(operation4_any op _ ⟨o0,o1⟩).mono ?_;rintro e w9 ⟨rfl,rfl⟩))
    have HD6n:=lI (HD6.out.drewN nc)
    have hbz:=qC hbz nc
    have hszn:(w5.drewN nc).heap.size=w3.heap.size+1:=hsz5
    have p1n:(w5.drewN nc).cell? ⟨w3.heap.size,1,none⟩=some (.int .i64 kd):=p1
    have hpc5n:(w5.drewN nc).cell? ⟨w.heap.size,32,none⟩=some (.int .u32 pc):=hpc5
    clear HD6 p0 p1 p2 p3 p4 hh5 hpc5
    generalize w5.drewN nc=w5n at *
    go_wp2_with (first|(refine qI rfl 67 _ rfl (w.heap.size+2) 0 rfl (qA d0) _ HD6n.out.at_ Tryz.underlying67 rfl (qG d0_ok) ?_))
    refine(jq d0 d0_ok kd hk xl _).mono ?_
    rintro e w6 ⟨rfl,hb6⟩
    have hs6:=hb6.size
    obtain⟨d1,hd1⟩:∃d1,d1=d0.set kd xl:=⟨_,rfl⟩
    have d1_ok:d1.Ok:=xL
    rw[←hd1]
    have HB6:=HD6n.out.below om om hb6
    have htB:=HB6.thereB d0_ok d1_ok
    have HD7:=lI (HB6.put d0_ok d1_ok)
    have hbe:=qB (b:=w.heap.size+2) om (qA d1).toList 0 _ (hbz.trans (hb6.mono om))
    have pc7:(w6.setCells (w.heap.size+2) 0 (qA d1).toList).cell? ⟨w.heap.size,32,none⟩=some (.int .u32 pc):=(World.cell?_setCells_out _ _ _ _ _ (fun hb _=>absurd hb zG)).trans ((hb6.cell (p:=⟨w.heap.size,32,none⟩) zT).trans hpc5n)
    have HD1E:=lI hd1
    have HDD:Hid (∀W,Below w.heap.size w W→qd W d1 (c0.set kd xl)):=lI (fun W hW=>by rw[hd1];exact(HDO.out W (HV.out.below hW)).set _ _)
    have HVM:Hid (d1.vm=.slice ao l.length cap∧d1.vo=.slice none 0 0):=lI xA
    clear hd1 hb6 HB6 p1n
    go_upto_region 54 with(first|(refine sT rfl 67 _ _ rfl (w.heap.size+2) 0 (qA d1) rfl rfl htB (qG d1_ok) (qX d1_ok) ?_))
    generalize w6.setCells (w.heap.size+2) 0 (qA d1).toList=w7 at *
    clear pc7
    have c32:=HD7.out.get (Qb (Qz d1_ok.len))
    have f32:=HD7.out.frz 32
    obtain⟨d9,hd9⟩:∃d9,d9=({d1 with h:={d1.h with pc:=((pc+4)%4294967296)}}:DidD):=⟨_,rfl⟩
    have d9_ok:d9.Ok:=yF
    have HD9:Hid (DBox (w.heap.size+2) (w.heap.size+1) 67 (w7.setCell ⟨w.heap.size+2,32,none⟩ (.int .u32 ((pc+4)%4294967296))) d9):=lI (by
      rw[hd9]
      exact HD7.out.set 32 (.int .u32 ((pc+4)%4294967296)) xC (qq (qh d1_ok.len ((pc+4)%4294967296)) yT))
    have hbf:=hbe.setCell (p:=⟨w.heap.size+2,32,none⟩) zU (.int .u32 ((pc+4)%4294967296))
    have HD9E:=lI hd9
    clear hd9
    go_upto_region 55 with(fail)
    have ht:=HD9.out.there
    rw[←qT d9_ok]at ht
    have hld:=qQ (P:=Tryz.prog) ht Tryz.underlying67 rfl (qG d9_ok)
    go_wp2_with (first|(refine qI rfl 67 _ rfl (w.heap.size+2) 0 rfl (qA d9) _ HD9.out.at_ Tryz.underlying67 rfl (qG d9_ok) ?_)|(refine sT rfl 67 _ _ rfl (w.heap.size+1) 0 (qA d9) rfl rfl ht (qG d9_ok) (qX d9_ok) ?_))
    refine sP (qk zP _ zP hld) rfl ⟨d9,rfl, ?_,.inl ?_, ?_,qB om _ _ _ hbf⟩
    · rw[HD9E.out]
      have hW:=qB (b:=w.heap.size+1) om (qA d9).toList 0 _ hbf
      rw[HD9E.out]at hW
      exact(HDD.out _ hW).setPc _
    · rw[HD9E.out];exact HVM.out.1
    · rw[HD9E.out];intro q e;rw[show({d1 with h:={d1.h with pc:=((pc+4)%4294967296)}}:DidD).vo=.slice none 0 0 from HVM.out.2]at e;cases e
abbrev step4_branch_true:=uc.1
abbrev step4_branch_false:=uc.2.1
abbrev step4_load_no:=uc.2.2.1
abbrev step4_load_yes:=uc.2.2.2.1
abbrev step4_alun:=uc.2.2.2.2.1
abbrev step4_alu:=uc.2.2.2.2.2
end Go.Proofs.YtlfnddmncbkjaacGreat.W
