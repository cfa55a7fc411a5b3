import Derived.Test.YtlfnddmncbkjaacGreatZGX
import Derived.Test.YtlfnddmncbkjaacGreatZWDecode2
set_option linter.unusedVariables false
set_option linter.unusedSimpArgs false
set_option maxRecDepth 100000
set_option maxHeartbeats 4000000
namespace Go.Proofs.YtlfnddmncbkjaacGreat.W
open Go.RowKit Fb
theorem ud:
    (∀(h:Hart) (wf:h.Wf) (v:Value) (l:List Int) (w:World) (hv:Ints .u8 w v l) (hb:QP l) (hl:l.length≤4096) (hok:qN l 13 h.pc=true) (kd k1 k2:Nat) (imm:Int) (hk:kd<32) (h1:k1<32) (h2:k2<32) (hi: -2147483648≤imm∧imm≤2147483647) (hdec:dec (qa l 13 h.pc)=some ⟨1,kd,k1,k2,imm⟩),Calls Tryz.prog 18 #[.agg (qL h),v] w fun e w'=>∃d',e=.returned (.agg (qA d'))∧qd w' d' (doS ⟨1,kd,k1,k2,imm⟩ (⟨h,l,[],0,0⟩:qD))∧(d'.vm=v∨∀q,d'.vm.ownBlock=some q→w.heap.size≤q)∧(∀q,d'.vo.ownBlock=some q→w.heap.size≤q)∧Below w.heap.size w w')∧
    (∀(h:Hart) (wf:h.Wf) (v:Value) (l:List Int) (w:World) (hv:Ints .u8 w v l) (hb:QP l) (hl:l.length≤4096) (hok:qN l 13 h.pc=true) (kd k1 k2:Nat) (imm:Int) (hk:kd<32) (h1:k1<32) (h2:k2<32) (hi: -2147483648≤imm∧imm≤2147483647) (hdec:dec (qa l 13 h.pc)=some ⟨2,kd,k1,k2,imm⟩),Calls Tryz.prog 18 #[.agg (qL h),v] w fun e w'=>∃d',e=.returned (.agg (qA d'))∧qd w' d' (doS ⟨2,kd,k1,k2,imm⟩ (⟨h,l,[],0,0⟩:qD))∧(d'.vm=v∨∀q,d'.vm.ownBlock=some q→w.heap.size≤q)∧(∀q,d'.vo.ownBlock=some q→w.heap.size≤q)∧Below w.heap.size w w')∧
    (∀(h:Hart) (wf:h.Wf) (v:Value) (l:List Int) (w:World) (hv:Ints .u8 w v l) (hb:QP l) (hl:l.length≤4096) (hok:qN l 13 h.pc=true) (kd k1 k2:Nat) (imm:Int) (hk:kd<32) (h1:k1<32) (h2:k2<32) (hi: -2147483648≤imm∧imm≤2147483647) (hdec:dec (qa l 13 h.pc)=some ⟨3,kd,k1,k2,imm⟩),Calls Tryz.prog 18 #[.agg (qL h),v] w fun e w'=>∃d',e=.returned (.agg (qA d'))∧qd w' d' (doS ⟨3,kd,k1,k2,imm⟩ (⟨h,l,[],0,0⟩:qD))∧(d'.vm=v∨∀q,d'.vm.ownBlock=some q→w.heap.size≤q)∧(∀q,d'.vo.ownBlock=some q→w.heap.size≤q)∧Below w.heap.size w w')∧
    (∀(h:Hart) (wf:h.Wf) (v:Value) (l:List Int) (w:World) (hv:Ints .u8 w v l) (hb:QP l) (hl:l.length≤4096) (hok:qN l 13 h.pc=true) (kd k1 k2:Nat) (imm:Int) (hk:kd<32) (h1:k1<32) (h2:k2<32) (hi: -2147483648≤imm∧imm≤2147483647) (hdec:dec (qa l 13 h.pc)=some ⟨4,kd,k1,k2,imm⟩),Calls Tryz.prog 18 #[.agg (qL h),v] w fun e w'=>∃d',e=.returned (.agg (qA d'))∧qd w' d' (doS ⟨4,kd,k1,k2,imm⟩ (⟨h,l,[],0,0⟩:qD))∧(d'.vm=v∨∀q,d'.vm.ownBlock=some q→w.heap.size≤q)∧(∀q,d'.vo.ownBlock=some q→w.heap.size≤q)∧Below w.heap.size w w')∧
    (∀(h:Hart) (wf:h.Wf) (v:Value) (l:List Int) (w:World) (hv:Ints .u8 w v l) (hb:QP l) (hl:l.length≤4096) (hok:qN l 13 h.pc=true) (kd k1 k2:Nat) (imm:Int) (hk:kd<32) (h1:k1<32) (h2:k2<32) (hi: -2147483648≤imm∧imm≤2147483647) (hdec:dec (qa l 13 h.pc)=some ⟨57,kd,k1,k2,imm⟩),Calls Tryz.prog 18 #[.agg (qL h),v] w fun e w'=>∃d',e=.returned (.agg (qA d'))∧qd w' d' (doS ⟨57,kd,k1,k2,imm⟩ (⟨h,l,[],0,0⟩:qD))∧(d'.vm=v∨∀q,d'.vm.ownBlock=some q→w.heap.size≤q)∧(∀q,d'.vo.ownBlock=some q→w.heap.size≤q)∧Below w.heap.size w w')∧
    (∀(h:Hart) (wf:h.Wf) (v:Value) (l:List Int) (w:World) (hv:Ints .u8 w v l) (hb:QP l) (hl:l.length≤4096) (hok:qN l 13 h.pc=true) (kd k1 k2:Nat) (imm:Int) (hk:kd<32) (h1:k1<32) (h2:k2<32) (hi: -2147483648≤imm∧imm≤2147483647) (hdec:dec (qa l 13 h.pc)=some ⟨59,kd,k1,k2,imm⟩),Calls Tryz.prog 18 #[.agg (qL h),v] w fun e w'=>∃d',e=.returned (.agg (qA d'))∧qd w' d' (doS ⟨59,kd,k1,k2,imm⟩ (⟨h,l,[],0,0⟩:qD))∧(d'.vm=v∨∀q,d'.vm.ownBlock=some q→w.heap.size≤q)∧(∀q,d'.vo.ownBlock=some q→w.heap.size≤q)∧Below w.heap.size w w'):=by
  refine⟨?g0, ?g1, ?g2, ?g3, ?g4, ?g5⟩
  case' g5=>
    intro h wf v l w hv hb hl hok kd k1 k2 imm hk h1 h2 hi hdec
    obtain⟨i0,i1⟩:=hi
    obtain⟨xa,hxa⟩:∃x,x=h.regs.getD k1 0:=⟨_,rfl⟩
    obtain⟨xb,hxb⟩:∃x,x=h.regs.getD k2 0:=⟨_,rfl⟩
    obtain⟨xn,hxn⟩:∃x,x=imm%4294967296:=⟨_,rfl⟩
    obtain⟨pc,hpcv⟩:∃x,x=h.pc:=⟨_,rfl⟩
    have era:h.reg (k1:Int)=xa:=zX
    have erb:h.reg (k2:Int)=xb:=zW
    have ua:U32 xa:=yB
    have ub:U32 xb:=yA
    have un:U32 xn:=zO
    have up:U32 pc:=yE
    obtain⟨c0,hc0⟩:∃c,c=(⟨h,l,[],0,0⟩:qD):=⟨_,rfl⟩
    have e:doS ⟨59,kd,k1,k2,imm⟩ (⟨h,l,[],0,0⟩:qD)=c0.trap 6:=by
      rw[hc0]
      unfold doS
      dsimp only
      rw[era,erb,←hxn,←hpcv]
      rw[if_neg om,if_neg om,if_neg om,if_neg om,if_neg om,if_neg om,if_neg om,if_neg om,if_neg om,if_neg om,if_neg om,if_pos om]
    rw[e]
    clear e
    have HC0:=lI hc0
    have HA:=lI ua
    have HB:=lI ub
    have HN:=lI un
    have HU:=lI up
    have HPC:Hid (h.pc=pc):=lI hpcv.symm
    have HOf:Hid (∀W,Calls Tryz.prog 30 #[.int .i64 imm] W fun e w'=>e=.returned (.int .u32 xn)∧W=w'):=lI (fun W=>by rw[hxn];exact QY imm W om)
    have HS1:=lI (fun W=>qi pc 4 W up ⟨by decide,by decide⟩)
    have HS2:=lI (fun W=>qi xa xn W ua un)
    clear era erb ua ub un up hxn hc0 hpcv
    obtain⟨op,hop⟩:∃x:Int,x=59:=⟨_,rfl⟩
    rw[←hop]at hdec
    have HOP:=lI hop
    clear hop
  case' g4=>
    intro h wf v l w hv hb hl hok kd k1 k2 imm hk h1 h2 hi hdec
    obtain⟨i0,i1⟩:=hi
    obtain⟨xa,hxa⟩:∃x,x=h.regs.getD k1 0:=⟨_,rfl⟩
    obtain⟨xb,hxb⟩:∃x,x=h.regs.getD k2 0:=⟨_,rfl⟩
    obtain⟨xn,hxn⟩:∃x,x=imm%4294967296:=⟨_,rfl⟩
    obtain⟨pc,hpcv⟩:∃x,x=h.pc:=⟨_,rfl⟩
    have era:h.reg (k1:Int)=xa:=zX
    have erb:h.reg (k2:Int)=xb:=zW
    have ua:U32 xa:=yB
    have ub:U32 xb:=yA
    have un:U32 xn:=zO
    have up:U32 pc:=yE
    obtain⟨c0,hc0⟩:∃c,c=(⟨h,l,[],0,0⟩:qD):=⟨_,rfl⟩
    have e:doS ⟨57,kd,k1,k2,imm⟩ (⟨h,l,[],0,0⟩:qD)=c0.setPc ((pc+4)%4294967296):=by
      rw[hc0]
      unfold doS
      dsimp only
      rw[era,erb,←hxn,←hpcv]
      rw[if_neg om,if_neg om,if_neg om,if_neg om,if_neg om,if_neg om,if_neg om,if_neg om,if_neg om,if_neg om,if_neg om,if_neg om]
    rw[e]
    clear e
    have HC0:=lI hc0
    have HA:=lI ua
    have HB:=lI ub
    have HN:=lI un
    have HU:=lI up
    have HPC:Hid (h.pc=pc):=lI hpcv.symm
    have HOf:Hid (∀W,Calls Tryz.prog 30 #[.int .i64 imm] W fun e w'=>e=.returned (.int .u32 xn)∧W=w'):=lI (fun W=>by rw[hxn];exact QY imm W om)
    have HS1:=lI (fun W=>qi pc 4 W up ⟨by decide,by decide⟩)
    have HS2:=lI (fun W=>qi xa xn W ua un)
    clear era erb ua ub un up hxn hc0 hpcv
    obtain⟨op,hop⟩:∃x:Int,x=57:=⟨_,rfl⟩
    rw[←hop]at hdec
    have HOP:=lI hop
    clear hop
  case' g3=>
    intro h wf v l w hv hb hl hok kd k1 k2 imm hk h1 h2 hi hdec
    obtain⟨i0,i1⟩:=hi
    obtain⟨xa,hxa⟩:∃x,x=h.regs.getD k1 0:=⟨_,rfl⟩
    obtain⟨xb,hxb⟩:∃x,x=h.regs.getD k2 0:=⟨_,rfl⟩
    obtain⟨xn,hxn⟩:∃x,x=imm%4294967296:=⟨_,rfl⟩
    obtain⟨pc,hpcv⟩:∃x,x=h.pc:=⟨_,rfl⟩
    have era:h.reg (k1:Int)=xa:=zX
    have erb:h.reg (k2:Int)=xb:=zW
    have ua:U32 xa:=yB
    have ub:U32 xb:=yA
    have un:U32 xn:=zO
    have up:U32 pc:=yE
    obtain⟨c0,hc0⟩:∃c,c=(⟨h,l,[],0,0⟩:qD):=⟨_,rfl⟩
    have e:doS ⟨4,kd,k1,k2,imm⟩ (⟨h,l,[],0,0⟩:qD)=(c0.set kd ((pc+4)%4294967296)).setPc ((xa+xn)%4294967296-(xa+xn)%4294967296%2):=by
      rw[hc0]
      unfold doS
      dsimp only
      rw[era,erb,←hxn,←hpcv]
      rw[if_neg om,if_neg om,if_neg om,if_pos rfl]
    rw[e]
    clear e
    have HC0:=lI hc0
    have HA:=lI ua
    have HB:=lI ub
    have HN:=lI un
    have HU:=lI up
    have HPC:Hid (h.pc=pc):=lI hpcv.symm
    have HOf:Hid (∀W,Calls Tryz.prog 30 #[.int .i64 imm] W fun e w'=>e=.returned (.int .u32 xn)∧W=w'):=lI (fun W=>by rw[hxn];exact QY imm W om)
    have HS1:=lI (fun W=>qi pc 4 W up ⟨by decide,by decide⟩)
    have HS2:=lI (fun W=>qi xa xn W ua un)
    obtain⟨sx,hsx⟩:∃x,x=(xa+xn)%4294967296:=⟨_,rfl⟩
    rw[←hsx]at HS2 ⊢
    have HX:Hid (U32 sx):=lI (by rw[hsx];exact QG _)
    clear hsx
    clear era erb ua ub un up hxn hc0 hpcv
    obtain⟨op,hop⟩:∃x:Int,x=4:=⟨_,rfl⟩
    rw[←hop]at hdec
    have HOP:=lI hop
    clear hop
  case' g2=>
    intro h wf v l w hv hb hl hok kd k1 k2 imm hk h1 h2 hi hdec
    obtain⟨i0,i1⟩:=hi
    obtain⟨xa,hxa⟩:∃x,x=h.regs.getD k1 0:=⟨_,rfl⟩
    obtain⟨xb,hxb⟩:∃x,x=h.regs.getD k2 0:=⟨_,rfl⟩
    obtain⟨xn,hxn⟩:∃x,x=imm%4294967296:=⟨_,rfl⟩
    obtain⟨pc,hpcv⟩:∃x,x=h.pc:=⟨_,rfl⟩
    have era:h.reg (k1:Int)=xa:=zX
    have erb:h.reg (k2:Int)=xb:=zW
    have ua:U32 xa:=yB
    have ub:U32 xb:=yA
    have un:U32 xn:=zO
    have up:U32 pc:=yE
    obtain⟨c0,hc0⟩:∃c,c=(⟨h,l,[],0,0⟩:qD):=⟨_,rfl⟩
    have e:doS ⟨3,kd,k1,k2,imm⟩ (⟨h,l,[],0,0⟩:qD)=(c0.set kd ((pc+4)%4294967296)).setPc ((pc+xn)%4294967296):=by
      rw[hc0]
      unfold doS
      dsimp only
      rw[era,erb,←hxn,←hpcv]
      rw[if_neg om,if_neg om,if_pos rfl]
    rw[e]
    clear e
    have HC0:=lI hc0
    have HA:=lI ua
    have HB:=lI ub
    have HN:=lI un
    have HU:=lI up
    have HPC:Hid (h.pc=pc):=lI hpcv.symm
    have HOf:Hid (∀W,Calls Tryz.prog 30 #[.int .i64 imm] W fun e w'=>e=.returned (.int .u32 xn)∧W=w'):=lI (fun W=>by rw[hxn];exact QY imm W om)
    have HS1:=lI (fun W=>qi pc 4 W up ⟨by decide,by decide⟩)
    have HS2:=lI (fun W=>qi xa xn W ua un)
    have HS3:=lI (fun W=>qi pc xn W up un)
    clear era erb ua ub un up hxn hc0 hpcv
    obtain⟨op,hop⟩:∃x:Int,x=3:=⟨_,rfl⟩
    rw[←hop]at hdec
    have HOP:=lI hop
    clear hop
  case' g1=>
    intro h wf v l w hv hb hl hok kd k1 k2 imm hk h1 h2 hi hdec
    obtain⟨i0,i1⟩:=hi
    obtain⟨xa,hxa⟩:∃x,x=h.regs.getD k1 0:=⟨_,rfl⟩
    obtain⟨xb,hxb⟩:∃x,x=h.regs.getD k2 0:=⟨_,rfl⟩
    obtain⟨xn,hxn⟩:∃x,x=imm%4294967296:=⟨_,rfl⟩
    obtain⟨pc,hpcv⟩:∃x,x=h.pc:=⟨_,rfl⟩
    have era:h.reg (k1:Int)=xa:=zX
    have erb:h.reg (k2:Int)=xb:=zW
    have ua:U32 xa:=yB
    have ub:U32 xb:=yA
    have un:U32 xn:=zO
    have up:U32 pc:=yE
    obtain⟨c0,hc0⟩:∃c,c=(⟨h,l,[],0,0⟩:qD):=⟨_,rfl⟩
    have e:doS ⟨2,kd,k1,k2,imm⟩ (⟨h,l,[],0,0⟩:qD)=(c0.set kd ((pc+xn)%4294967296)).setPc ((pc+4)%4294967296):=by
      rw[hc0]
      unfold doS
      dsimp only
      rw[era,erb,←hxn,←hpcv]
      rw[if_neg om,if_pos rfl]
    rw[e]
    clear e
    have HC0:=lI hc0
    have HA:=lI ua
    have HB:=lI ub
    have HN:=lI un
    have HU:=lI up
    have HPC:Hid (h.pc=pc):=lI hpcv.symm
    have HOf:Hid (∀W,Calls Tryz.prog 30 #[.int .i64 imm] W fun e w'=>e=.returned (.int .u32 xn)∧W=w'):=lI (fun W=>by rw[hxn];exact QY imm W om)
    have HS1:=lI (fun W=>qi pc 4 W up ⟨by decide,by decide⟩)
    have HS2:=lI (fun W=>qi xa xn W ua un)
    have HS3:=lI (fun W=>qi pc xn W up un)
    clear era erb ua ub un up hxn hc0 hpcv
    obtain⟨op,hop⟩:∃x:Int,x=2:=⟨_,rfl⟩
    rw[←hop]at hdec
    have HOP:=lI hop
    clear hop
  case' g0=>
    intro h wf v l w hv hb hl hok kd k1 k2 imm hk h1 h2 hi hdec
    obtain⟨i0,i1⟩:=hi
    obtain⟨xa,hxa⟩:∃x,x=h.regs.getD k1 0:=⟨_,rfl⟩
    obtain⟨xb,hxb⟩:∃x,x=h.regs.getD k2 0:=⟨_,rfl⟩
    obtain⟨xn,hxn⟩:∃x,x=imm%4294967296:=⟨_,rfl⟩
    obtain⟨pc,hpcv⟩:∃x,x=h.pc:=⟨_,rfl⟩
    have era:h.reg (k1:Int)=xa:=zX
    have erb:h.reg (k2:Int)=xb:=zW
    have ua:U32 xa:=yB
    have ub:U32 xb:=yA
    have un:U32 xn:=zO
    have up:U32 pc:=yE
    obtain⟨c0,hc0⟩:∃c,c=(⟨h,l,[],0,0⟩:qD):=⟨_,rfl⟩
    have e:doS ⟨1,kd,k1,k2,imm⟩ (⟨h,l,[],0,0⟩:qD)=(c0.set kd xn).setPc ((pc+4)%4294967296):=by
      rw[hc0]
      unfold doS
      dsimp only
      rw[era,erb,←hxn,←hpcv]
      rw[if_pos rfl]
    rw[e]
    clear e
    have HC0:=lI hc0
    have HA:=lI ua
    have HB:=lI ub
    have HN:=lI un
    have HU:=lI up
    have HPC:Hid (h.pc=pc):=lI hpcv.symm
    have HOf:Hid (∀W,Calls Tryz.prog 30 #[.int .i64 imm] W fun e w'=>e=.returned (.int .u32 xn)∧W=w'):=lI (fun W=>by rw[hxn];exact QY imm W om)
    have HS1:=lI (fun W=>qi pc 4 W up ⟨by decide,by decide⟩)
    have HS2:=lI (fun W=>qi xa xn W ua un)
    clear era erb ua ub un up hxn hc0 hpcv
    obtain⟨op,hop⟩:∃x:Int,x=1:=⟨_,rfl⟩
    rw[←hop]at hdec
    have HOP:=lI hop
    clear hop
  all_goals
    obtain⟨ao,cap,hve,_⟩:=hv.open
    have HV:=lI hv
    have wfc:((⟨h,l,[],0,0⟩:qD)).Wf:=⟨wf,hb,by simp,(⟨by decide,by decide⟩:U32 0),(⟨by decide,by decide⟩:U32 0),xZ,by simp⟩
    obtain⟨d0,hd0⟩:∃d0,d0=(⟨h,v,.slice none 0 0,0,0⟩:DidD):=⟨_,rfl⟩
    have d0_ok:d0.Ok:=wA
    have HBD:=lI (fun W=>UB h wf.len v hv.one ao _ cap hve W)
    rw[←hd0]at HBD
    have hbox:At (w.alloc (.cells (qL h) 46)) w.heap.size 0 (qJ h):=Qf w (qJ h) 46 (0,0)
    have hsz:(Tryz.prog.info? 46).map (·.size)=some (qL h).size:=wK
    have HDO:Hid (∀W,Ints .u8 W v l→qd W d0 c0):=lI (fun W hW=>by rw[hd0,HC0.out];exact⟨rfl,hW,Sl.nil _ _,rfl,rfl⟩)
    have HD0E:=lI hd0
    subst hve
    clear hv hd0
    go_enter Tryz.func18,Tryz.ntmps18
    go_upto_region 1 with(fail)
    show Code.wp _ _ _ _ ((w.alloc (.cells (qL h) 46)).alloc (.cells (qA did0) 67))
    have hb1:At ((w.alloc (.cells (qL h) 46)).alloc (.cells (qA did0) 67)) w.heap.size 0 (qJ h):=hbox.below Fb.blw
    have hbz1:Below w.heap.size w ((w.alloc (.cells (qL h) 46)).alloc (.cells (qA did0) 67)):=Fb.blw
    have hs1:(((w.alloc (.cells (qL h) 46)).alloc (.cells (qA did0) 67))).heap.size=w.heap.size+2:=zG
    have hR1:=Jn h (w:=w) (tH:=46) (tD:=67)
    generalize ((w.alloc (.cells (qL h) 46)).alloc (.cells (qA did0) 67))=w1 at *
    have HSZ1:=lI hs1
    clear hs1
    go_upto_region 2 with(first|(refine qI rfl 46 _ rfl w.heap.size 0 rfl (qL h) _ hb1 Tryz.underlying46 rfl hsz ?_)|(refine JE rfl 67 _ rfl #[(0,.agg (qL h)),(1,.slice ao l.length cap)] wC _ (HBD.out _) ?_)|(refine Qw rfl 67 _ _ rfl w1 _ (qA d0) rfl rfl rfl (qG d0_ok) wR (Jx d0_ok) ?_))
    have hs1:=HSZ1.out
    have hD:=DBox.begin3 (w:=w1) (tD:=67) (d:=d0) hR1 om
    have hb2:=hb1.below (Below.alloc br (sO _) (.cells (qA d0) 67))
    have hbz2:Below w.heap.size w (w1.alloc (.cells (qA d0) 67)):=hbz1.trans (Below.alloc br om _)
    have hs2:(w1.alloc (.cells (qA d0) 67)).heap.size=w.heap.size+3:=zB
    rw[hs1]at hD
    have e12:w1.heap.size=w.heap.size+2:=hs1
    rw[e12]
    generalize w1.alloc (.cells (qA d0) 67)=w2 at *
    have hpc:=hb2.get (qe wf)
    simp only[sM]at hpc
    clear hb1 hbz1 hs1 hR1 e12
    have HL:=lI (fun W hW=>Qy (.slice ao l.length cap) l 13 h.pc W hW wf.pc hb.getD)
    rw[hok]at HL
    clear hok
    have HDc:=lI (fun W=>uS (qa l 13 h.pc) W (um l h.pc wf.pc hb.getD))
    rw[hdec]at HDc
    simp only[Option.getD_some,Option.isSome_some,ql]at HDc
    go_upto_region 5 with(go_at_call 27;refine(HL.out _ (HV.out.below hbz2)).mono ?_;rintro e w3 ⟨rfl,rfl⟩)
    go_wp2_with fail
    refine(HDc.out _).mono ?_
    rintro e w3 ⟨rfl,hb3⟩
    obtain⟨w4,hw4⟩:∃w4,w4=w3.alloc (.cells #[.int .i64 op,.int .i64 kd,.int .i64 k1,.int .i64 k2,.int .i32 imm] 82):=⟨_,rfl⟩
    have hs3:=hb3.size
    have hB4:Below w2.heap.size w2 w4:=by rw[hw4];exact hb3.trans (Below.alloc br hs3 _)
    have hs4:w4.heap.size=w3.heap.size+1:=wJ
    have q0:w4.cell? ⟨w3.heap.size,0,none⟩=some (.int .i64 op):=zD
    have q1:w4.cell? ⟨w3.heap.size,1,none⟩=some (.int .i64 kd):=zD
    have q2:w4.cell? ⟨w3.heap.size,2,none⟩=some (.int .i64 k1):=zD
    have q3:w4.cell? ⟨w3.heap.size,3,none⟩=some (.int .i64 k2):=zD
    have q4:w4.cell? ⟨w3.heap.size,4,none⟩=some (.int .i32 imm):=zD
    have hh4:At w4 w.heap.size 0 (qJ h):=hb2.below hB4
    have HD5:=lI ((hD.below om om hB4))
    have hra:=hh4.get (qV wf k1 h1)
    have hrb:=hh4.get (qV wf k2 h2)
    have hpc4:=hh4.get (qe wf)
    simp only[sM]at hra hrb hpc4
    rw[←hxa]at hra
    rw[←hxb]at hrb
    have hbz4:Below w.heap.size w w4:=hbz2.trans (hB4.mono om)
    have HW4:=lI hw4
    clear hw4 hb2 hB4 hb3 hD hpc hbz2 hxa hxb
    have j1:(k1:Int)<32:=om
    have j2:(k2:Int)<32:=om
    go_upto_region 6 with(fail)
    rw[←HW4.out]
    rw[HPC.out]at hpc4
    go_upto_region 13 with(first|(go_at_call 30;refine(HOf.out _).mono ?_;rintro e w' ⟨rfl,rfl⟩)|(go_at_call 31;refine(HS1.out _).mono ?_;rintro e w' ⟨rfl,na,rfl⟩)|(go_at_call 31;refine(HS2.out _).mono ?_;rintro e w' ⟨rfl,nb,rfl⟩))
    have hpc5:(w4.drewN (na+nb)).cell? ⟨w.heap.size,32,none⟩=some (.int .u32 pc):=hpc4
    have hh5:At (w4.drewN (na+nb)) w.heap.size 0 (qJ h):=hh4
    have HD6:=lI (HD5.out.drewN (na+nb))
    have hbz:Below w.heap.size w (w4.drewN (na+nb)):=qC hbz4 _
    have hsz5:(w4.drewN (na+nb)).heap.size=w3.heap.size+1:=hs4
    have p0:(w4.drewN (na+nb)).cell? ⟨w3.heap.size,0,none⟩=some (.int .i64 op):=q0
    have p1:(w4.drewN (na+nb)).cell? ⟨w3.heap.size,1,none⟩=some (.int .i64 kd):=q1
    have p2:(w4.drewN (na+nb)).cell? ⟨w3.heap.size,2,none⟩=some (.int .i64 k1):=q2
    have p3:(w4.drewN (na+nb)).cell? ⟨w3.heap.size,3,none⟩=some (.int .i64 k2):=q3
    have p4:(w4.drewN (na+nb)).cell? ⟨w3.heap.size,4,none⟩=some (.int .i32 imm):=q4
    clear q0 q1 q2 q3 q4 hpc4 hh4 HD5 hra hrb hbz4 hs4
    generalize w4.drewN (na+nb)=w5 at *
  · skip
    have hopl:=HOP.out
    subst hopl
    go_upto_region 14 with(fail)
    go_wp2_with (first|(refine qI rfl 67 _ rfl (w.heap.size+2) 0 rfl (qA d0) _ HD6.out.at_ Tryz.underlying67 rfl (qG d0_ok) ?_))
    refine(jq d0 d0_ok kd hk xn _).mono ?_
    rintro e w6 ⟨rfl,hb6⟩
    have hs6:=hb6.size
    obtain⟨d1,hd1⟩:∃d1,d1=d0.set kd xn:=⟨_,rfl⟩
    have d1_ok:d1.Ok:=xL
    rw[←hd1]
    have HB6:=HD6.out.below om om hb6
    have htB:=HB6.thereB d0_ok d1_ok
    have HD7:=lI (HB6.put d0_ok d1_ok)
    have hbe:=qB (b:=w.heap.size+2) om (qA d1).toList 0 _ (hbz.trans (hb6.mono om))
    have pc7:(w6.setCells (w.heap.size+2) 0 (qA d1).toList).cell? ⟨w.heap.size,32,none⟩=some (.int .u32 pc):=(World.cell?_setCells_out _ _ _ _ _ (fun hb _=>absurd hb zG)).trans ((hb6.cell (p:=⟨w.heap.size,32,none⟩) zT).trans hpc5)
    have HD1E:=lI hd1
    have HDD:Hid (∀W,Below w.heap.size w W→qd W d1 (c0.set kd xn)):=lI (fun W hW=>by rw[hd1];exact(HDO.out W (HV.out.below hW)).set _ _)
    have HVM:Hid (d1.vm=.slice ao l.length cap∧d1.vo=.slice none 0 0):=lI xA
    clear hd1 hb6 HB6 p0 p1 p2 p3 p4 hh5
    go_upto_region 54 with(first|(refine sT rfl 67 _ _ rfl (w.heap.size+2) 0 (qA d1) rfl rfl htB (qG d1_ok) (qX d1_ok) ?_))
    generalize w6.setCells (w.heap.size+2) 0 (qA d1).toList=w7 at *
    have c32:=HD7.out.get (Qb (Qz d1_ok.len))
    have f32:=HD7.out.frz 32
    obtain⟨d9,hd9⟩:∃d9,d9=({d1 with h:={d1.h with pc:=((pc+4)%4294967296)}}:DidD):=⟨_,rfl⟩
    have d9_ok:d9.Ok:=yF
    have HD9:Hid (DBox (w.heap.size+2) (w.heap.size+1) 67 (w7.setCell ⟨w.heap.size+2,32,none⟩ (.int .u32 ((pc+4)%4294967296))) d9):=lI (by
      rw[hd9]
      exact HD7.out.set 32 (.int .u32 ((pc+4)%4294967296)) xC (qq (qh d1_ok.len ((pc+4)%4294967296)) yT))
    have hbf:=hbe.setCell (p:=⟨w.heap.size+2,32,none⟩) zU (.int .u32 ((pc+4)%4294967296))
    have HD9E:=lI hd9
    clear hd9
    go_upto_region 55 with(fail)
    have ht:=HD9.out.there
    rw[←qT d9_ok]at ht
    have hld:=qQ (P:=Tryz.prog) ht Tryz.underlying67 rfl (qG d9_ok)
    go_wp2_with (first|(refine qI rfl 67 _ rfl (w.heap.size+2) 0 rfl (qA d9) _ HD9.out.at_ Tryz.underlying67 rfl (qG d9_ok) ?_)|(refine sT rfl 67 _ _ rfl (w.heap.size+1) 0 (qA d9) rfl rfl ht (qG d9_ok) (qX d9_ok) ?_))
    refine sP (qk zP _ zP hld) rfl ⟨d9,rfl, ?_,.inl ?_, ?_,qB om _ _ _ hbf⟩
    · rw[HD9E.out]
      have hW:=qB (b:=w.heap.size+1) om (qA d9).toList 0 _ hbf
      rw[HD9E.out]at hW
      exact(HDD.out _ hW).setPc _
    · rw[HD9E.out];exact HVM.out.1
    · rw[HD9E.out];intro q e;rw[show({d1 with h:={d1.h with pc:=((pc+4)%4294967296)}}:DidD).vo=.slice none 0 0 from HVM.out.2]at e;cases e
  · skip
    have hopl:=HOP.out
    subst hopl
    go_upto_region 16 with(fail)
    have lt3:w3.heap.size<w5.heap.size:=om
    have lt0:w.heap.size<w5.heap.size:=om
    have HSET:=lI (fun W=>jq d0 d0_ok kd hk ((pc+xn)%4294967296) W)
    have hBx:At w5 (w.heap.size+2) 0 (qA d0).toList:=HD6.out.at_
    have hlt2:w.heap.size+2<w5.heap.size:=om
    have HSZ5:=lI hsz5
    clear hsz5
    refine jN (fun W=>Below w5.heap.size w5 W) 8 kr kr (Below.drew br) ?_
    simp only[List.take_succ_cons,List.take_zero,List.drop_succ_cons,List.drop_zero]
    refine Qq rfl 67 _ rfl (w.heap.size+2) 0 rfl (qA d0) _ (fun W hW=>hBx.of_lt hW hlt2) Tryz.underlying67 rfl (qG d0_ok) ?_
    refine JM rfl (.pointer (some ⟨w3.heap.size,1,none⟩)) (fun W hW=>by unfold Oper.quietAt;go_simp) ?_
    refine Jt rfl 3 _ rfl ⟨w3.heap.size,1,none⟩ rfl (.int .i64 kd) (fun W hW=>by have hc:=(hW.cell (p:=⟨w3.heap.size,1,none⟩) lt3).trans p1;go_simp) ?_
    refine JM rfl (.pointer (some ⟨w.heap.size,32,none⟩)) (fun W hW=>by unfold Oper.quietAt;go_simp) ?_
    refine Jt rfl 43 _ rfl ⟨w.heap.size,32,none⟩ rfl (.int .u32 pc) (fun W hW=>by have hc:=(hW.cell (p:=⟨w.heap.size,32,none⟩) lt0).trans hpc5;go_simp) ?_
    refine JM rfl (.int .u32 xn) (fun W hW=>by unfold Oper.quietAt;go_simp) ?_
    quiet_step ((intro hC;exact(HS3.out _).mono (fun e w'' ⟨he,n,hw⟩=>⟨he,by rw[hw];exact qC hC n⟩)))
    quiet_step ((intro hC;exact(HSET.out _).mono (fun e w'' ⟨he,hb⟩=>⟨he,hC.trans (hb.mono hC.size)⟩)))
    refine wpQuiet_nil ?_
    intro w6 hb6
    have hsz5:=HSZ5.out
    have hs6:=hb6.size
    obtain⟨d1,hd1⟩:∃d1,d1=d0.set kd ((pc+xn)%4294967296):=⟨_,rfl⟩
    have d1_ok:d1.Ok:=xL
    rw[←hd1]
    have HB6:=HD6.out.below om om hb6
    have htB:=HB6.thereB d0_ok d1_ok
    have HD7:=lI (HB6.put d0_ok d1_ok)
    have hbe:=qB (b:=w.heap.size+2) om (qA d1).toList 0 _ (hbz.trans (hb6.mono om))
    have pc7:(w6.setCells (w.heap.size+2) 0 (qA d1).toList).cell? ⟨w.heap.size,32,none⟩=some (.int .u32 pc):=(World.cell?_setCells_out _ _ _ _ _ (fun hb _=>absurd hb zG)).trans ((hb6.cell (p:=⟨w.heap.size,32,none⟩) zT).trans hpc5)
    have HD1E:=lI hd1
    have HDD:Hid (∀W,Below w.heap.size w W→qd W d1 (c0.set kd ((pc+xn)%4294967296))):=lI (fun W hW=>by rw[hd1];exact(HDO.out W (HV.out.below hW)).set _ _)
    have HVM:Hid (d1.vm=.slice ao l.length cap∧d1.vo=.slice none 0 0):=lI xA
    clear hd1 hb6 HB6 p0 p1 p2 p3 p4 hh5
    refine sT rfl 67 _ _ rfl (w.heap.size+2) 0 (qA d1) rfl rfl htB (qG d1_ok) (qX d1_ok) ?_
    go_upto_region 54 with(fail)
    generalize w6.setCells (w.heap.size+2) 0 (qA d1).toList=w7 at *
    have c32:=HD7.out.get (Qb (Qz d1_ok.len))
    have f32:=HD7.out.frz 32
    obtain⟨d9,hd9⟩:∃d9,d9=({d1 with h:={d1.h with pc:=((pc+4)%4294967296)}}:DidD):=⟨_,rfl⟩
    have d9_ok:d9.Ok:=yF
    have HD9:Hid (DBox (w.heap.size+2) (w.heap.size+1) 67 (w7.setCell ⟨w.heap.size+2,32,none⟩ (.int .u32 ((pc+4)%4294967296))) d9):=lI (by
      rw[hd9]
      exact HD7.out.set 32 (.int .u32 ((pc+4)%4294967296)) xC (qq (qh d1_ok.len ((pc+4)%4294967296)) yT))
    have hbf:=hbe.setCell (p:=⟨w.heap.size+2,32,none⟩) zU (.int .u32 ((pc+4)%4294967296))
    have HD9E:=lI hd9
    clear hd9
    go_upto_region 55 with(fail)
    have ht:=HD9.out.there
    rw[←qT d9_ok]at ht
    have hld:=qQ (P:=Tryz.prog) ht Tryz.underlying67 rfl (qG d9_ok)
    go_wp2_with (first|(refine qI rfl 67 _ rfl (w.heap.size+2) 0 rfl (qA d9) _ HD9.out.at_ Tryz.underlying67 rfl (qG d9_ok) ?_)|(refine sT rfl 67 _ _ rfl (w.heap.size+1) 0 (qA d9) rfl rfl ht (qG d9_ok) (qX d9_ok) ?_))
    refine sP (qk zP _ zP hld) rfl ⟨d9,rfl, ?_,.inl ?_, ?_,qB om _ _ _ hbf⟩
    · rw[HD9E.out]
      have hW:=qB (b:=w.heap.size+1) om (qA d9).toList 0 _ hbf
      rw[HD9E.out]at hW
      exact(HDD.out _ hW).setPc _
    · rw[HD9E.out];exact HVM.out.1
    · rw[HD9E.out];intro q e;rw[show({d1 with h:={d1.h with pc:=((pc+4)%4294967296)}}:DidD).vo=.slice none 0 0 from HVM.out.2]at e;cases e
  · skip
    have hopl:=HOP.out
    subst hopl
    go_upto_region 18 with(fail)
    go_wp2_with (first|(refine qI rfl 67 _ rfl (w.heap.size+2) 0 rfl (qA d0) _ HD6.out.at_ Tryz.underlying67 rfl (qG d0_ok) ?_))
    refine(jq d0 d0_ok kd hk ((pc+4)%4294967296) _).mono ?_
    rintro e w6 ⟨rfl,hb6⟩
    have hs6:=hb6.size
    obtain⟨d1,hd1⟩:∃d1,d1=d0.set kd ((pc+4)%4294967296):=⟨_,rfl⟩
    have d1_ok:d1.Ok:=xL
    rw[←hd1]
    have HB6:=HD6.out.below om om hb6
    have htB:=HB6.thereB d0_ok d1_ok
    have HD7:=lI (HB6.put d0_ok d1_ok)
    have hbe:=qB (b:=w.heap.size+2) om (qA d1).toList 0 _ (hbz.trans (hb6.mono om))
    have pc7:(w6.setCells (w.heap.size+2) 0 (qA d1).toList).cell? ⟨w.heap.size,32,none⟩=some (.int .u32 pc):=(World.cell?_setCells_out _ _ _ _ _ (fun hb _=>absurd hb zG)).trans ((hb6.cell (p:=⟨w.heap.size,32,none⟩) zT).trans hpc5)
    have HD1E:=lI hd1
    have HDD:Hid (∀W,Below w.heap.size w W→qd W d1 (c0.set kd ((pc+4)%4294967296))):=lI (fun W hW=>by rw[hd1];exact(HDO.out W (HV.out.below hW)).set _ _)
    have HVM:Hid (d1.vm=.slice ao l.length cap∧d1.vo=.slice none 0 0):=lI xA
    clear hd1 hb6 HB6 p0 p1 p2 p3 p4 hh5
    go_upto_region 19 with(first|(refine sT rfl 67 _ _ rfl (w.heap.size+2) 0 (qA d1) rfl rfl htB (qG d1_ok) (qX d1_ok) ?_))
    generalize w6.setCells (w.heap.size+2) 0 (qA d1).toList=w7 at *
    go_upto_region 54 with(first|(go_at_call 31;refine(HS3.out _).mono ?_;rintro e w9 ⟨rfl,nc,rfl⟩))
    have HD7n:=lI (HD7.out.drewN nc)
    have hbe:=qC hbe nc
    clear HD7 pc7
    generalize w7.drewN nc=w10 at *
    have c32:=HD7n.out.get (Qb (Qz d1_ok.len))
    have f32:=HD7n.out.frz 32
    obtain⟨d9,hd9⟩:∃d9,d9=({d1 with h:={d1.h with pc:=((pc+xn)%4294967296)}}:DidD):=⟨_,rfl⟩
    have d9_ok:d9.Ok:=yF
    have HD9:Hid (DBox (w.heap.size+2) (w.heap.size+1) 67 (w10.setCell ⟨w.heap.size+2,32,none⟩ (.int .u32 ((pc+xn)%4294967296))) d9):=lI (by
      rw[hd9]
      exact HD7n.out.set 32 (.int .u32 ((pc+xn)%4294967296)) xC (qq (qh d1_ok.len ((pc+xn)%4294967296)) yT))
    have hbf:=hbe.setCell (p:=⟨w.heap.size+2,32,none⟩) zU (.int .u32 ((pc+xn)%4294967296))
    have HD9E:=lI hd9
    clear hd9
    go_upto_region 55 with(fail)
    have ht:=HD9.out.there
    rw[←qT d9_ok]at ht
    have hld:=qQ (P:=Tryz.prog) ht Tryz.underlying67 rfl (qG d9_ok)
    go_wp2_with (first|(refine qI rfl 67 _ rfl (w.heap.size+2) 0 rfl (qA d9) _ HD9.out.at_ Tryz.underlying67 rfl (qG d9_ok) ?_)|(refine sT rfl 67 _ _ rfl (w.heap.size+1) 0 (qA d9) rfl rfl ht (qG d9_ok) (qX d9_ok) ?_))
    refine sP (qk zP _ zP hld) rfl ⟨d9,rfl, ?_,.inl ?_, ?_,qB om _ _ _ hbf⟩
    · rw[HD9E.out]
      have hW:=qB (b:=w.heap.size+1) om (qA d9).toList 0 _ hbf
      rw[HD9E.out]at hW
      exact(HDD.out _ hW).setPc _
    · rw[HD9E.out];exact HVM.out.1
    · rw[HD9E.out];intro q e;rw[show({d1 with h:={d1.h with pc:=((pc+xn)%4294967296)}}:DidD).vo=.slice none 0 0 from HVM.out.2]at e;cases e
  · skip
    have hopl:=HOP.out
    subst hopl
    obtain⟨y0,y1⟩:=HX.out
    go_upto_region 21 with(fail)
    go_wp2_with (first|(refine qI rfl 67 _ rfl (w.heap.size+2) 0 rfl (qA d0) _ HD6.out.at_ Tryz.underlying67 rfl (qG d0_ok) ?_))
    refine(jq d0 d0_ok kd hk ((pc+4)%4294967296) _).mono ?_
    rintro e w6 ⟨rfl,hb6⟩
    have hs6:=hb6.size
    obtain⟨d1,hd1⟩:∃d1,d1=d0.set kd ((pc+4)%4294967296):=⟨_,rfl⟩
    have d1_ok:d1.Ok:=xL
    rw[←hd1]
    have HB6:=HD6.out.below om om hb6
    have htB:=HB6.thereB d0_ok d1_ok
    have HD7:=lI (HB6.put d0_ok d1_ok)
    have hbe:=qB (b:=w.heap.size+2) om (qA d1).toList 0 _ (hbz.trans (hb6.mono om))
    have pc7:(w6.setCells (w.heap.size+2) 0 (qA d1).toList).cell? ⟨w.heap.size,32,none⟩=some (.int .u32 pc):=(World.cell?_setCells_out _ _ _ _ _ (fun hb _=>absurd hb zG)).trans ((hb6.cell (p:=⟨w.heap.size,32,none⟩) zT).trans hpc5)
    have HD1E:=lI hd1
    have HDD:Hid (∀W,Below w.heap.size w W→qd W d1 (c0.set kd ((pc+4)%4294967296))):=lI (fun W hW=>by rw[hd1];exact(HDO.out W (HV.out.below hW)).set _ _)
    have HVM:Hid (d1.vm=.slice ao l.length cap∧d1.vo=.slice none 0 0):=lI xA
    clear hd1 hb6 HB6 p0 p1 p2 p3 p4 hh5
    go_upto_region 22 with(first|(refine sT rfl 67 _ _ rfl (w.heap.size+2) 0 (qA d1) rfl rfl htB (qG d1_ok) (qX d1_ok) ?_))
    generalize w6.setCells (w.heap.size+2) 0 (qA d1).toList=w7 at *
    go_upto_region 54 with(fail)
    clear pc7
    have c32:=HD7.out.get (Qb (Qz d1_ok.len))
    have f32:=HD7.out.frz 32
    obtain⟨d9,hd9⟩:∃d9,d9=({d1 with h:={d1.h with pc:=(sx-sx%2)}}:DidD):=⟨_,rfl⟩
    have d9_ok:d9.Ok:=yF
    have HD9:Hid (DBox (w.heap.size+2) (w.heap.size+1) 67 (w7.setCell ⟨w.heap.size+2,32,none⟩ (.int .u32 (sx-sx%2))) d9):=lI (by
      rw[hd9]
      exact HD7.out.set 32 (.int .u32 (sx-sx%2)) xC (qq (qh d1_ok.len (sx-sx%2)) yT))
    have hbf:=hbe.setCell (p:=⟨w.heap.size+2,32,none⟩) zU (.int .u32 (sx-sx%2))
    have HD9E:=lI hd9
    clear hd9
    go_upto_region 55 with(fail)
    have ht:=HD9.out.there
    rw[←qT d9_ok]at ht
    have hld:=qQ (P:=Tryz.prog) ht Tryz.underlying67 rfl (qG d9_ok)
    go_wp2_with (first|(refine qI rfl 67 _ rfl (w.heap.size+2) 0 rfl (qA d9) _ HD9.out.at_ Tryz.underlying67 rfl (qG d9_ok) ?_)|(refine sT rfl 67 _ _ rfl (w.heap.size+1) 0 (qA d9) rfl rfl ht (qG d9_ok) (qX d9_ok) ?_))
    refine sP (qk zP _ zP hld) rfl ⟨d9,rfl, ?_,.inl ?_, ?_,qB om _ _ _ hbf⟩
    · rw[HD9E.out]
      have hW:=qB (b:=w.heap.size+1) om (qA d9).toList 0 _ hbf
      rw[HD9E.out]at hW
      exact(HDD.out _ hW).setPc _
    · rw[HD9E.out];exact HVM.out.1
    · rw[HD9E.out];intro q e;rw[show({d1 with h:={d1.h with pc:=(sx-sx%2)}}:DidD).vo=.slice none 0 0 from HVM.out.2]at e;cases e
  · skip
    have hopl:=HOP.out
    subst hopl
    have HDD:Hid (∀W,Below w.heap.size w W→qd W d0 c0):=lI (fun W hW=>HDO.out W (HV.out.below hW))
    have HVM:Hid (d0.vm=.slice ao l.length cap∧d0.vo=.slice none 0 0):=lI xG
    have hbe:=hbz
    go_upto_region 54 with(fail)
    clear hpc5 hh5 p0 p1 p2 p3 p4
    have c32:=HD6.out.get (Qb (Qz d0_ok.len))
    have f32:=HD6.out.frz 32
    obtain⟨d9,hd9⟩:∃d9,d9=({d0 with h:={d0.h with pc:=((pc+4)%4294967296)}}:DidD):=⟨_,rfl⟩
    have d9_ok:d9.Ok:=wE
    have HD9:Hid (DBox (w.heap.size+2) (w.heap.size+1) 67 (w5.setCell ⟨w.heap.size+2,32,none⟩ (.int .u32 ((pc+4)%4294967296))) d9):=lI (by
      rw[hd9]
      exact HD6.out.set 32 (.int .u32 ((pc+4)%4294967296)) wQ (qq (qh d0_ok.len ((pc+4)%4294967296)) (by rw[QR d0_ok.len];omega)))
    have hbf:=hbe.setCell (p:=⟨w.heap.size+2,32,none⟩) zU (.int .u32 ((pc+4)%4294967296))
    have HD9E:=lI hd9
    clear hd9
    go_upto_region 55 with(fail)
    have ht:=HD9.out.there
    rw[←qT d9_ok]at ht
    have hld:=qQ (P:=Tryz.prog) ht Tryz.underlying67 rfl (qG d9_ok)
    go_wp2_with (first|(refine qI rfl 67 _ rfl (w.heap.size+2) 0 rfl (qA d9) _ HD9.out.at_ Tryz.underlying67 rfl (qG d9_ok) ?_)|(refine sT rfl 67 _ _ rfl (w.heap.size+1) 0 (qA d9) rfl rfl ht (qG d9_ok) (qX d9_ok) ?_))
    refine sP (qk zP _ zP hld) rfl ⟨d9,rfl, ?_,.inl ?_, ?_,qB om _ _ _ hbf⟩
    · rw[HD9E.out]
      have hW:=qB (b:=w.heap.size+1) om (qA d9).toList 0 _ hbf
      rw[HD9E.out]at hW
      exact(HDD.out _ hW).setPc _
    · rw[HD9E.out];exact HVM.out.1
    · rw[HD9E.out];intro q e;rw[show({d0 with h:={d0.h with pc:=((pc+4)%4294967296)}}:DidD).vo=.slice none 0 0 from HVM.out.2]at e;cases e
  · skip
    have hopl:=HOP.out
    subst hopl
    have HDD:Hid (∀W,Below w.heap.size w W→qd W d0 c0):=lI (fun W hW=>HDO.out W (HV.out.below hW))
    have HVM:Hid (d0.vm=.slice ao l.length cap∧d0.vo=.slice none 0 0):=lI xG
    have hbe:=hbz
    go_upto_region 53 with(fail)
    go_wp2_with (first|(refine qI rfl 67 _ rfl (w.heap.size+2) 0 rfl (qA d0) _ HD6.out.at_ Tryz.underlying67 rfl (qG d0_ok) ?_))
    refine(JN d0 d0_ok 6 _).mono ?_
    rintro e w8 ⟨rfl,hb8⟩
    have hs8:=hb8.size
    have HD8:=lI (HD6.out.below om om hb8)
    have dt_ok:(d0.trap 6).Ok:=⟨d0_ok.len,d0_ok.m1,d0_ok.o1⟩
    have hbt:=hbz.trans (hb8.mono om)
    clear hb8
    have ht:(w8).there (w.heap.size+1) 0 (qA (d0.trap 6)).size:=wH
    have hld:=qQ (P:=Tryz.prog) ht Tryz.underlying67 rfl (qG dt_ok)
    go_wp2_with (first|(refine sT rfl 67 _ _ rfl (w.heap.size+1) 0 (qA (d0.trap 6)) rfl rfl ht (qG dt_ok) (qX dt_ok) ?_))
    refine sP (qk zP _ zP hld) rfl ⟨_,rfl,(HDD.out _ (qB om _ _ _ hbt)).trap 6,.inl ?_, ?_,qB om _ _ _ hbt⟩
    · exact HVM.out.1
    · intro q e;rw[show(d0.trap 6).vo=.slice none 0 0 from HVM.out.2]at e;cases e
abbrev step4_lui:=ud.1
abbrev step4_auipc:=ud.2.1
abbrev step4_jal:=ud.2.2.1
abbrev step4_jalr:=ud.2.2.2.1
abbrev step4_fence:=ud.2.2.2.2.1
abbrev step4_break:=ud.2.2.2.2.2
end Go.Proofs.YtlfnddmncbkjaacGreat.W
