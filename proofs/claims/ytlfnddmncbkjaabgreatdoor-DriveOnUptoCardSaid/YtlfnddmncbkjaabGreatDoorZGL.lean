import Derived.Test.YtlfnddmncbkjaabGreatDoorZGK
set_option linter.unusedVariables false
set_option linter.unusedSimpArgs false
set_option maxRecDepth 100000
set_option maxHeartbeats 4000000
namespace Go.Proofs.YtlfnddmncbkjaabGreatDoor.W
open Go.RowKit Fb
section
variable {cp hb ho : Nat} {vm : Value} {d : qF} {w : World}
theorem atom_any(h:qK cp hb ho vm 40 w d)(wf:d.Wf)(op a b:Int)(hop:46≤op∧op≤56)(ha:U32 a)(hb':U32 b):
    Calls Tryz.prog 119 #[.pointer (some ⟨cp,0,none⟩),.int .i64 op,.int .u32 a,.int .u32 b] w fun e w'=>e=.returned (.tuple #[.int .u32 (qb d op a b).2.1,.bool (qb d op a b).2.2])∧qK cp hb ho vm 40 w' (qb d op a b).1∧Cgo cp hb ho vm 40 w w':=by
  have hl:=lI (load_any vm d.m 13 a w h.bytes ha wf.m.getD)
  have hlu:=lI (mLoad_u d.m 13 a om ha wf.m.getD)
  have hne:=h.hbl
  have H:=lI h
  have HA:=lI ha
  have HB:=lI hb'
  obtain⟨o0,o1⟩:=hop
  clear ha hb'
  cases hok:qX d.m 13 a with
  | false =>
    have hT:=lI (Jk h wf.h 4)
    rw[hok]at hl
    by_cases h46:op=46
    · subst h46
      have e:qb d 46 a b=(d.trap 3,0,false):=by unfold qb;rw[hok];rfl
      rw[e]
      clear e
      have hp:=h.ptr
      have hm:=h.mem
      clear h
      go_enter Tryz.func119,Tryz.ntmps119
      go_wp2_with fail
      refine hl.out.mono ?_
      rintro e w' ⟨rfl,rfl⟩
      clear hp hm
      go_wp2_with fail
      refine hT.out.mono ?_
      rintro e w1 ⟨rfl,hc1,hg1⟩
      have hT2:=lI (Jk hc1 (wf.trap 4 om).h 3)
      have HG:=lI hg1
      clear hc1 hg1 hT hl
      go_wp2_with fail
      refine hT2.out.mono ?_
      rintro e w2 ⟨rfl,hc2,hg2⟩
      go_wp2_with fail
      go_ret2
      exact⟨rfl,hc2,HG.out.trans hg2⟩
    · have e:qb d op a b=(d.trap 4,0,false):=by unfold qb;rw[hok,if_neg zF,if_neg h46]
      rw[e]
      clear e
      have hp:=h.ptr
      have hm:=h.mem
      clear h
      go_enter Tryz.func119,Tryz.ntmps119
      go_wp2_with fail
      refine hl.out.mono ?_
      rintro e w' ⟨rfl,rfl⟩
      clear hp hm
      go_wp2_with fail
      refine hT.out.mono ?_
      rintro e w1 ⟨rfl,hc1,hg1⟩
      go_wp2_with fail
      go_ret2
      exact⟨rfl,hc1,hg1⟩
  | true =>
    rw[hok]at hl
    obtain⟨old,hold⟩:∃x,x=QB d.m 13 a:=⟨_,rfl⟩
    rw[←hold]at hl hlu
    have h33:=h.hart.get (jk wf.h)
    have h34:=h.hart.get (jn wf.h)
    have f33:=h.hfz (ho+33)
    have f34:=h.hfz (ho+34)
    have hp:=h.ptr
    have hm:=h.mem
    by_cases h46:op=46
    · subst h46
      have e:qb d 46 a b=(d.hold true a,old,true):=by unfold qb;rw[hok,←hold];rfl
      rw[e]
      clear e h hold
      go_enter Tryz.func119,Tryz.ntmps119
      go_upto_region 1 with(fail)
      go_wp2_with (go_at_call 59;refine hl.out.mono ?_;rintro e w' ⟨rfl,rfl⟩)
      go_region
      all_goals go_wp2_with fail
      all_goals go_ret2
      all_goals exact⟨rfl,((H.out.setHart 33 _ _ (jZ wf.h.len true) xI).setHart 34 _ _ (Qw (h:={d.h with held:=true}) wf.h.len a) xY).below (Below.drew br),((Cgo.setHart _ 33 om _).trans (Cgo.setHart _ 34 om _)).drew⟩
    · by_cases h47:op=47
      · subst h47
        by_cases hq:(d.h.held&&d.h.heldAt==a)=true
        · have e:qb d 47 a b=((d.put 18 a b).hold false 0,0,true):=by unfold qb;rw[hok,if_pos rfl,if_neg om,if_pos rfl,if_pos hq]
          rw[e]
          clear e hold
          rw[Bool.and_eq_true,beq_iff_eq]at hq
          obtain⟨q1,q2⟩:=hq
          rw[q1]at h33
          rw[q2]at h34
          have HPut:=lI (cput_any h wf 18 a b HA.out HB.out)
          clear h f33 f34
          go_enter Tryz.func119,Tryz.ntmps119
          go_upto_region 1 with(fail)
          go_wp2_with (go_at_call 59;refine hl.out.mono ?_;rintro e w' ⟨rfl,rfl⟩)
          refine HPut.out.mono ?_
          rintro e w1 ⟨rfl,hc1,hg1⟩
          have hl2:qJ (d.put 18 a b).h=qJ d.h:=by rw[qF.put_h]
          have wf2:(d.put 18 a b).h.Wf:=by rw[qF.put_h];exact wf.h
          clear h33 h34 hp hm
          have hp:=hc1.ptr
          have h33:=hc1.hart.get (jk wf2)
          have h34:=hc1.hart.get (jn wf2)
          have f33:=hc1.hfz (ho+33)
          have f34:=hc1.hfz (ho+34)
          have H1:=lI hc1
          have G1:=lI hg1
          clear hc1 hg1 HPut hl
          go_wp2_with fail
          go_region
          all_goals go_wp2_with fail
          all_goals go_ret2
          all_goals exact⟨rfl,((H1.out.setHart 33 _ _ (jZ wf2.len false) yN).setHart 34 _ _ (Qw (h:={(d.put 18 a b).h with held:=false}) wf2.len 0) (by have:=qG wf2;unfold qJ at *;simp at *;omega)).below (Below.drew br),((G1.out.trans (Cgo.setHart _ 33 om _)).trans (Cgo.setHart _ 34 om _)).drew⟩
        · have e:qb d 47 a b=(d.hold false 0,1,true):=by unfold qb;rw[hok,if_pos rfl,if_neg om,if_pos rfl,if_neg hq]
          rw[e]
          clear e h hold
          rw[Bool.and_eq_true,beq_iff_eq]at hq
          cases hh:d.h.held with
          | false =>
            rw[hh]at h33
            clear hq
            go_enter Tryz.func119,Tryz.ntmps119
            go_upto_region 1 with(fail)
            go_wp2_with (go_at_call 59;refine hl.out.mono ?_;rintro e w' ⟨rfl,rfl⟩)
            go_region
            all_goals go_wp2_with fail
            all_goals go_ret2
            all_goals exact⟨rfl,((H.out.setHart 33 _ _ (jZ wf.h.len false) xI).setHart 34 _ _ (Qw (h:={d.h with held:=false}) wf.h.len 0) xY).below (Below.drew br),((Cgo.setHart _ 33 om _).trans (Cgo.setHart _ 34 om _)).drew⟩
          | true =>
            have hq2:¬d.h.heldAt=a:=fun e=>hq ⟨hh,e⟩
            rw[hh]at h33
            clear hq
            go_enter Tryz.func119,Tryz.ntmps119
            go_upto_region 1 with(fail)
            go_wp2_with (go_at_call 59;refine hl.out.mono ?_;rintro e w' ⟨rfl,rfl⟩)
            go_region
            all_goals go_wp2_with fail
            all_goals go_ret2
            all_goals exact⟨rfl,((H.out.setHart 33 _ _ (jZ wf.h.len false) xI).setHart 34 _ _ (Qw (h:={d.h with held:=false}) wf.h.len 0) xY).below (Below.drew br),((Cgo.setHart _ 33 om _).trans (Cgo.setHart _ 34 om _)).drew⟩
      · have e:qb d op a b=(d.put 18 a (amo op old b),old,true):=by unfold qb;rw[hok,if_pos rfl,if_neg h46,if_neg h47,←hold]
        rw[e]
        have HAm:=lI (amo_any op old b w hlu.out.1 hlu.out.2 HB.out.1 HB.out.2)
        have HPut:=lI (cput_any h wf 18 a (amo op old b) HA.out (amo_lo op old b hlu.out HB.out))
        clear e h hold
        go_enter Tryz.func119,Tryz.ntmps119
        go_upto_region 1 with(fail)
        go_wp2_with (go_at_call 59;refine hl.out.mono ?_;rintro e w' ⟨rfl,rfl⟩)
        refine HAm.out.mono ?_
        rintro e w' ⟨rfl,rfl⟩
        go_wp2_with fail
        refine HPut.out.mono ?_
        rintro e w1 ⟨rfl,hc1,hg1⟩
        clear hp hm h33 h34 f33 f34
        go_wp2_with fail
        go_ret2
        exact⟨rfl,hc1,hg1⟩
end
section
variable {cp hb ho : Nat} {vm : Value} {d : qF} {w : World}
theorem ck{p:Prop}(h:p:=by
 clear hp hc32
 have hp:=hc.ptr
 have h32:=hc.hart.get (qd wf2)
 have f32:=hc.hfz (ho+32)
 have HC:=lI hc
 clear hc
 go_wp2_with fail
 go_end0
 exact⟨rfl,HC.out.setHart 32 _ _ (QJ wf2.len _) yN,HG.out.trans (Cgo.setHart _ 32 om _)⟩):p:=h
theorem do_lui(h:qK cp hb ho vm 40 w d)(wf:d.Wf)(hlen:d.out.length<1099511627776)(kd k1 k2:Nat)(imm:Int)(hd:kd<32)(h1:k1<32)(h2:k2<32)(hi: -2147483648≤imm∧imm≤2147483647):
    Calls Tryz.prog 86 #[.pointer (some ⟨cp,0,none⟩),.agg #[.int .i64 1,.int .i64 kd,.int .i64 k1,.int .i64 k2,.int .i32 imm]] w fun e w'=>e=.returned (.tuple #[])∧qK cp hb ho vm 40 w' (doS ⟨1,kd,k1,k2,imm⟩ d)∧Cgo cp hb ho vm 40 w w':=by
  obtain⟨i0,i1⟩:=hi
  obtain⟨xa,hxa⟩:∃x,x=d.h.regs.getD k1 0:=⟨_,rfl⟩
  obtain⟨xb,hxb⟩:∃x,x=d.h.regs.getD k2 0:=⟨_,rfl⟩
  obtain⟨xn,hxn⟩:∃x,x=imm%4294967296:=⟨_,rfl⟩
  obtain⟨pc,hpc⟩:∃x,x=d.h.pc:=⟨_,rfl⟩
  have era:d.h.reg (k1:Int)=xa:=yW
  have erb:d.h.reg (k2:Int)=xb:=yV
  have ua:U32 xa:=zT
  have ub:U32 xb:=zS
  have un:U32 xn:=yA
  have up:U32 pc:=yC
  have e:doS ⟨1,kd,k1,k2,imm⟩ d=(d.set kd xn).setPc ((pc+4)%4294967296):=by
    unfold doS
    dsimp only
    rw[era,erb,←hxn,←hpc]
    rw[if_pos om]
  rw[e]
  clear e
  have hne:=h.hbl
  have HA:=lI ua
  have HB:=lI ub
  have HN:=lI un
  have HU:=lI up
  obtain⟨w1,hw1⟩:∃w1,w1=w.alloc (.cells #[.int .i64 1,.int .i64 kd,.int .i64 k1,.int .i64 k2,.int .i32 imm] 91):=⟨_,rfl⟩
  have H1:Hid (qK cp hb ho vm 40 w1 d):=lI zK
  have G1:Hid (Cgo cp hb ho vm 40 w w1):=lI zH
  have hbx:cp<w.heap.size:=h.lt
  have HX:Hid (w1.heap[w.heap.size]? =some (.cells #[.int .i64 1,.int .i64 kd,.int .i64 k1,.int .i64 k2,.int .i32 imm] 91 (0,0))):=lI zR
  have q0:(w1).cell? ⟨w.heap.size,0,none⟩=some (.int .i64 1):=zA
  have q1:(w1).cell? ⟨w.heap.size,1,none⟩=some (.int .i64 kd):=zA
  have q2:(w1).cell? ⟨w.heap.size,2,none⟩=some (.int .i64 k1):=zA
  have q3:(w1).cell? ⟨w.heap.size,3,none⟩=some (.int .i64 k2):=zA
  have q4:(w1).cell? ⟨w.heap.size,4,none⟩=some (.int .i32 imm):=zA
  have HW1:=lI hw1
  clear hw1 h
  have hp:=H1.out.ptr
  have hca:=H1.out.hart.get (qV wf.h k1 h1)
  have hcb:=H1.out.hart.get (qV wf.h k2 h2)
  have hc32:=H1.out.hart.get (qd wf.h)
  rw[←hxa]at hca
  rw[←hxb]at hcb
  rw[←hpc]at hc32
  have HPC:=lI hpc
  have HIM:=lI hxn
  clear hxa hxb era erb hpc ua ub un up hxn
  obtain⟨b1,b2⟩:=HU.out
  have j1:(k1:Int)<32:=om
  have j2:(k2:Int)<32:=om
  go_enter Tryz.func86,Tryz.ntmps86
  go_upto_region 1 with(fail)
  rw[←HW1.out]
  go_quiet (fail)
  rw[←HIM.out]
  clear hca hcb
  go_upto_region 37 with(go_at_call 114;refine(Jz (H1.out.drewN _) wf.h kd hd _).mono ?_;rintro e w2 ⟨rfl,hc,hg⟩)
  have HG:Hid (Cgo cp hb ho vm 40 w w2):=lI (((G1.out.drewN _)).trans hg)
  have wf2:=(wf.set kd xn HN.out).h
  clear hg q0 q1 q2 q3 q4
  exact ck
theorem do_jal(h:qK cp hb ho vm 40 w d)(wf:d.Wf)(hlen:d.out.length<1099511627776)(kd k1 k2:Nat)(imm:Int)(hd:kd<32)(h1:k1<32)(h2:k2<32)(hi: -2147483648≤imm∧imm≤2147483647):
    Calls Tryz.prog 86 #[.pointer (some ⟨cp,0,none⟩),.agg #[.int .i64 3,.int .i64 kd,.int .i64 k1,.int .i64 k2,.int .i32 imm]] w fun e w'=>e=.returned (.tuple #[])∧qK cp hb ho vm 40 w' (doS ⟨3,kd,k1,k2,imm⟩ d)∧Cgo cp hb ho vm 40 w w':=by
  obtain⟨i0,i1⟩:=hi
  obtain⟨xa,hxa⟩:∃x,x=d.h.regs.getD k1 0:=⟨_,rfl⟩
  obtain⟨xb,hxb⟩:∃x,x=d.h.regs.getD k2 0:=⟨_,rfl⟩
  obtain⟨xn,hxn⟩:∃x,x=imm%4294967296:=⟨_,rfl⟩
  obtain⟨pc,hpc⟩:∃x,x=d.h.pc:=⟨_,rfl⟩
  have era:d.h.reg (k1:Int)=xa:=yW
  have erb:d.h.reg (k2:Int)=xb:=yV
  have ua:U32 xa:=zT
  have ub:U32 xb:=zS
  have un:U32 xn:=yA
  have up:U32 pc:=yC
  have e:doS ⟨3,kd,k1,k2,imm⟩ d=(d.set kd ((pc+4)%4294967296)).setPc ((pc+xn)%4294967296):=by
    unfold doS
    dsimp only
    rw[era,erb,←hxn,←hpc]
    rw[if_neg om,if_neg om,if_pos om]
  rw[e]
  clear e
  have hne:=h.hbl
  have HA:=lI ua
  have HB:=lI ub
  have HN:=lI un
  have HU:=lI up
  obtain⟨w1,hw1⟩:∃w1,w1=w.alloc (.cells #[.int .i64 3,.int .i64 kd,.int .i64 k1,.int .i64 k2,.int .i32 imm] 91):=⟨_,rfl⟩
  have H1:Hid (qK cp hb ho vm 40 w1 d):=lI zK
  have G1:Hid (Cgo cp hb ho vm 40 w w1):=lI zH
  have hbx:cp<w.heap.size:=h.lt
  have HX:Hid (w1.heap[w.heap.size]? =some (.cells #[.int .i64 3,.int .i64 kd,.int .i64 k1,.int .i64 k2,.int .i32 imm] 91 (0,0))):=lI zR
  have q0:(w1).cell? ⟨w.heap.size,0,none⟩=some (.int .i64 3):=zA
  have q1:(w1).cell? ⟨w.heap.size,1,none⟩=some (.int .i64 kd):=zA
  have q2:(w1).cell? ⟨w.heap.size,2,none⟩=some (.int .i64 k1):=zA
  have q3:(w1).cell? ⟨w.heap.size,3,none⟩=some (.int .i64 k2):=zA
  have q4:(w1).cell? ⟨w.heap.size,4,none⟩=some (.int .i32 imm):=zA
  have HW1:=lI hw1
  clear hw1 h
  have hp:=H1.out.ptr
  have hca:=H1.out.hart.get (qV wf.h k1 h1)
  have hcb:=H1.out.hart.get (qV wf.h k2 h2)
  have hc32:=H1.out.hart.get (qd wf.h)
  rw[←hxa]at hca
  rw[←hxb]at hcb
  rw[←hpc]at hc32
  have HPC:=lI hpc
  have HIM:=lI hxn
  clear hxa hxb era erb hpc ua ub un up hxn
  obtain⟨b1,b2⟩:=HU.out
  have j1:(k1:Int)<32:=om
  have j2:(k2:Int)<32:=om
  go_enter Tryz.func86,Tryz.ntmps86
  go_upto_region 1 with(fail)
  rw[←HW1.out]
  go_quiet (fail)
  rw[←HIM.out]
  clear hca hcb
  obtain⟨n0,n1⟩:=HN.out
  go_upto_region 10 with(go_at_call 114;refine(Jz (H1.out.drewN _) wf.h kd hd _).mono ?_;rintro e w2 ⟨rfl,hc,hg⟩)
  have HG:Hid (Cgo cp hb ho vm 40 w w2):=lI (((G1.out.drewN _)).trans hg)
  have wf2:=(wf.set kd ((pc+4)%4294967296) (QH _)).h
  clear hg q0 q1 q2 q3 q4
  clear hp hc32
  have hp:=hc.ptr
  have h32:=hc.hart.get (qd wf2)
  have ep:(d.set kd ((pc+4)%4294967296)).h.pc=pc:=by rw[HPC.out];unfold qF.set Hart.setReg;split<;>rfl
  rw[ep]at h32
  have f32:=hc.hfz (ho+32)
  have HC:=lI hc
  clear hc
  go_wp2_with fail
  go_end0
  exact⟨rfl,HC.out.setHart 32 _ _ (QJ wf2.len _) yN,HG.out.trans (Cgo.setHart _ 32 om _)⟩
theorem do_jalr(h:qK cp hb ho vm 40 w d)(wf:d.Wf)(hlen:d.out.length<1099511627776)(kd k1 k2:Nat)(imm:Int)(hd:kd<32)(h1:k1<32)(h2:k2<32)(hi: -2147483648≤imm∧imm≤2147483647):
    Calls Tryz.prog 86 #[.pointer (some ⟨cp,0,none⟩),.agg #[.int .i64 4,.int .i64 kd,.int .i64 k1,.int .i64 k2,.int .i32 imm]] w fun e w'=>e=.returned (.tuple #[])∧qK cp hb ho vm 40 w' (doS ⟨4,kd,k1,k2,imm⟩ d)∧Cgo cp hb ho vm 40 w w':=by
  obtain⟨i0,i1⟩:=hi
  obtain⟨xa,hxa⟩:∃x,x=d.h.regs.getD k1 0:=⟨_,rfl⟩
  obtain⟨xb,hxb⟩:∃x,x=d.h.regs.getD k2 0:=⟨_,rfl⟩
  obtain⟨xn,hxn⟩:∃x,x=imm%4294967296:=⟨_,rfl⟩
  obtain⟨pc,hpc⟩:∃x,x=d.h.pc:=⟨_,rfl⟩
  have era:d.h.reg (k1:Int)=xa:=yW
  have erb:d.h.reg (k2:Int)=xb:=yV
  have ua:U32 xa:=zT
  have ub:U32 xb:=zS
  have un:U32 xn:=yA
  have up:U32 pc:=yC
  have e:doS ⟨4,kd,k1,k2,imm⟩ d=(d.set kd ((pc+4)%4294967296)).setPc ((xa+xn)%4294967296-(xa+xn)%4294967296%2):=by
    unfold doS
    dsimp only
    rw[era,erb,←hxn,←hpc]
    rw[if_neg om,if_neg om,if_neg om,if_pos om]
  rw[e]
  clear e
  obtain⟨xt,hxt⟩:∃x,x=(xa+xn)%4294967296-(xa+xn)%4294967296%2:=⟨_,rfl⟩
  rw[←hxt]
  have HT:=lI hxt
  clear hxt
  have hne:=h.hbl
  have HA:=lI ua
  have HB:=lI ub
  have HN:=lI un
  have HU:=lI up
  obtain⟨w1,hw1⟩:∃w1,w1=w.alloc (.cells #[.int .i64 4,.int .i64 kd,.int .i64 k1,.int .i64 k2,.int .i32 imm] 91):=⟨_,rfl⟩
  have H1:Hid (qK cp hb ho vm 40 w1 d):=lI zK
  have G1:Hid (Cgo cp hb ho vm 40 w w1):=lI zH
  have hbx:cp<w.heap.size:=h.lt
  have HX:Hid (w1.heap[w.heap.size]? =some (.cells #[.int .i64 4,.int .i64 kd,.int .i64 k1,.int .i64 k2,.int .i32 imm] 91 (0,0))):=lI zR
  have q0:(w1).cell? ⟨w.heap.size,0,none⟩=some (.int .i64 4):=zA
  have q1:(w1).cell? ⟨w.heap.size,1,none⟩=some (.int .i64 kd):=zA
  have q2:(w1).cell? ⟨w.heap.size,2,none⟩=some (.int .i64 k1):=zA
  have q3:(w1).cell? ⟨w.heap.size,3,none⟩=some (.int .i64 k2):=zA
  have q4:(w1).cell? ⟨w.heap.size,4,none⟩=some (.int .i32 imm):=zA
  have HW1:=lI hw1
  clear hw1 h
  have hp:=H1.out.ptr
  have hca:=H1.out.hart.get (qV wf.h k1 h1)
  have hcb:=H1.out.hart.get (qV wf.h k2 h2)
  have hc32:=H1.out.hart.get (qd wf.h)
  rw[←hxa]at hca
  rw[←hxb]at hcb
  rw[←hpc]at hc32
  have HPC:=lI hpc
  have HIM:=lI hxn
  clear hxa hxb era erb hpc ua ub un up hxn
  obtain⟨b1,b2⟩:=HU.out
  have j1:(k1:Int)<32:=om
  have j2:(k2:Int)<32:=om
  go_enter Tryz.func86,Tryz.ntmps86
  go_upto_region 1 with(fail)
  rw[←HW1.out]
  go_quiet (fail)
  rw[←HIM.out]
  clear hca hcb
  obtain⟨n0,n1⟩:=HN.out
  obtain⟨a0,a1⟩:=HA.out
  have hand:bits .andNot .u32 ((xa+xn)%4294967296) 1=xt:=by rw[HT.out];exact andNot1 _ (QH _)
  go_upto_region 37 with(go_at_call 114;refine(Jz (H1.out.drewN _) wf.h kd hd _).mono ?_;rintro e w2 ⟨rfl,hc,hg⟩)
  have HG:Hid (Cgo cp hb ho vm 40 w w2):=lI (((G1.out.drewN _)).trans hg)
  have wf2:=(wf.set kd ((pc+4)%4294967296) (QH _)).h
  clear hg q0 q1 q2 q3 q4
  exact ck
end
section
variable {cp hb ho : Nat} {vm : Value} {d : qF} {w : World}
theorem cj{p:Prop}(h:p:=by
 have hne:=h.hbl
 have HA:=lI ua
 have HB:=lI ub
 have HN:=lI un
 have HU:=lI up
 obtain⟨w1,hw1⟩:∃w1,w1=w.alloc (.cells #[.int .i64 op,.int .i64 kd,.int .i64 k1,.int .i64 k2,.int .i32 imm] 91):=⟨_,rfl⟩
 have H1:Hid (qK cp hb ho vm 40 w1 d):=lI zK
 have G1:Hid (Cgo cp hb ho vm 40 w w1):=lI zH
 have hbx:cp<w.heap.size:=h.lt
 have HX:Hid (w1.heap[w.heap.size]? =some (.cells #[.int .i64 op,.int .i64 kd,.int .i64 k1,.int .i64 k2,.int .i32 imm] 91 (0,0))):=lI zR
 have q0:(w1).cell? ⟨w.heap.size,0,none⟩=some (.int .i64 op):=zA
 have q1:(w1).cell? ⟨w.heap.size,1,none⟩=some (.int .i64 kd):=zA
 have q2:(w1).cell? ⟨w.heap.size,2,none⟩=some (.int .i64 k1):=zA
 have q3:(w1).cell? ⟨w.heap.size,3,none⟩=some (.int .i64 k2):=zA
 have q4:(w1).cell? ⟨w.heap.size,4,none⟩=some (.int .i32 imm):=zA
 have HW1:=lI hw1
 clear hw1 h
 have hp:=H1.out.ptr
 have hca:=H1.out.hart.get (qV wf.h k1 h1)
 have hcb:=H1.out.hart.get (qV wf.h k2 h2)
 have hc32:=H1.out.hart.get (qd wf.h)
 rw[←hxa]at hca
 rw[←hxb]at hcb
 rw[←hpc]at hc32
 have HPC:=lI hpc
 have HIM:=lI hxn
 clear hxa hxb era erb hpc ua ub un up hxn
 obtain⟨b1,b2⟩:=HU.out
 have j1:(k1:Int)<32:=om
 have j2:(k2:Int)<32:=om
 go_enter Tryz.func86,Tryz.ntmps86
 go_upto_region 1 with(fail)
 rw[←HW1.out]
 go_quiet (fail)
 rw[←HIM.out]
 clear hca hcb
 obtain⟨n0,n1⟩:=HN.out
 go_upto_region 15 with(fail)
 go_upto_region 37 with(go_at_call 115;refine(HH.out _).mono ?_;rintro e w2 ⟨rfl,rfl⟩)
 have h32:=hc32
 have f32:=H1.out.hfz (ho+32)
 clear q0 q1 q2 q3 q4 hc32
 go_wp2_with fail
 go_end0
 exact⟨rfl,(H1.out.drewN _).setHart 32 _ _ (QJ wf.h.len _) xI,(G1.out.drewN _).trans (Cgo.setHart _ 32 om _)⟩):p:=h
theorem do_branch_true(h:qK cp hb ho vm 40 w d)(wf:d.Wf)(hlen:d.out.length<1099511627776)(op:Int)(kd k1 k2:Nat)(imm:Int)(hop:5≤op∧op≤10)(hd:kd<32)(h1:k1<32)(h2:k2<32)(hq:holds op (d.h.reg k1) (d.h.reg k2)=true)(hi: -2147483648≤imm∧imm≤2147483647):
    Calls Tryz.prog 86 #[.pointer (some ⟨cp,0,none⟩),.agg #[.int .i64 op,.int .i64 kd,.int .i64 k1,.int .i64 k2,.int .i32 imm]] w fun e w'=>e=.returned (.tuple #[])∧qK cp hb ho vm 40 w' (doS ⟨op,kd,k1,k2,imm⟩ d)∧Cgo cp hb ho vm 40 w w':=by
  obtain⟨o0,o1⟩:=hop
  have f1:(op==1)=false:=sH.2 om
  have f2:(op==2)=false:=sH.2 om
  have f3:(op==3)=false:=sH.2 om
  have f4:(op==4)=false:=sH.2 om
  obtain⟨i0,i1⟩:=hi
  obtain⟨xa,hxa⟩:∃x,x=d.h.regs.getD k1 0:=⟨_,rfl⟩
  obtain⟨xb,hxb⟩:∃x,x=d.h.regs.getD k2 0:=⟨_,rfl⟩
  obtain⟨xn,hxn⟩:∃x,x=imm%4294967296:=⟨_,rfl⟩
  obtain⟨pc,hpc⟩:∃x,x=d.h.pc:=⟨_,rfl⟩
  have era:d.h.reg (k1:Int)=xa:=yW
  have erb:d.h.reg (k2:Int)=xb:=yV
  rw[era,erb]at hq
  have ua:U32 xa:=zT
  have ub:U32 xb:=zS
  have un:U32 xn:=yA
  have up:U32 pc:=yC
  have e:doS ⟨op,kd,k1,k2,imm⟩ d=d.setPc (if holds op xa xb=true then(pc+xn)%4294967296 else(pc+4)%4294967296):=by
    unfold doS
    dsimp only
    rw[era,erb,←hxn,←hpc]
    rw[if_neg om,if_neg om,if_neg om,if_neg om,if_pos om]
  rw[e]
  clear e
  have HH:=lI (fun W=>holds_any op xa xb W ua.1 ua.2 ub.1 ub.2)
  rw[show holds op xa xb=true from hq]at HH
  rw[show holds op xa xb=true from hq,if_pos rfl]
  exact cj
theorem do_branch_false(h:qK cp hb ho vm 40 w d)(wf:d.Wf)(hlen:d.out.length<1099511627776)(op:Int)(kd k1 k2:Nat)(imm:Int)(hop:5≤op∧op≤10)(hd:kd<32)(h1:k1<32)(h2:k2<32)(hq:holds op (d.h.reg k1) (d.h.reg k2)=false)(hi: -2147483648≤imm∧imm≤2147483647):
    Calls Tryz.prog 86 #[.pointer (some ⟨cp,0,none⟩),.agg #[.int .i64 op,.int .i64 kd,.int .i64 k1,.int .i64 k2,.int .i32 imm]] w fun e w'=>e=.returned (.tuple #[])∧qK cp hb ho vm 40 w' (doS ⟨op,kd,k1,k2,imm⟩ d)∧Cgo cp hb ho vm 40 w w':=by
  obtain⟨o0,o1⟩:=hop
  have f1:(op==1)=false:=sH.2 om
  have f2:(op==2)=false:=sH.2 om
  have f3:(op==3)=false:=sH.2 om
  have f4:(op==4)=false:=sH.2 om
  obtain⟨i0,i1⟩:=hi
  obtain⟨xa,hxa⟩:∃x,x=d.h.regs.getD k1 0:=⟨_,rfl⟩
  obtain⟨xb,hxb⟩:∃x,x=d.h.regs.getD k2 0:=⟨_,rfl⟩
  obtain⟨xn,hxn⟩:∃x,x=imm%4294967296:=⟨_,rfl⟩
  obtain⟨pc,hpc⟩:∃x,x=d.h.pc:=⟨_,rfl⟩
  have era:d.h.reg (k1:Int)=xa:=yW
  have erb:d.h.reg (k2:Int)=xb:=yV
  rw[era,erb]at hq
  have ua:U32 xa:=zT
  have ub:U32 xb:=zS
  have un:U32 xn:=yA
  have up:U32 pc:=yC
  have e:doS ⟨op,kd,k1,k2,imm⟩ d=d.setPc (if holds op xa xb=true then(pc+xn)%4294967296 else(pc+4)%4294967296):=by
    unfold doS
    dsimp only
    rw[era,erb,←hxn,←hpc]
    rw[if_neg om,if_neg om,if_neg om,if_neg om,if_pos om]
  rw[e]
  clear e
  have HH:=lI (fun W=>holds_any op xa xb W ua.1 ua.2 ub.1 ub.2)
  rw[show holds op xa xb=false from hq]at HH
  rw[show holds op xa xb=false from hq,if_neg zF]
  exact cj
end
section
variable {cp hb ho : Nat} {vm : Value} {d : qF} {w : World}
theorem cn{p:Prop}(h:p:=by
 go_wp2_with (go_at_call 85;refine(Jk (H1.out.drewN _) wf.h _).mono ?_;rintro e w2 ⟨rfl,hc,hg⟩)
 exact sO (results_none zM _ _ _) rfl ⟨rfl,hc,(G1.out.drewN _).trans hg⟩):p:=h
theorem do_load_no(h:qK cp hb ho vm 40 w d)(wf:d.Wf)(hlen:d.out.length<1099511627776)(op:Int)(kd k1 k2:Nat)(imm:Int)(hop:11≤op∧op≤15)(hd:kd<32)(h1:k1<32)(h2:k2<32)(hq:qX d.m op ((d.h.reg k1+imm%4294967296)%4294967296)=false)(hi: -2147483648≤imm∧imm≤2147483647):
    Calls Tryz.prog 86 #[.pointer (some ⟨cp,0,none⟩),.agg #[.int .i64 op,.int .i64 kd,.int .i64 k1,.int .i64 k2,.int .i32 imm]] w fun e w'=>e=.returned (.tuple #[])∧qK cp hb ho vm 40 w' (doS ⟨op,kd,k1,k2,imm⟩ d)∧Cgo cp hb ho vm 40 w w':=by
  obtain⟨o0,o1⟩:=hop
  have f1:(op==1)=false:=sH.2 om
  have f2:(op==2)=false:=sH.2 om
  have f3:(op==3)=false:=sH.2 om
  have f4:(op==4)=false:=sH.2 om
  obtain⟨i0,i1⟩:=hi
  obtain⟨xa,hxa⟩:∃x,x=d.h.regs.getD k1 0:=⟨_,rfl⟩
  obtain⟨xb,hxb⟩:∃x,x=d.h.regs.getD k2 0:=⟨_,rfl⟩
  obtain⟨xn,hxn⟩:∃x,x=imm%4294967296:=⟨_,rfl⟩
  obtain⟨pc,hpc⟩:∃x,x=d.h.pc:=⟨_,rfl⟩
  have era:d.h.reg (k1:Int)=xa:=yW
  have erb:d.h.reg (k2:Int)=xb:=yV
  rw[era,←hxn]at hq
  have ua:U32 xa:=zT
  have ub:U32 xb:=zS
  have un:U32 xn:=yA
  have up:U32 pc:=yC
  have e:doS ⟨op,kd,k1,k2,imm⟩ d=d.trap 3:=by
    unfold doS
    dsimp only
    rw[era,erb,←hxn,←hpc]
    rw[if_neg om,if_neg om,if_neg om,if_neg om,if_neg om,if_pos om,if_neg (by rw[hq];decide)]
  rw[e]
  clear e
  have HL:=lI (fun W hW=>load_any vm d.m op ((xa+xn)%4294967296) W hW (QH _) wf.m.getD)
  rw[hq]at HL
  have hne:=h.hbl
  have HA:=lI ua
  have HB:=lI ub
  have HN:=lI un
  have HU:=lI up
  obtain⟨w1,hw1⟩:∃w1,w1=w.alloc (.cells #[.int .i64 op,.int .i64 kd,.int .i64 k1,.int .i64 k2,.int .i32 imm] 91):=⟨_,rfl⟩
  have H1:Hid (qK cp hb ho vm 40 w1 d):=lI zK
  have G1:Hid (Cgo cp hb ho vm 40 w w1):=lI zH
  have hbx:cp<w.heap.size:=h.lt
  have HX:Hid (w1.heap[w.heap.size]? =some (.cells #[.int .i64 op,.int .i64 kd,.int .i64 k1,.int .i64 k2,.int .i32 imm] 91 (0,0))):=lI zR
  have q0:(w1).cell? ⟨w.heap.size,0,none⟩=some (.int .i64 op):=zA
  have q1:(w1).cell? ⟨w.heap.size,1,none⟩=some (.int .i64 kd):=zA
  have q2:(w1).cell? ⟨w.heap.size,2,none⟩=some (.int .i64 k1):=zA
  have q3:(w1).cell? ⟨w.heap.size,3,none⟩=some (.int .i64 k2):=zA
  have q4:(w1).cell? ⟨w.heap.size,4,none⟩=some (.int .i32 imm):=zA
  have HW1:=lI hw1
  clear hw1 h
  have hp:=H1.out.ptr
  have hca:=H1.out.hart.get (qV wf.h k1 h1)
  have hcb:=H1.out.hart.get (qV wf.h k2 h2)
  have hc32:=H1.out.hart.get (qd wf.h)
  rw[←hxa]at hca
  rw[←hxb]at hcb
  rw[←hpc]at hc32
  have HPC:=lI hpc
  have HIM:=lI hxn
  clear hxa hxb era erb hpc ua ub un up hxn
  obtain⟨b1,b2⟩:=HU.out
  have j1:(k1:Int)<32:=om
  have j2:(k2:Int)<32:=om
  go_enter Tryz.func86,Tryz.ntmps86
  go_upto_region 1 with(fail)
  rw[←HW1.out]
  go_quiet (fail)
  rw[←HIM.out]
  clear hca hcb
  obtain⟨n0,n1⟩:=HN.out
  obtain⟨a0,a1⟩:=HA.out
  have hm:=H1.out.mem
  go_upto_region 18 with(fail)
  go_upto_region 20 with(go_at_call 59;refine(HL.out _ (H1.out.drewN _).bytes).mono ?_;rintro e w2 ⟨rfl,rfl⟩)
  clear hm q0 q1 q2 q3 q4
  clear hp hc32
  exact cn
theorem do_load_yes(h:qK cp hb ho vm 40 w d)(wf:d.Wf)(hlen:d.out.length<1099511627776)(op:Int)(kd k1 k2:Nat)(imm:Int)(hop:11≤op∧op≤15)(hd:kd<32)(h1:k1<32)(h2:k2<32)(hq:qX d.m op ((d.h.reg k1+imm%4294967296)%4294967296)=true)(hi: -2147483648≤imm∧imm≤2147483647):
    Calls Tryz.prog 86 #[.pointer (some ⟨cp,0,none⟩),.agg #[.int .i64 op,.int .i64 kd,.int .i64 k1,.int .i64 k2,.int .i32 imm]] w fun e w'=>e=.returned (.tuple #[])∧qK cp hb ho vm 40 w' (doS ⟨op,kd,k1,k2,imm⟩ d)∧Cgo cp hb ho vm 40 w w':=by
  obtain⟨o0,o1⟩:=hop
  have f1:(op==1)=false:=sH.2 om
  have f2:(op==2)=false:=sH.2 om
  have f3:(op==3)=false:=sH.2 om
  have f4:(op==4)=false:=sH.2 om
  obtain⟨i0,i1⟩:=hi
  obtain⟨xa,hxa⟩:∃x,x=d.h.regs.getD k1 0:=⟨_,rfl⟩
  obtain⟨xb,hxb⟩:∃x,x=d.h.regs.getD k2 0:=⟨_,rfl⟩
  obtain⟨xn,hxn⟩:∃x,x=imm%4294967296:=⟨_,rfl⟩
  obtain⟨pc,hpc⟩:∃x,x=d.h.pc:=⟨_,rfl⟩
  have era:d.h.reg (k1:Int)=xa:=yW
  have erb:d.h.reg (k2:Int)=xb:=yV
  rw[era,←hxn]at hq
  have ua:U32 xa:=zT
  have ub:U32 xb:=zS
  have un:U32 xn:=yA
  have up:U32 pc:=yC
  have e:doS ⟨op,kd,k1,k2,imm⟩ d=(d.set kd (QB d.m op ((xa+xn)%4294967296))).setPc ((pc+4)%4294967296):=by
    unfold doS
    dsimp only
    rw[era,erb,←hxn,←hpc]
    rw[if_neg om,if_neg om,if_neg om,if_neg om,if_neg om,if_pos om,if_pos hq]
  rw[e]
  clear e
  have HL:=lI (fun W hW=>load_any vm d.m op ((xa+xn)%4294967296) W hW (QH _) wf.m.getD)
  rw[hq]at HL
  have HLU:=lI (mLoad_u d.m op ((xa+xn)%4294967296) ⟨o0,o1⟩ (QH _) wf.m.getD)
  obtain⟨xl,hxl⟩:∃x,x=QB d.m op ((xa+xn)%4294967296):=⟨_,rfl⟩
  rw[←hxl]at HLU ⊢
  have HL2:Hid (∀W,Ints .u8 W vm d.m→Calls Tryz.prog 59 #[vm,.int .i64 op,.int .u32 ((xa+xn)%4294967296)] W fun e w'=>e=.returned (.tuple #[.int .u32 xl,.bool true])∧W=w'):=lI (by rw[hxl];exact HL.out)
  clear hxl HL
  have HL:=HL2
  clear HL2
  have hne:=h.hbl
  have HA:=lI ua
  have HB:=lI ub
  have HN:=lI un
  have HU:=lI up
  obtain⟨w1,hw1⟩:∃w1,w1=w.alloc (.cells #[.int .i64 op,.int .i64 kd,.int .i64 k1,.int .i64 k2,.int .i32 imm] 91):=⟨_,rfl⟩
  have H1:Hid (qK cp hb ho vm 40 w1 d):=lI zK
  have G1:Hid (Cgo cp hb ho vm 40 w w1):=lI zH
  have hbx:cp<w.heap.size:=h.lt
  have HX:Hid (w1.heap[w.heap.size]? =some (.cells #[.int .i64 op,.int .i64 kd,.int .i64 k1,.int .i64 k2,.int .i32 imm] 91 (0,0))):=lI zR
  have q0:(w1).cell? ⟨w.heap.size,0,none⟩=some (.int .i64 op):=zA
  have q1:(w1).cell? ⟨w.heap.size,1,none⟩=some (.int .i64 kd):=zA
  have q2:(w1).cell? ⟨w.heap.size,2,none⟩=some (.int .i64 k1):=zA
  have q3:(w1).cell? ⟨w.heap.size,3,none⟩=some (.int .i64 k2):=zA
  have q4:(w1).cell? ⟨w.heap.size,4,none⟩=some (.int .i32 imm):=zA
  have HW1:=lI hw1
  clear hw1 h
  have hp:=H1.out.ptr
  have hca:=H1.out.hart.get (qV wf.h k1 h1)
  have hcb:=H1.out.hart.get (qV wf.h k2 h2)
  have hc32:=H1.out.hart.get (qd wf.h)
  rw[←hxa]at hca
  rw[←hxb]at hcb
  rw[←hpc]at hc32
  have HPC:=lI hpc
  have HIM:=lI hxn
  clear hxa hxb era erb hpc ua ub un up hxn
  obtain⟨b1,b2⟩:=HU.out
  have j1:(k1:Int)<32:=om
  have j2:(k2:Int)<32:=om
  go_enter Tryz.func86,Tryz.ntmps86
  go_upto_region 1 with(fail)
  rw[←HW1.out]
  go_quiet (fail)
  rw[←HIM.out]
  clear hca hcb
  obtain⟨n0,n1⟩:=HN.out
  obtain⟨a0,a1⟩:=HA.out
  have hm:=H1.out.mem
  go_upto_region 18 with(fail)
  go_upto_region 21 with(go_at_call 59;refine(HL.out _ (H1.out.drewN _).bytes).mono ?_;rintro e w2 ⟨rfl,rfl⟩)
  clear hm
  go_upto_region 37 with(go_at_call 114;refine(Jz (H1.out.drewN _) wf.h kd hd _).mono ?_;rintro e w2 ⟨rfl,hc,hg⟩)
  have HG:Hid (Cgo cp hb ho vm 40 w w2):=lI (((G1.out.drewN _)).trans hg)
  have wf2:=(wf.set kd xl HLU.out).h
  clear hg q0 q1 q2 q3 q4
  exact ck
end
section
variable {cp hb ho : Nat} {vm : Value} {d : qF} {w : World}
theorem do_store_no(h:qK cp hb ho vm 40 w d)(wf:d.Wf)(hlen:d.out.length<1099511627776)(op:Int)(kd k1 k2:Nat)(imm:Int)(hop:16≤op∧op≤18)(hd:kd<32)(h1:k1<32)(h2:k2<32)(hq:qW d.m op ((d.h.reg k1+imm%4294967296)%4294967296)=false)(hi: -2147483648≤imm∧imm≤2147483647):
    Calls Tryz.prog 86 #[.pointer (some ⟨cp,0,none⟩),.agg #[.int .i64 op,.int .i64 kd,.int .i64 k1,.int .i64 k2,.int .i32 imm]] w fun e w'=>e=.returned (.tuple #[])∧qK cp hb ho vm 40 w' (doS ⟨op,kd,k1,k2,imm⟩ d)∧Cgo cp hb ho vm 40 w w':=by
  obtain⟨o0,o1⟩:=hop
  have f1:(op==1)=false:=sH.2 om
  have f2:(op==2)=false:=sH.2 om
  have f3:(op==3)=false:=sH.2 om
  have f4:(op==4)=false:=sH.2 om
  obtain⟨i0,i1⟩:=hi
  obtain⟨xa,hxa⟩:∃x,x=d.h.regs.getD k1 0:=⟨_,rfl⟩
  obtain⟨xb,hxb⟩:∃x,x=d.h.regs.getD k2 0:=⟨_,rfl⟩
  obtain⟨xn,hxn⟩:∃x,x=imm%4294967296:=⟨_,rfl⟩
  obtain⟨pc,hpc⟩:∃x,x=d.h.pc:=⟨_,rfl⟩
  have era:d.h.reg (k1:Int)=xa:=yW
  have erb:d.h.reg (k2:Int)=xb:=yV
  rw[era,←hxn]at hq
  have ua:U32 xa:=zT
  have ub:U32 xb:=zS
  have un:U32 xn:=yA
  have up:U32 pc:=yC
  have e:doS ⟨op,kd,k1,k2,imm⟩ d=d.trap 4:=by
    unfold doS
    dsimp only
    rw[era,erb,←hxn,←hpc]
    rw[if_neg om,if_neg om,if_neg om,if_neg om,if_neg om,if_neg om,if_pos om,if_neg (by rw[hq];decide)]
  rw[e]
  clear e
  have HPut:=lI (fun W hW=>cput_any (cp:=cp) (hb:=hb) (ho:=ho) (vm:=vm) (d:=d) (w:=W) hW wf op ((xa+xn)%4294967296) xb (QH _) ub)
  rw[hq,show d.put op ((xa+xn)%4294967296) xb=d by unfold qF.put;rw[hq];rfl]at HPut
  have hne:=h.hbl
  have HA:=lI ua
  have HB:=lI ub
  have HN:=lI un
  have HU:=lI up
  obtain⟨w1,hw1⟩:∃w1,w1=w.alloc (.cells #[.int .i64 op,.int .i64 kd,.int .i64 k1,.int .i64 k2,.int .i32 imm] 91):=⟨_,rfl⟩
  have H1:Hid (qK cp hb ho vm 40 w1 d):=lI zK
  have G1:Hid (Cgo cp hb ho vm 40 w w1):=lI zH
  have hbx:cp<w.heap.size:=h.lt
  have HX:Hid (w1.heap[w.heap.size]? =some (.cells #[.int .i64 op,.int .i64 kd,.int .i64 k1,.int .i64 k2,.int .i32 imm] 91 (0,0))):=lI zR
  have q0:(w1).cell? ⟨w.heap.size,0,none⟩=some (.int .i64 op):=zA
  have q1:(w1).cell? ⟨w.heap.size,1,none⟩=some (.int .i64 kd):=zA
  have q2:(w1).cell? ⟨w.heap.size,2,none⟩=some (.int .i64 k1):=zA
  have q3:(w1).cell? ⟨w.heap.size,3,none⟩=some (.int .i64 k2):=zA
  have q4:(w1).cell? ⟨w.heap.size,4,none⟩=some (.int .i32 imm):=zA
  have HW1:=lI hw1
  clear hw1 h
  have hp:=H1.out.ptr
  have hca:=H1.out.hart.get (qV wf.h k1 h1)
  have hcb:=H1.out.hart.get (qV wf.h k2 h2)
  have hc32:=H1.out.hart.get (qd wf.h)
  rw[←hxa]at hca
  rw[←hxb]at hcb
  rw[←hpc]at hc32
  have HPC:=lI hpc
  have HIM:=lI hxn
  clear hxa hxb era erb hpc ua ub un up hxn
  obtain⟨b1,b2⟩:=HU.out
  have j1:(k1:Int)<32:=om
  have j2:(k2:Int)<32:=om
  go_enter Tryz.func86,Tryz.ntmps86
  go_upto_region 1 with(fail)
  rw[←HW1.out]
  go_quiet (fail)
  rw[←HIM.out]
  clear hca hcb
  obtain⟨n0,n1⟩:=HN.out
  obtain⟨a0,a1⟩:=HA.out
  go_upto_region 24 with(go_at_call 116;refine(HPut.out _ (H1.out.drewN _)).mono ?_;rintro e w2 ⟨rfl,hc,hg⟩)
  clear hp hc32 q0 q1 q2 q3 q4
  have HG2:=lI ((G1.out.drewN _).trans hg)
  clear hg
  go_wp2_with (go_at_call 85;refine(Jk hc wf.h _).mono ?_;rintro e w3 ⟨rfl,hc3,hg3⟩)
  exact sO (results_none zM _ _ _) rfl ⟨rfl,hc3,HG2.out.trans hg3⟩
theorem do_store_yes(h:qK cp hb ho vm 40 w d)(wf:d.Wf)(hlen:d.out.length<1099511627776)(op:Int)(kd k1 k2:Nat)(imm:Int)(hop:16≤op∧op≤18)(hd:kd<32)(h1:k1<32)(h2:k2<32)(hq:qW d.m op ((d.h.reg k1+imm%4294967296)%4294967296)=true)(hi: -2147483648≤imm∧imm≤2147483647):
    Calls Tryz.prog 86 #[.pointer (some ⟨cp,0,none⟩),.agg #[.int .i64 op,.int .i64 kd,.int .i64 k1,.int .i64 k2,.int .i32 imm]] w fun e w'=>e=.returned (.tuple #[])∧qK cp hb ho vm 40 w' (doS ⟨op,kd,k1,k2,imm⟩ d)∧Cgo cp hb ho vm 40 w w':=by
  obtain⟨o0,o1⟩:=hop
  have f1:(op==1)=false:=sH.2 om
  have f2:(op==2)=false:=sH.2 om
  have f3:(op==3)=false:=sH.2 om
  have f4:(op==4)=false:=sH.2 om
  obtain⟨i0,i1⟩:=hi
  obtain⟨xa,hxa⟩:∃x,x=d.h.regs.getD k1 0:=⟨_,rfl⟩
  obtain⟨xb,hxb⟩:∃x,x=d.h.regs.getD k2 0:=⟨_,rfl⟩
  obtain⟨xn,hxn⟩:∃x,x=imm%4294967296:=⟨_,rfl⟩
  obtain⟨pc,hpc⟩:∃x,x=d.h.pc:=⟨_,rfl⟩
  have era:d.h.reg (k1:Int)=xa:=yW
  have erb:d.h.reg (k2:Int)=xb:=yV
  rw[era,←hxn]at hq
  have ua:U32 xa:=zT
  have ub:U32 xb:=zS
  have un:U32 xn:=yA
  have up:U32 pc:=yC
  have e:doS ⟨op,kd,k1,k2,imm⟩ d=(d.put op ((xa+xn)%4294967296) xb).setPc ((pc+4)%4294967296):=by
    unfold doS
    dsimp only
    rw[era,erb,←hxn,←hpc]
    rw[if_neg om,if_neg om,if_neg om,if_neg om,if_neg om,if_neg om,if_pos om,if_pos hq]
  rw[e]
  clear e
  have HPut:=lI (fun W hW=>cput_any (cp:=cp) (hb:=hb) (ho:=ho) (vm:=vm) (d:=d) (w:=W) hW wf op ((xa+xn)%4294967296) xb (QH _) ub)
  rw[hq]at HPut
  have hne:=h.hbl
  have HA:=lI ua
  have HB:=lI ub
  have HN:=lI un
  have HU:=lI up
  obtain⟨w1,hw1⟩:∃w1,w1=w.alloc (.cells #[.int .i64 op,.int .i64 kd,.int .i64 k1,.int .i64 k2,.int .i32 imm] 91):=⟨_,rfl⟩
  have H1:Hid (qK cp hb ho vm 40 w1 d):=lI zK
  have G1:Hid (Cgo cp hb ho vm 40 w w1):=lI zH
  have hbx:cp<w.heap.size:=h.lt
  have HX:Hid (w1.heap[w.heap.size]? =some (.cells #[.int .i64 op,.int .i64 kd,.int .i64 k1,.int .i64 k2,.int .i32 imm] 91 (0,0))):=lI zR
  have q0:(w1).cell? ⟨w.heap.size,0,none⟩=some (.int .i64 op):=zA
  have q1:(w1).cell? ⟨w.heap.size,1,none⟩=some (.int .i64 kd):=zA
  have q2:(w1).cell? ⟨w.heap.size,2,none⟩=some (.int .i64 k1):=zA
  have q3:(w1).cell? ⟨w.heap.size,3,none⟩=some (.int .i64 k2):=zA
  have q4:(w1).cell? ⟨w.heap.size,4,none⟩=some (.int .i32 imm):=zA
  have HW1:=lI hw1
  clear hw1 h
  have hp:=H1.out.ptr
  have hca:=H1.out.hart.get (qV wf.h k1 h1)
  have hcb:=H1.out.hart.get (qV wf.h k2 h2)
  have hc32:=H1.out.hart.get (qd wf.h)
  rw[←hxa]at hca
  rw[←hxb]at hcb
  rw[←hpc]at hc32
  have HPC:=lI hpc
  have HIM:=lI hxn
  clear hxa hxb era erb hpc ua ub un up hxn
  obtain⟨b1,b2⟩:=HU.out
  have j1:(k1:Int)<32:=om
  have j2:(k2:Int)<32:=om
  go_enter Tryz.func86,Tryz.ntmps86
  go_upto_region 1 with(fail)
  rw[←HW1.out]
  go_quiet (fail)
  rw[←HIM.out]
  clear hca hcb
  obtain⟨n0,n1⟩:=HN.out
  obtain⟨a0,a1⟩:=HA.out
  go_upto_region 37 with(go_at_call 116;refine(HPut.out _ (H1.out.drewN _)).mono ?_;rintro e w2 ⟨rfl,hc,hg⟩)
  clear q0 q1 q2 q3 q4
  have HG:=lI ((G1.out.drewN _).trans hg)
  have wf2:(d.put op ((xa+xn)%4294967296) xb).h.Wf:=by rw[qF.put_h];exact wf.h
  clear hg
  exact ck
theorem do_fence(h:qK cp hb ho vm 40 w d)(wf:d.Wf)(hlen:d.out.length<1099511627776)(kd k1 k2:Nat)(imm:Int)(hd:kd<32)(h1:k1<32)(h2:k2<32)(hi: -2147483648≤imm∧imm≤2147483647):
    Calls Tryz.prog 86 #[.pointer (some ⟨cp,0,none⟩),.agg #[.int .i64 57,.int .i64 kd,.int .i64 k1,.int .i64 k2,.int .i32 imm]] w fun e w'=>e=.returned (.tuple #[])∧qK cp hb ho vm 40 w' (doS ⟨57,kd,k1,k2,imm⟩ d)∧Cgo cp hb ho vm 40 w w':=by
  obtain⟨i0,i1⟩:=hi
  obtain⟨xa,hxa⟩:∃x,x=d.h.regs.getD k1 0:=⟨_,rfl⟩
  obtain⟨xb,hxb⟩:∃x,x=d.h.regs.getD k2 0:=⟨_,rfl⟩
  obtain⟨xn,hxn⟩:∃x,x=imm%4294967296:=⟨_,rfl⟩
  obtain⟨pc,hpc⟩:∃x,x=d.h.pc:=⟨_,rfl⟩
  have era:d.h.reg (k1:Int)=xa:=yW
  have erb:d.h.reg (k2:Int)=xb:=yV
  have ua:U32 xa:=zT
  have ub:U32 xb:=zS
  have un:U32 xn:=yA
  have up:U32 pc:=yC
  have e:doS ⟨57,kd,k1,k2,imm⟩ d=d.setPc ((pc+4)%4294967296):=by
    unfold doS
    dsimp only
    rw[era,erb,←hxn,←hpc]
    rw[if_neg om,if_neg om,if_neg om,if_neg om,if_neg om,if_neg om,if_neg om,if_neg om,if_neg om,if_neg om,if_neg om,if_neg om]
  rw[e]
  clear e
  have hne:=h.hbl
  have HA:=lI ua
  have HB:=lI ub
  have HN:=lI un
  have HU:=lI up
  obtain⟨w1,hw1⟩:∃w1,w1=w.alloc (.cells #[.int .i64 57,.int .i64 kd,.int .i64 k1,.int .i64 k2,.int .i32 imm] 91):=⟨_,rfl⟩
  have H1:Hid (qK cp hb ho vm 40 w1 d):=lI zK
  have G1:Hid (Cgo cp hb ho vm 40 w w1):=lI zH
  have hbx:cp<w.heap.size:=h.lt
  have HX:Hid (w1.heap[w.heap.size]? =some (.cells #[.int .i64 57,.int .i64 kd,.int .i64 k1,.int .i64 k2,.int .i32 imm] 91 (0,0))):=lI zR
  have q0:(w1).cell? ⟨w.heap.size,0,none⟩=some (.int .i64 57):=zA
  have q1:(w1).cell? ⟨w.heap.size,1,none⟩=some (.int .i64 kd):=zA
  have q2:(w1).cell? ⟨w.heap.size,2,none⟩=some (.int .i64 k1):=zA
  have q3:(w1).cell? ⟨w.heap.size,3,none⟩=some (.int .i64 k2):=zA
  have q4:(w1).cell? ⟨w.heap.size,4,none⟩=some (.int .i32 imm):=zA
  have HW1:=lI hw1
  clear hw1 h
  have hp:=H1.out.ptr
  have hca:=H1.out.hart.get (qV wf.h k1 h1)
  have hcb:=H1.out.hart.get (qV wf.h k2 h2)
  have hc32:=H1.out.hart.get (qd wf.h)
  rw[←hxa]at hca
  rw[←hxb]at hcb
  rw[←hpc]at hc32
  have HPC:=lI hpc
  have HIM:=lI hxn
  clear hxa hxb era erb hpc ua ub un up hxn
  obtain⟨b1,b2⟩:=HU.out
  have j1:(k1:Int)<32:=om
  have j2:(k2:Int)<32:=om
  go_enter Tryz.func86,Tryz.ntmps86
  go_upto_region 1 with(fail)
  rw[←HW1.out]
  go_quiet (fail)
  rw[←HIM.out]
  clear hca hcb
  go_upto_region 37 with(fail)
  have h32:=hc32
  have f32:=H1.out.hfz (ho+32)
  clear q0 q1 q2 q3 q4 hc32
  go_wp2_with fail
  go_end0
  exact⟨rfl,(H1.out.drewN _).setHart 32 _ _ (QJ wf.h.len _) xI,(G1.out.drewN _).trans (Cgo.setHart _ 32 om _)⟩
theorem do_break(h:qK cp hb ho vm 40 w d)(wf:d.Wf)(hlen:d.out.length<1099511627776)(kd k1 k2:Nat)(imm:Int)(hd:kd<32)(h1:k1<32)(h2:k2<32)(hi: -2147483648≤imm∧imm≤2147483647):
    Calls Tryz.prog 86 #[.pointer (some ⟨cp,0,none⟩),.agg #[.int .i64 59,.int .i64 kd,.int .i64 k1,.int .i64 k2,.int .i32 imm]] w fun e w'=>e=.returned (.tuple #[])∧qK cp hb ho vm 40 w' (doS ⟨59,kd,k1,k2,imm⟩ d)∧Cgo cp hb ho vm 40 w w':=by
  obtain⟨i0,i1⟩:=hi
  obtain⟨xa,hxa⟩:∃x,x=d.h.regs.getD k1 0:=⟨_,rfl⟩
  obtain⟨xb,hxb⟩:∃x,x=d.h.regs.getD k2 0:=⟨_,rfl⟩
  obtain⟨xn,hxn⟩:∃x,x=imm%4294967296:=⟨_,rfl⟩
  obtain⟨pc,hpc⟩:∃x,x=d.h.pc:=⟨_,rfl⟩
  have era:d.h.reg (k1:Int)=xa:=yW
  have erb:d.h.reg (k2:Int)=xb:=yV
  have ua:U32 xa:=zT
  have ub:U32 xb:=zS
  have un:U32 xn:=yA
  have up:U32 pc:=yC
  have e:doS ⟨59,kd,k1,k2,imm⟩ d=d.trap 6:=by
    unfold doS
    dsimp only
    rw[era,erb,←hxn,←hpc]
    rw[if_neg om,if_neg om,if_neg om,if_neg om,if_neg om,if_neg om,if_neg om,if_neg om,if_neg om,if_neg om,if_neg om,if_pos om]
  rw[e]
  clear e
  have hne:=h.hbl
  have HA:=lI ua
  have HB:=lI ub
  have HN:=lI un
  have HU:=lI up
  obtain⟨w1,hw1⟩:∃w1,w1=w.alloc (.cells #[.int .i64 59,.int .i64 kd,.int .i64 k1,.int .i64 k2,.int .i32 imm] 91):=⟨_,rfl⟩
  have H1:Hid (qK cp hb ho vm 40 w1 d):=lI zK
  have G1:Hid (Cgo cp hb ho vm 40 w w1):=lI zH
  have hbx:cp<w.heap.size:=h.lt
  have HX:Hid (w1.heap[w.heap.size]? =some (.cells #[.int .i64 59,.int .i64 kd,.int .i64 k1,.int .i64 k2,.int .i32 imm] 91 (0,0))):=lI zR
  have q0:(w1).cell? ⟨w.heap.size,0,none⟩=some (.int .i64 59):=zA
  have q1:(w1).cell? ⟨w.heap.size,1,none⟩=some (.int .i64 kd):=zA
  have q2:(w1).cell? ⟨w.heap.size,2,none⟩=some (.int .i64 k1):=zA
  have q3:(w1).cell? ⟨w.heap.size,3,none⟩=some (.int .i64 k2):=zA
  have q4:(w1).cell? ⟨w.heap.size,4,none⟩=some (.int .i32 imm):=zA
  have HW1:=lI hw1
  clear hw1 h
  have hp:=H1.out.ptr
  have hca:=H1.out.hart.get (qV wf.h k1 h1)
  have hcb:=H1.out.hart.get (qV wf.h k2 h2)
  have hc32:=H1.out.hart.get (qd wf.h)
  rw[←hxa]at hca
  rw[←hxb]at hcb
  rw[←hpc]at hc32
  have HPC:=lI hpc
  have HIM:=lI hxn
  clear hxa hxb era erb hpc ua ub un up hxn
  obtain⟨b1,b2⟩:=HU.out
  have j1:(k1:Int)<32:=om
  have j2:(k2:Int)<32:=om
  go_enter Tryz.func86,Tryz.ntmps86
  go_upto_region 1 with(fail)
  rw[←HW1.out]
  go_quiet (fail)
  rw[←HIM.out]
  clear hca hcb
  clear q1 q2 q3 q4
  exact cn
end
end Go.Proofs.YtlfnddmncbkjaabGreatDoor.W
