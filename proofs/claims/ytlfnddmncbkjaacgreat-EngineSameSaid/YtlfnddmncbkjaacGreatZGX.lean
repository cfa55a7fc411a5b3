import Derived.Test.YtlfnddmncbkjaacGreatZGW
import Derived.Test.YtlfnddmncbkjaacGreatZWRun8e
set_option linter.unusedVariables false
set_option linter.unusedSimpArgs false
set_option maxRecDepth 100000
set_option maxHeartbeats 4000000
namespace Go.Proofs.YtlfnddmncbkjaacGreat.W
open Go.RowKit Fb
theorem atom4_sc_no(d:DidD)(c:qD)(w:World)(hc:qd w d c)(wf:c.Wf)(hl:c.m.length≤4096)(kd k1 k2:Nat)(imm:Int)(hk:kd<32)(a b:Int)(ha:U32 a)(hb':U32 b)(hq:qN c.m 13 a=true)(hmine:c.h.held=false∨(c.h.held=true∧¬c.h.heldAt=a)):
    Calls Tryz.prog 37 #[.agg (qA d),.agg #[.int .i64 47,.int .i64 kd,.int .i64 k1,.int .i64 k2,.int .i32 imm],.int .u32 a,.int .u32 b] w fun e w'=>∃d',e=.returned (.tuple #[.agg (qA d'),.bool true])∧qd w' d' ((c.hold false 0).set kd 1)∧(d'.vm=d.vm∨∀q,d'.vm.ownBlock=some q→w.heap.size≤q)∧d'.vo=d.vo∧Below w.heap.size w w':=by
  have d_ok:=hc.ok wf
  have HC:=lI hc
  have HL:=lI (fun W hW=>Qy d.vm c.m 13 a W hW ha wf.m.getD)
  have HA:=lI ha
  have HB:=lI hb'
  obtain⟨old,hold⟩:∃x,x=qa c.m 13 a:=⟨_,rfl⟩
  rw[hq,←hold]at HL
  have HLU:=lI (Ju c.m 13 a om ha wf.m.getD)
  rw[←hold]at HLU
  (try rw[←hold])
  have hh1:d.h.held=c.h.held:=by rw[hc.h]
  have hh2:d.h.heldAt=c.h.heldAt:=by rw[hc.h]
  rw[←hh1,←hh2]at hmine
  clear hh1 hh2 hc
  rcases hmine with hm|⟨hm,hm2⟩
  all_goals
    (try have hbeq:(d.h.heldAt==a)=false:=sH.2 hm2)
    go_enter Tryz.func37,Tryz.ntmps37
    go_upto_region 1 with(fail)
    show Code.wp _ _ _ _ (((w.alloc (.cells (qA d) 67)).alloc (.cells #[.int .i64 47,.int .i64 kd,.int .i64 k1,.int .i64 k2,.int .i32 imm] 82)).alloc (.cells (qA did0) 67))
    have hD:=DBox.begin2 (w:=w) (tD:=67) (d:=d) (z:=qA did0) (o:=.cells #[.int .i64 47,.int .i64 kd,.int .i64 k1,.int .i64 k2,.int .i32 imm] 82) (qT JZ)
    have hb0:Below w.heap.size w (((w.alloc (.cells (qA d) 67)).alloc (.cells #[.int .i64 47,.int .i64 kd,.int .i64 k1,.int .i64 k2,.int .i32 imm] 82)).alloc (.cells (qA did0) 67)):=Fb.blw
    have hs0:(((w.alloc (.cells (qA d) 67)).alloc (.cells #[.int .i64 47,.int .i64 kd,.int .i64 k1,.int .i64 k2,.int .i32 imm] 82)).alloc (.cells (qA did0) 67)).heap.size=w.heap.size+3:=zG
    have q0:(((w.alloc (.cells (qA d) 67)).alloc (.cells #[.int .i64 47,.int .i64 kd,.int .i64 k1,.int .i64 k2,.int .i32 imm] 82)).alloc (.cells (qA did0) 67)).cell? ⟨w.heap.size+1,0,none⟩=some (.int .i64 47):=yN
    have q1:(((w.alloc (.cells (qA d) 67)).alloc (.cells #[.int .i64 47,.int .i64 kd,.int .i64 k1,.int .i64 k2,.int .i32 imm] 82)).alloc (.cells (qA did0) 67)).cell? ⟨w.heap.size+1,1,none⟩=some (.int .i64 kd):=yN
    have q2:(((w.alloc (.cells (qA d) 67)).alloc (.cells #[.int .i64 47,.int .i64 kd,.int .i64 k1,.int .i64 k2,.int .i32 imm] 82)).alloc (.cells (qA did0) 67)).cell? ⟨w.heap.size+1,2,none⟩=some (.int .i64 k1):=yN
    have q3:(((w.alloc (.cells (qA d) 67)).alloc (.cells #[.int .i64 47,.int .i64 kd,.int .i64 k1,.int .i64 k2,.int .i32 imm] 82)).alloc (.cells (qA did0) 67)).cell? ⟨w.heap.size+1,3,none⟩=some (.int .i64 k2):=yN
    have q4:(((w.alloc (.cells (qA d) 67)).alloc (.cells #[.int .i64 47,.int .i64 kd,.int .i64 k1,.int .i64 k2,.int .i32 imm] 82)).alloc (.cells (qA did0) 67)).cell? ⟨w.heap.size+1,4,none⟩=some (.int .i32 imm):=yN
    generalize ((w.alloc (.cells (qA d) 67)).alloc (.cells #[.int .i64 47,.int .i64 kd,.int .i64 k1,.int .i64 k2,.int .i32 imm] 82)).alloc (.cells (qA did0) 67)=w1 at *
    have c37:w1.cell? ⟨w.heap.size,37,none⟩=some d.vm:=hD.get (jQ d_ok.len 0)
    have c33:=hD.get (Qb (hlist_held' d_ok.len))
    have c34:=hD.get (Qb (uW d_ok.len))
    have f33:=hD.frz 33
    have f34:=hD.frz 34
    obtain⟨d1,hd1⟩:∃d1,d1=({d with h:={d.h with held:=false,heldAt:=0}}:DidD):=⟨_,rfl⟩
    have d1_ok:d1.Ok:=by rw[hd1];exact⟨d_ok.len,d_ok.m1,d_ok.o1⟩
    have HD1:Hid (DBox w.heap.size (w.heap.size+2) 67 ((w1.setCell ⟨w.heap.size,33,none⟩ (.bool false)).setCell ⟨w.heap.size,34,none⟩ (.int .u32 0)) d1):=lI (by
      rw[hd1]
      exact(hD.set (d':={d with h:={d.h with held:=false}}) 33 (.bool false) (by rw[Qi d_ok];omega) (qq (Ql d_ok.len false) (by rw[QR d_ok.len];omega))).set 34 (.int .u32 0) (by simp[jE,dtail,qJ,d_ok.len]) (qq (d:={d with h:={d.h with held:=false}}) (QU (h:={d.h with held:=false}) d_ok.len 0) (by simp[qJ,d_ok.len])))
    have hbz:=(hb0.setCell (p:=⟨w.heap.size,33,none⟩) (sO _) (.bool false)).setCell (p:=⟨w.heap.size,34,none⟩) (sO _) (.int .u32 0)
    have HDC1:Hid (d1={d with h:={d.h with held:=false,heldAt:=0}}):=lI hd1
    have r1:((w1.setCell ⟨w.heap.size,33,none⟩ (.bool false)).setCell ⟨w.heap.size,34,none⟩ (.int .u32 0)).cell? ⟨w.heap.size+1,1,none⟩=some (.int .i64 kd):=((sJ _ _ _ _ yL).trans (sJ _ _ _ _ yL)).trans q1
    have HSZ:w.heap.size+3≤(((w1.setCell ⟨w.heap.size,33,none⟩ (.bool false)).setCell ⟨w.heap.size,34,none⟩ (.int .u32 0))).heap.size:=zB
    rw[hm]at c33
    clear hD hd1 hold
    go_upto_region 11 with(go_at_call 27;refine(HL.out _ (HC.out.m.below hb0)).mono ?_;rintro e w2 ⟨rfl,rfl⟩)
    go_upto_region 15 with(fail)
    clear c37 c33 c34 f33 f34
    generalize ((w1.setCell ⟨w.heap.size,33,none⟩ (.bool false)).setCell ⟨w.heap.size,34,none⟩ (.int .u32 0))=wz at *
    go_wp2_with (first|(refine qI rfl 67 _ rfl (w.heap.size) 0 rfl (qA d1) _ HD1.out.at_ Tryz.underlying67 rfl (qG d1_ok) ?_))
    refine(jq d1 d1_ok kd hk 1 _).mono ?_
    rintro e w2 ⟨rfl,hb2⟩
    have HD2:=lI (HD1.out.below om om hb2)
    have d2_ok:(d1.set kd 1).Ok:=d1_ok.setReg _ _
    have hbe:=hbz.trans (hb2.mono om)
    clear hb2 q0 q2 q3 q4 r1
    have ht:(w2).there (w.heap.size+2) 0 (qA (d1.set kd 1)).size:=wI
    have hld:=qQ (P:=Tryz.prog) ht Tryz.underlying67 rfl (qG d2_ok)
    go_wp2_with (first|(refine sT rfl 67 _ _ rfl (w.heap.size+2) 0 (qA (d1.set kd 1)) rfl rfl ht (qG d2_ok) (qX d2_ok) ?_))
    refine sP (QK zP _ zP hld) rfl ⟨_,rfl, ?_,.inl ?_, ?_,qB om _ _ _ hbe⟩
    · rw[HDC1.out]
      exact((HC.out.below (qB om _ _ _ hbe)).hold false 0).set kd 1
    · rw[HDC1.out];rfl
    · rw[HDC1.out];rfl
theorem atom4_sc(d:DidD)(c:qD)(w:World)(hc:qd w d c)(wf:c.Wf)(hl:c.m.length≤4096)(kd k1 k2:Nat)(imm:Int)(hk:kd<32)(a b:Int)(ha:U32 a)(hb':U32 b)(hq:qN c.m 13 a=true)(hmine:c.h.held=true)(hmine2:c.h.heldAt=a):
    Calls Tryz.prog 37 #[.agg (qA d),.agg #[.int .i64 47,.int .i64 kd,.int .i64 k1,.int .i64 k2,.int .i32 imm],.int .u32 a,.int .u32 b] w fun e w'=>∃d',e=.returned (.tuple #[.agg (qA d'),.bool true])∧qd w' d' (((c.put 18 a b).hold false 0).set kd 0)∧(d'.vm=d.vm∨∀q,d'.vm.ownBlock=some q→w.heap.size≤q)∧d'.vo=d.vo∧Below w.heap.size w w':=by
  have d_ok:=hc.ok wf
  have HC:=lI hc
  have HL:=lI (fun W hW=>Qy d.vm c.m 13 a W hW ha wf.m.getD)
  have HA:=lI ha
  have HB:=lI hb'
  obtain⟨old,hold⟩:∃x,x=qa c.m 13 a:=⟨_,rfl⟩
  rw[hq,←hold]at HL
  have HLU:=lI (Ju c.m 13 a om ha wf.m.getD)
  rw[←hold]at HLU
  (try rw[←hold])
  have hh1:d.h.held=true:=by rw[hc.h];exact hmine
  have hh2:d.h.heldAt=a:=by rw[hc.h];exact hmine2
  clear hc
  go_enter Tryz.func37,Tryz.ntmps37
  go_upto_region 1 with(fail)
  show Code.wp _ _ _ _ (((w.alloc (.cells (qA d) 67)).alloc (.cells #[.int .i64 47,.int .i64 kd,.int .i64 k1,.int .i64 k2,.int .i32 imm] 82)).alloc (.cells (qA did0) 67))
  have hD:=DBox.begin2 (w:=w) (tD:=67) (d:=d) (z:=qA did0) (o:=.cells #[.int .i64 47,.int .i64 kd,.int .i64 k1,.int .i64 k2,.int .i32 imm] 82) (qT JZ)
  have hb0:Below w.heap.size w (((w.alloc (.cells (qA d) 67)).alloc (.cells #[.int .i64 47,.int .i64 kd,.int .i64 k1,.int .i64 k2,.int .i32 imm] 82)).alloc (.cells (qA did0) 67)):=Fb.blw
  have hs0:(((w.alloc (.cells (qA d) 67)).alloc (.cells #[.int .i64 47,.int .i64 kd,.int .i64 k1,.int .i64 k2,.int .i32 imm] 82)).alloc (.cells (qA did0) 67)).heap.size=w.heap.size+3:=zG
  have q0:(((w.alloc (.cells (qA d) 67)).alloc (.cells #[.int .i64 47,.int .i64 kd,.int .i64 k1,.int .i64 k2,.int .i32 imm] 82)).alloc (.cells (qA did0) 67)).cell? ⟨w.heap.size+1,0,none⟩=some (.int .i64 47):=yN
  have q1:(((w.alloc (.cells (qA d) 67)).alloc (.cells #[.int .i64 47,.int .i64 kd,.int .i64 k1,.int .i64 k2,.int .i32 imm] 82)).alloc (.cells (qA did0) 67)).cell? ⟨w.heap.size+1,1,none⟩=some (.int .i64 kd):=yN
  have q2:(((w.alloc (.cells (qA d) 67)).alloc (.cells #[.int .i64 47,.int .i64 kd,.int .i64 k1,.int .i64 k2,.int .i32 imm] 82)).alloc (.cells (qA did0) 67)).cell? ⟨w.heap.size+1,2,none⟩=some (.int .i64 k1):=yN
  have q3:(((w.alloc (.cells (qA d) 67)).alloc (.cells #[.int .i64 47,.int .i64 kd,.int .i64 k1,.int .i64 k2,.int .i32 imm] 82)).alloc (.cells (qA did0) 67)).cell? ⟨w.heap.size+1,3,none⟩=some (.int .i64 k2):=yN
  have q4:(((w.alloc (.cells (qA d) 67)).alloc (.cells #[.int .i64 47,.int .i64 kd,.int .i64 k1,.int .i64 k2,.int .i32 imm] 82)).alloc (.cells (qA did0) 67)).cell? ⟨w.heap.size+1,4,none⟩=some (.int .i32 imm):=yN
  generalize ((w.alloc (.cells (qA d) 67)).alloc (.cells #[.int .i64 47,.int .i64 kd,.int .i64 k1,.int .i64 k2,.int .i32 imm] 82)).alloc (.cells (qA did0) 67)=w1 at *
  have c37:w1.cell? ⟨w.heap.size,37,none⟩=some d.vm:=hD.get (jQ d_ok.len 0)
  have c33:=hD.get (Qb (hlist_held' d_ok.len))
  have c34:=hD.get (Qb (uW d_ok.len))
  have f33:=hD.frz 33
  have f34:=hD.frz 34
  obtain⟨d1,hd1⟩:∃d1,d1=({d with h:={d.h with held:=false,heldAt:=0}}:DidD):=⟨_,rfl⟩
  have d1_ok:d1.Ok:=by rw[hd1];exact⟨d_ok.len,d_ok.m1,d_ok.o1⟩
  have HD1:Hid (DBox w.heap.size (w.heap.size+2) 67 ((w1.setCell ⟨w.heap.size,33,none⟩ (.bool false)).setCell ⟨w.heap.size,34,none⟩ (.int .u32 0)) d1):=lI (by
    rw[hd1]
    exact(hD.set (d':={d with h:={d.h with held:=false}}) 33 (.bool false) (by rw[Qi d_ok];omega) (qq (Ql d_ok.len false) (by rw[QR d_ok.len];omega))).set 34 (.int .u32 0) (by simp[jE,dtail,qJ,d_ok.len]) (qq (d:={d with h:={d.h with held:=false}}) (QU (h:={d.h with held:=false}) d_ok.len 0) (by simp[qJ,d_ok.len])))
  have hbz:=(hb0.setCell (p:=⟨w.heap.size,33,none⟩) (sO _) (.bool false)).setCell (p:=⟨w.heap.size,34,none⟩) (sO _) (.int .u32 0)
  have HDC1:Hid (d1={d with h:={d.h with held:=false,heldAt:=0}}):=lI hd1
  have r1:((w1.setCell ⟨w.heap.size,33,none⟩ (.bool false)).setCell ⟨w.heap.size,34,none⟩ (.int .u32 0)).cell? ⟨w.heap.size+1,1,none⟩=some (.int .i64 kd):=((sJ _ _ _ _ yL).trans (sJ _ _ _ _ yL)).trans q1
  have HSZ:w.heap.size+3≤(((w1.setCell ⟨w.heap.size,33,none⟩ (.bool false)).setCell ⟨w.heap.size,34,none⟩ (.int .u32 0))).heap.size:=zB
  rw[hh1]at c33
  rw[hh2]at c34
  clear hD hd1 hold
  go_upto_region 11 with(go_at_call 27;refine(HL.out _ (HC.out.m.below hb0)).mono ?_;rintro e w2 ⟨rfl,rfl⟩)
  go_upto_region 16 with(fail)
  clear c37 c33 c34 f33 f34
  generalize ((w1.setCell ⟨w.heap.size,33,none⟩ (.bool false)).setCell ⟨w.heap.size,34,none⟩ (.int .u32 0))=wz at *
  have hm1:Ints .u8 wz d1.vm c.m:=by rw[HDC1.out];exact HC.out.m.below hbz
  go_wp2_with (first|(refine qI rfl 67 _ rfl (w.heap.size) 0 rfl (qA d1) _ HD1.out.at_ Tryz.underlying67 rfl (qG d1_ok) ?_))
  refine(store4_yes d1 d1_ok c.m 18 a b _ hm1 HA.out HB.out wf.mlen (by rw[uD];exact hq)).mono ?_
  rintro e w2 ⟨v',rfl,hv',hfr',hb2⟩
  have hsz2:=hb2.size
  obtain⟨d2,hd2⟩:∃d2,d2=({d1 with vm:=v',fr:=a,many:=qM 18}:DidD):=⟨_,rfl⟩
  have d2_ok:d2.Ok:=by rw[hd2];exact⟨d1_ok.len,hv'.one,d1_ok.o1⟩
  rw[←hd2]
  have HB2:=HD1.out.below om om hb2
  have htB:=HB2.thereB d1_ok d2_ok
  have HD2:=lI (HB2.put d1_ok d2_ok)
  have hbe:=qB (b:=w.heap.size) (sO _) (qA d2).toList 0 _ (hbz.trans (hb2.mono om))
  have r2:(w2.setCells w.heap.size 0 (qA d2).toList).cell? ⟨w.heap.size+1,1,none⟩=some (.int .i64 kd):=(World.cell?_setCells_out _ _ _ _ _ (fun hb _=>absurd hb zG)).trans ((hb2.cell (p:=⟨w.heap.size+1,1,none⟩) yJ).trans r1)
  have hv2:Ints .u8 (w2.setCells w.heap.size 0 (qA d2).toList) v' (qn c.m 18 a b):=qt (JI hfr' om) _ _ _ hv'
  have hs2w:w.heap.size+3≤(w2.setCells w.heap.size 0 (qA d2).toList).heap.size:=by rw[Qa];omega
  have HFR:Hid (∀q,v'.ownBlock=some q→w.heap.size+3≤q):=lI (fun q e=>by have:=hfr' q e;omega)
  have HD2E:=lI hd2
  clear hb2 q0 q2 q3 q4 r1 hd2 HB2 hm1 hv' hfr' hh1 hh2 hmine hmine2
  go_upto_region 17 with(first|(refine sT rfl 67 _ _ rfl w.heap.size 0 (qA d2) rfl rfl htB (qG d2_ok) (qX d2_ok) ?_))
  generalize w2.setCells w.heap.size 0 (qA d2).toList=wy at *
  go_wp2_with (first|(refine qI rfl 67 _ rfl (w.heap.size) 0 rfl (qA d2) _ HD2.out.at_ Tryz.underlying67 rfl (qG d2_ok) ?_))
  refine(jq d2 d2_ok kd hk 0 _).mono ?_
  rintro e w3 ⟨rfl,hb3⟩
  have HD3:=lI (HD2.out.below om om hb3)
  have d3_ok:(d2.set kd 0).Ok:=d2_ok.setReg _ _
  have hbf:=hbe.trans (hb3.mono om)
  have hv3:=hv2.below hb3
  clear hb3 r2
  have ht:(w3).there (w.heap.size+2) 0 (qA (d2.set kd 0)).size:=by rw[qT d3_ok];exact HD3.out.there
  have hld:=qQ (P:=Tryz.prog) ht Tryz.underlying67 rfl (qG d3_ok)
  go_wp2_with (first|(refine sT rfl 67 _ _ rfl (w.heap.size+2) 0 (qA (d2.set kd 0)) rfl rfl ht (qG d3_ok) (qX d3_ok) ?_))
  refine sP (QK zP _ zP hld) rfl ⟨_,rfl, ?_,.inr ?_, ?_,qB om _ _ _ hbf⟩
  · rw[HD2E.out,HDC1.out,←put_hold]
    have hF:=qB (b:=w.heap.size+2) om (qA (d2.set kd 0)).toList 0 _ hbf
    rw[HD2E.out,HDC1.out]at hF
    have hv4:=qt (JI HFR.out (by omega:w.heap.size+2<w.heap.size+3)) (qA (d2.set kd 0)).toList 0 _ hv3
    rw[HD2E.out,HDC1.out]at hv4
    exact(((HC.out.below hF).hold false 0).put (op:=18) (by show qU c.m 18 a=true;rw[uD];exact hq) HA.out hl hv4).set kd 0
  · rw[HD2E.out];exact fun q e=>Nat.le_of_lt (Nat.lt_of_lt_of_le om (HFR.out q e))
  · rw[HD2E.out,HDC1.out];rfl
theorem atom4_op(d:DidD)(c:qD)(w:World)(hc:qd w d c)(wf:c.Wf)(hl:c.m.length≤4096)(op:Int)(kd k1 k2:Nat)(imm:Int)(hop:48≤op∧op≤56)(hk:kd<32)(a b:Int)(ha:U32 a)(hb':U32 b)(hq:qN c.m 13 a=true):
    Calls Tryz.prog 37 #[.agg (qA d),.agg #[.int .i64 op,.int .i64 kd,.int .i64 k1,.int .i64 k2,.int .i32 imm],.int .u32 a,.int .u32 b] w fun e w'=>∃d',e=.returned (.tuple #[.agg (qA d'),.bool true])∧qd w' d' ((c.put 18 a (amo op (qa c.m 13 a) b)).set kd (qa c.m 13 a))∧(d'.vm=d.vm∨∀q,d'.vm.ownBlock=some q→w.heap.size≤q)∧d'.vo=d.vo∧Below w.heap.size w w':=by
  have d_ok:=hc.ok wf
  have HC:=lI hc
  have HL:=lI (fun W hW=>Qy d.vm c.m 13 a W hW ha wf.m.getD)
  have HA:=lI ha
  have HB:=lI hb'
  obtain⟨o0,o1⟩:=hop
  have f46:(op==46)=false:=sH.2 om
  have f47:(op==47)=false:=sH.2 om
  obtain⟨old,hold⟩:∃x,x=qa c.m 13 a:=⟨_,rfl⟩
  rw[hq,←hold]at HL
  have HLU:=lI (Ju c.m 13 a om ha wf.m.getD)
  rw[←hold]at HLU
  (try rw[←hold])
  have HAM:=lI (fun W=>amo1_any op old b W HLU.out.1 HLU.out.2 HB.out.1 HB.out.2)
  have HX:=lI (amo_lo op old b HLU.out HB.out)
  generalize amo op old b=x at *
  clear hc
  go_enter Tryz.func37,Tryz.ntmps37
  go_upto_region 1 with(fail)
  show Code.wp _ _ _ _ (((w.alloc (.cells (qA d) 67)).alloc (.cells #[.int .i64 op,.int .i64 kd,.int .i64 k1,.int .i64 k2,.int .i32 imm] 82)).alloc (.cells (qA did0) 67))
  have hD:=DBox.begin2 (w:=w) (tD:=67) (d:=d) (z:=qA did0) (o:=.cells #[.int .i64 op,.int .i64 kd,.int .i64 k1,.int .i64 k2,.int .i32 imm] 82) (qT JZ)
  have hb0:Below w.heap.size w (((w.alloc (.cells (qA d) 67)).alloc (.cells #[.int .i64 op,.int .i64 kd,.int .i64 k1,.int .i64 k2,.int .i32 imm] 82)).alloc (.cells (qA did0) 67)):=Fb.blw
  have hs0:(((w.alloc (.cells (qA d) 67)).alloc (.cells #[.int .i64 op,.int .i64 kd,.int .i64 k1,.int .i64 k2,.int .i32 imm] 82)).alloc (.cells (qA did0) 67)).heap.size=w.heap.size+3:=zG
  have q0:(((w.alloc (.cells (qA d) 67)).alloc (.cells #[.int .i64 op,.int .i64 kd,.int .i64 k1,.int .i64 k2,.int .i32 imm] 82)).alloc (.cells (qA did0) 67)).cell? ⟨w.heap.size+1,0,none⟩=some (.int .i64 op):=yN
  have q1:(((w.alloc (.cells (qA d) 67)).alloc (.cells #[.int .i64 op,.int .i64 kd,.int .i64 k1,.int .i64 k2,.int .i32 imm] 82)).alloc (.cells (qA did0) 67)).cell? ⟨w.heap.size+1,1,none⟩=some (.int .i64 kd):=yN
  have q2:(((w.alloc (.cells (qA d) 67)).alloc (.cells #[.int .i64 op,.int .i64 kd,.int .i64 k1,.int .i64 k2,.int .i32 imm] 82)).alloc (.cells (qA did0) 67)).cell? ⟨w.heap.size+1,2,none⟩=some (.int .i64 k1):=yN
  have q3:(((w.alloc (.cells (qA d) 67)).alloc (.cells #[.int .i64 op,.int .i64 kd,.int .i64 k1,.int .i64 k2,.int .i32 imm] 82)).alloc (.cells (qA did0) 67)).cell? ⟨w.heap.size+1,3,none⟩=some (.int .i64 k2):=yN
  have q4:(((w.alloc (.cells (qA d) 67)).alloc (.cells #[.int .i64 op,.int .i64 kd,.int .i64 k1,.int .i64 k2,.int .i32 imm] 82)).alloc (.cells (qA did0) 67)).cell? ⟨w.heap.size+1,4,none⟩=some (.int .i32 imm):=yN
  generalize ((w.alloc (.cells (qA d) 67)).alloc (.cells #[.int .i64 op,.int .i64 kd,.int .i64 k1,.int .i64 k2,.int .i32 imm] 82)).alloc (.cells (qA did0) 67)=w1 at *
  have c37:w1.cell? ⟨w.heap.size,37,none⟩=some d.vm:=hD.get (jQ d_ok.len 0)
  have HD:=lI hD
  clear hD hold
  go_upto_region 18 with(go_at_call 27;refine(HL.out _ (HC.out.m.below hb0)).mono ?_;rintro e w2 ⟨rfl,rfl⟩)
  go_upto_region 19 with(go_at_call 61;refine(HAM.out _).mono ?_;rintro e w3 ⟨rfl,nn,rfl⟩)
  have HDn:=lI (HD.out.drewN nn)
  have r1:(w1.drewN nn).cell? ⟨w.heap.size+1,1,none⟩=some (.int .i64 kd):=q1
  have hbz:Below w.heap.size w (w1.drewN nn):=qC hb0 _
  have hszn:(w1.drewN nn).heap.size=w.heap.size+3:=hs0
  generalize w1.drewN nn=wz at *
  have hm1:Ints .u8 wz d.vm c.m:=HC.out.m.below hbz
  go_wp2_with (first|(refine qI rfl 67 _ rfl (w.heap.size) 0 rfl (qA d) _ HDn.out.at_ Tryz.underlying67 rfl (qG d_ok) ?_))
  refine(store4_yes d d_ok c.m 18 a x _ hm1 HA.out HX.out wf.mlen (by rw[uD];exact hq)).mono ?_
  rintro e w2 ⟨v',rfl,hv',hfr',hb2⟩
  have hsz2:=hb2.size
  obtain⟨d2,hd2⟩:∃d2,d2=({d with vm:=v',fr:=a,many:=qM 18}:DidD):=⟨_,rfl⟩
  have d2_ok:d2.Ok:=by rw[hd2];exact⟨d_ok.len,hv'.one,d_ok.o1⟩
  rw[←hd2]
  have HB2:=HDn.out.below om om hb2
  have htB:=HB2.thereB d_ok d2_ok
  have HD2:=lI (HB2.put d_ok d2_ok)
  have hbe:=qB (b:=w.heap.size) (sO _) (qA d2).toList 0 _ (hbz.trans (hb2.mono om))
  have r2:(w2.setCells w.heap.size 0 (qA d2).toList).cell? ⟨w.heap.size+1,1,none⟩=some (.int .i64 kd):=(World.cell?_setCells_out _ _ _ _ _ (fun hb _=>absurd hb zG)).trans ((hb2.cell (p:=⟨w.heap.size+1,1,none⟩) yJ).trans r1)
  have hv2:Ints .u8 (w2.setCells w.heap.size 0 (qA d2).toList) v' (qn c.m 18 a x):=qt (JI hfr' om) _ _ _ hv'
  have hs2w:w.heap.size+3≤(w2.setCells w.heap.size 0 (qA d2).toList).heap.size:=by rw[Qa];omega
  have HFR:Hid (∀q,v'.ownBlock=some q→w.heap.size+3≤q):=lI (fun q e=>by have:=hfr' q e;omega)
  have HD2E:=lI hd2
  clear hb2 q0 q1 q2 q3 q4 r1 hd2 HB2 hm1 hv' hfr'
  go_upto_region 20 with(first|(refine sT rfl 67 _ _ rfl w.heap.size 0 (qA d2) rfl rfl htB (qG d2_ok) (qX d2_ok) ?_))
  generalize w2.setCells w.heap.size 0 (qA d2).toList=wy at *
  go_wp2_with (first|(refine qI rfl 67 _ rfl (w.heap.size) 0 rfl (qA d2) _ HD2.out.at_ Tryz.underlying67 rfl (qG d2_ok) ?_))
  refine(jq d2 d2_ok kd hk old _).mono ?_
  rintro e w3 ⟨rfl,hb3⟩
  have HD3:=lI (HD2.out.below om om hb3)
  have d3_ok:(d2.set kd old).Ok:=d2_ok.setReg _ _
  have hbf:=hbe.trans (hb3.mono om)
  have hv3:=hv2.below hb3
  clear hb3 r2
  have ht:(w3).there (w.heap.size+2) 0 (qA (d2.set kd old)).size:=by rw[qT d3_ok];exact HD3.out.there
  have hld:=qQ (P:=Tryz.prog) ht Tryz.underlying67 rfl (qG d3_ok)
  go_wp2_with (first|(refine sT rfl 67 _ _ rfl (w.heap.size+2) 0 (qA (d2.set kd old)) rfl rfl ht (qG d3_ok) (qX d3_ok) ?_))
  refine sP (QK zP _ zP hld) rfl ⟨_,rfl, ?_,.inr ?_, ?_,qB om _ _ _ hbf⟩
  · rw[HD2E.out]
    have hF:=qB (b:=w.heap.size+2) om (qA (d2.set kd old)).toList 0 _ hbf
    rw[HD2E.out]at hF
    have hv4:=qt (JI HFR.out (by omega:w.heap.size+2<w.heap.size+3)) (qA (d2.set kd old)).toList 0 _ hv3
    rw[HD2E.out]at hv4
    exact((HC.out.below hF).put (op:=18) (by rw[uD];exact hq) HA.out hl hv4).set kd old
  · rw[HD2E.out];exact fun q e=>Nat.le_of_lt (Nat.lt_of_lt_of_le om (HFR.out q e))
  · rw[HD2E.out];rfl
end Go.Proofs.YtlfnddmncbkjaacGreat.W
namespace Go.Proofs.YtlfnddmncbkjaacGreat.Fb
open Go.RowKit
theorem list32{l:List Int}(h:l.length=32):∃a0 a1 a2 a3 a4 a5 a6 a7 a8 a9 a10 a11 a12 a13 a14 a15 a16 a17 a18 a19 a20 a21 a22 a23 a24 a25 a26 a27 a28 a29 a30 a31:Int,l=[a0,a1,a2,a3,a4,a5,a6,a7,a8,a9,a10,a11,a12,a13,a14,a15,a16,a17,a18,a19,a20,a21,a22,a23,a24,a25,a26,a27,a28,a29,a30,a31]:=by
  match l,h with
  |[a0,a1,a2,a3,a4,a5,a6,a7,a8,a9,a10,a11,a12,a13,a14,a15,a16,a17,a18,a19,a20,a21,a22,a23,a24,a25,a26,a27,a28,a29,a30,a31],_=>exact⟨a0,a1,a2,a3,a4,a5,a6,a7,a8,a9,a10,a11,a12,a13,a14,a15,a16,a17,a18,a19,a20,a21,a22,a23,a24,a25,a26,a27,a28,a29,a30,a31,rfl⟩
theorem JE{P:Program}{ops:Array Oper}{rest:List Oper}{o:Oper}{a:Act}{w:World}{Q:Exit→Act→World→Prop}(hgd:o.guard=none)(t:TypeId)(ps:Array (Nat × Operand))(ho:o.op=.build t ps)(vs:Array (Nat × Value))(hv:(ps.map fun(i,x)=>(i,a.eval x))=vs)
    (v:Value) (hr:(Instr.build t vs).run P w=.ok v w) (h:wpList P ops Q rest (a.put o.dst v) w):wpList P ops Q (o::rest) a w:=
  wpList_plain hgd fun K hK=>by
    unfold Oper.wp execOp
    simp only[ho,hv,Sem.run_bind,hr,Result.andThen_ok]
    exact hK _ _ h
end Go.Proofs.YtlfnddmncbkjaacGreat.Fb
namespace Go.Proofs.YtlfnddmncbkjaacGreat.W
open Go.RowKit Fb
theorem UB(h:Hart)(wf:h.regs.length=32)(v:Value)(hv:v.oneCell'=true)(ao:Option Addr)(n cap:Nat)(hs:v=.slice ao n cap)(w:World):(Instr.build 67 #[(0,.agg (qL h)),(1,v)]).run Tryz.prog w=.ok (.agg (qA ⟨h,v,.slice none 0 0,0,0⟩)) w:=by
  subst hs
  obtain⟨regs,pc,held,heldAt,state,cause⟩:=h
  obtain⟨a0,a1,a2,a3,a4,a5,a6,a7,a8,a9,a10,a11,a12,a13,a14,a15,a16,a17,a18,a19,a20,a21,a22,a23,a24,a25,a26,a27,a28,a29,a30,a31,rfl⟩:=list32 wf
  kernel_rfl
end Go.Proofs.YtlfnddmncbkjaacGreat.W
namespace Go.Proofs.YtlfnddmncbkjaacGreat.Fb
open Go.RowKit
theorem call_steps(d:RunD):d.call.steps=d.steps:=by
  unfold RunD.call
  repeat' (refine uQ (P:=fun x:RunD=>x.steps=d.steps) (fun _=> ?_) (fun _=> ?_))
  all_goals rfl
theorem atom_steps(d:RunD)(op:Int)(kd ka kb:Nat):(d.atom op kd ka kb).steps=d.steps:=by
  unfold RunD.atom
  repeat' (refine uQ (P:=fun x:RunD=>x.steps=d.steps) (fun _=> ?_) (fun _=> ?_))
  all_goals first
    |rfl
    |exact(put_same _ _ _).1
theorem one_left(d:RunD)(m:MicD)(st:Int)(h:0≤st-d.steps):0≤st-(d.one m st).steps:=by
  by_cases c:m.op=1
  · by_cases q:d.steps=st
    · have e:d.one m st=d.stop m.n:=by unfold RunD.one;rw[if_pos c,if_pos (by simp[q])]
      rw[e];exact h
    · have:=(r7near_one d m st).s1
      omega
  · have e:(d.one m st).steps=d.steps:=by
      unfold RunD.one
      rw[if_neg c]
      repeat' (refine uQ (P:=fun x:RunD=>x.steps=d.steps) (fun _=> ?_) (fun _=> ?_))
      all_goals first
        |rfl
        |exact(put_same _ _ _).1
        |exact call_steps d
        |exact atom_steps d _ _ _ _
    rw[e];exact h
def RunD.begin(d:RunD):RunD:={d with here:=d.h.pc}
end Go.Proofs.YtlfnddmncbkjaacGreat.Fb
namespace Go.Proofs.YtlfnddmncbkjaacGreat.W
open Go.RowKit Fb
section
variable {rp cp hb po : Nat} {vm : Value} {w : World} {d : RunD} {vs : Value} {steps fr tw : Int}
theorem one8_any(h:R8 rp cp hb po vm 43 108 113 w d vs steps 0 0)(m:MicD)(hm:mayM m=true)(hn:U32 m.n)(hst:QW steps)(hds:0≤d.steps∧d.steps≤100000)(hle:0≤steps-d.steps)(hsl:d.stores.length≤100000)(hol:d.out.length≤100000)(hov:d.over=false):
    Calls Tryz.prog 78 #[.pointer (some ⟨rp,0,none⟩),.agg (JC m).toArray] w fun e w'=>e=.returned (.bool (!(d.one m steps).over))∧∃vs',R8 rp cp hb po vm 43 108 113 w' (d.one m steps) vs' steps 0 0∧G8 rp 43 cp hb po vm w w':=by
  obtain⟨r1,r2,r3⟩:=mayM_regs hm
  have hc:=named_cls (mayM_named hm)
  obtain⟨op,kd,ka,kb,n⟩:=m
  dsimp only at r1 r2 r3 hc hn
  obtain⟨kd,rfl⟩:=sS r1.1
  obtain⟨ka,rfl⟩:=sS r2.1
  obtain⟨kb,rfl⟩:=sS r3.1
  have hkd:kd<36:=om
  have hka:ka<36:=om
  have hkb:kb<36:=om
  simp only[JC]
  rcases hc with(e|e|e|e|e|e)|⟨s,e,h1,h2⟩|⟨s,e,h1,h2⟩|⟨s,e,h1,h2⟩|⟨s,e,h1,h2⟩|⟨s,e,h1,h2⟩|⟨s,e,h1,h2⟩
  · exact one8_at h op n kd ka kb hkd hka hkb hn hst hds hle hsl hol hov e _ rfl
  · exact Jq h op n kd ka kb hkd hka hkb hn hst hds hle hsl hol hov e _ rfl
  · exact one8_go h op n kd ka kb hkd hka hkb hn hst hds hle hsl hol hov e _ rfl
  · exact one8_reg h op n kd ka kb hkd hka hkb hn hst hds hle hsl hol hov e _ rfl
  · exact one8_call h op n kd ka kb hkd hka hkb hn hst hds hle hsl hol hov e _ rfl
  · exact one8_brk h op n kd ka kb hkd hka hkb hn hst hds hle hsl hol hov e _ rfl
  · exact one8_if h op n kd ka kb hkd hka hkb hn hst hds hle hsl hol hov s e ⟨h1,h2⟩ _ rfl
  · exact one8_load h op n kd ka kb hkd hka hkb hn hst hds hle hsl hol hov s e ⟨h1,h2⟩ _ rfl
  · exact one8_store h op n kd ka kb hkd hka hkb hn hst hds hle hsl hol hov s e ⟨h1,h2⟩ _ rfl
  · exact one8_alu h op n kd ka kb hkd hka hkb hn hst hds hle hsl hol hov s e ⟨h1,h2⟩ _ rfl
  · exact one8_alun h op n kd ka kb hkd hka hkb hn hst hds hle hsl hol hov s e ⟨h1,h2⟩ _ rfl
  · exact one8_atom h op n kd ka kb hkd hka hkb hn hst hds hle hsl hol hov s e ⟨h1,h2⟩ _ rfl
theorem do8_any(h:R8 rp cp hb po vm 43 108 113 w d vs steps fr tw)(vc:Value)(code:List MicD)(hc:Sl w vc 5 code.length (code.flatMap JC))(hfar:∀b off n c,vc=.slice (some ⟨b,off,none⟩) n c→code≠[]→b<w.heap.size∧b≠hb∧vm.ownBlock≠some b∧(b<cp∨(cp<b∧b<rp∧∀cs f,w.heap[b]? ≠some (.cells cs 43 f))))(hmay:mayL code=true)(hok:∀x∈code,x.Ok)
    (hst:QW steps) (hds:0≤d.steps∧d.steps≤50000) (hle:0≤steps-d.steps) (hsl:d.stores.length≤50000) (hol:d.out.length≤50000) (hov:d.over=false) (d':RunD) (hd':d'=(runL steps code d.begin).fin):
    Calls Tryz.prog 47 #[.pointer (some ⟨rp,0,none⟩),vc] w fun e w'=>e=.returned (.tuple #[])∧∃vs',R8 rp cp hb po vm 43 108 113 w' d' vs' steps 0 0∧G8 rp 43 cp hb po vm w w':=by
  obtain⟨ac,cc,rfl,hcc,hcm,-,ho⟩:=hc.open (fun _ _=>rfl) om
  unfold maxLen at hcm
  have hcl:code.length≤200:=by unfold mayL at hmay;rw[Bool.and_eq_true,decide_eq_true_eq]at hmay;exact hmay.1
  have HO:=lI ho
  have HFAR:=lI hfar
  have HMAY:=lI hmay
  have HOK:=lI hok
  have HC:=lI hc
  have g0:=h.at_.get (QT 0 om)
  have g10:=h.at_.get (Jr h.wf.tlen 0)
  have p0:w.cell? ⟨cp,0,none⟩=some (.pointer (some ⟨hb,po,none⟩)):=h.core.ptr
  have p3:w.cell? ⟨cp,3,none⟩=some (.int .u32 fr):=h.core.fr
  have p4:w.cell? ⟨cp,4,none⟩=some (.int .u32 tw):=h.core.tw
  have hpc:=h.core.hart.get (qe h.wf.h)
  have f3:=h.core.frz 3
  have f4:=h.core.frz 4
  have f10:=h.frz 10
  have hlt:=h.rlt
  have hcr:=h.lt
  have hhc:=h.core.hbl
  have hne1:hb≠cp:=om
  have hne2:hb≠rp:=om
  have hne3:cp≠rp:=om
  simp only[sM,Nat.reduceAdd]at g0 g10 hpc
  obtain⟨pc,hpcd⟩:∃pc,pc=d.h.pc:=⟨_,rfl⟩
  have hpc':w.cell? ⟨hb,po+32,none⟩=some (.int .u32 pc):=by rw[hpcd];exact hpc
  have HB:=lI (fun n=>by
    have H1:=(h.below (w':=w.drewN n) (qC br _)).setFrTo tyR tyS
    have H2:=H1.1.setCell (d':=d.begin) tyR 10 om (.int .u32 pc) (r8_setEnd (d:=d) (d':=d.begin) (j:=0) h.wf.tlen rfl rfl rfl rfl (by rw[hpcd];rfl)) rfl rfl rfl rfl {h.wf with here:=h.wf.h.pc}
    exact And.intro H2 (((G8.below (rp:=rp) (TU:=43) (cp:=cp) (hb:=hb) (po:=po) (vm:=vm) (qC (Below.refl _ w) n) h.clt).trans H1.2).trans (G8.set h.lts 10 (.int .u32 pc))))
  obtain⟨d1,hd1⟩:∃d1,d1=d.begin:=⟨_,rfl⟩
  rw[←hd1]at HB hd'
  have HS1:Hid (0≤d1.steps∧d1.steps≤50000∧0≤steps-d1.steps∧d1.stores.length≤50000∧d1.out.length≤50000∧d1.over=false):=lI (by rw[hd1];exact⟨hds.1,hds.2,hle,hsl,hol,hov⟩)
  have HD:=lI hd'
  clear h ho hfar hmay hok hc hpc hpcd hd1 hd' hds hle hsl hol hov
  go_enter Tryz.func47,Tryz.ntmps47
  go_upto_region 0 with(fail)
  go_region
  obtain⟨w1,hw1⟩:∃w1,w1=(((w.setCell ⟨cp,3,none⟩ (.int .u32 0)).setCell ⟨cp,4,none⟩ (.int .u32 0)).setCell ⟨rp,10,none⟩ (.int .u32 pc)).drew:=⟨_,rfl⟩
  have HI1:Hid (R8 rp cp hb po vm 43 108 113 w1 d1 vs steps 0 0∧G8 rp 43 cp hb po vm w w1):=lI (by rw[hw1];exact HB.out 1)
  rw[←hw1]
  clear hw1 HB g0 g10 p0 p3 p4 hpc' f3 f4 f10
  go_wp2_with fail
  go_loopw [33] (fun i wr=>∃k:Nat,i=.int .i64 k∧k≤code.length∧∃(e:RunD) (us:Value),Hid (R8 rp cp hb po vm 43 108 113 wr e us steps 0 0∧G8 rp 43 cp hb po vm w wr∧runL steps (code.drop k) e=runL steps code d1∧e.over=false∧0≤e.steps∧e.steps≤50000+(k:Int)∧0≤steps-e.steps∧e.stores.length≤50000+k∧e.out.length≤50000+k)) (fun i _=>code.length-(intOf i).toNat)
  case atStart=>exact⟨0,rfl,om,d1,vs,lI ⟨HI1.out.1,HI1.out.2,by simp,HS1.out.2.2.2.2.2,HS1.out.1,by have:=HS1.out.2.1;omega,HS1.out.2.2.1,by have:=HS1.out.2.2.2.1;omega,by have:=HS1.out.2.2.2.2.1;omega⟩⟩
  case round=>
    obtain⟨k,rfl,hk,e,us,HI⟩:=hrel
    by_cases hlt:k<code.length
    · have i1:(k:Int)<(code.length:Int):=om
      have i0:(0:Int)≤(k:Int):=om
      obtain⟨b,off,rfl,hbl,hel⟩:=HO.out zR
      obtain⟨q1,q2,q3,q4⟩:=HFAR.out b off _ _ rfl zR
      have hbk:=HI.out.2.1.block b q1 q2 q3 q4
      have hat:At wr b (off+k*5) (JC code[k]):=fun j hj=>(qE hbk _).trans (hel k hlt j hj)
      have hmm:mayM code[k]=true:=by
        have:=HMAY.out
        unfold mayL at this
        rw[Bool.and_eq_true,List.all_eq_true]at this
        exact this.2 _ (sU hlt)
      have hmk:=(HOK.out code[k] (sU hlt)).n
      have hrl:runL steps (code.drop k) e=runL steps (code.drop (k+1)) (e.one code[k] steps):=by
        rw[List.drop_eq_getElem_cons hlt,runL,if_neg (by rw[HI.out.2.2.2.1];simp)]
      have hnr:=r7near_one e code[k] steps
      have hol1:=one_left e code[k] steps HI.out.2.2.2.2.2.2.1
      obtain⟨mm,hmmd⟩:∃mm,mm=code[k]:=⟨_,rfl⟩
      rw[←hmmd]at hat hmm hmk hrl hnr hol1
      clear hmmd hel q2 q3 q4 hbk
      obtain⟨op,kd,ka,kb,n⟩:=mm
      have HON:=lI (fun W (hW:Below wr.heap.size wr W)=>one8_any (HI.out.1.below hW) ⟨op,kd,ka,kb,n⟩ hmm hmk hst ⟨HI.out.2.2.2.2.1,by have:=HI.out.2.2.2.2.2.1;omega⟩ HI.out.2.2.2.2.2.2.1 (by have:=HI.out.2.2.2.2.2.2.2.1;omega) (by have:=HI.out.2.2.2.2.2.2.2.2;omega) HI.out.2.2.2.1)
      have HON':Hid (∀W,Below wr.heap.size wr W→Calls Tryz.prog 78 #[.pointer (some ⟨rp,0,none⟩),.agg #[.int .i64 op,.int .i64 kd,.int .i64 ka,.int .i64 kb,.int .u32 n]] W fun x w'=>x=.returned (.bool (!(e.one ⟨op,kd,ka,kb,n⟩ steps).over))∧∃vs',R8 rp cp hb po vm 43 108 113 w' (e.one ⟨op,kd,ka,kb,n⟩ steps) vs' steps 0 0∧G8 rp 43 cp hb po vm W w'):=lI HON.out
      have e0:=hat.get (j:=0) (v:=.int .i64 op) rfl
      have e1:=hat.get (j:=1) (v:=.int .i64 kd) rfl
      have e2:=hat.get (j:=2) (v:=.int .i64 ka) rfl
      have e3:=hat.get (j:=3) (v:=.int .i64 kb) rfl
      have e4:=hat.get (j:=4) (v:=.int .u32 n) rfl
      simp only[sN]at e0
      have HNR:=lI (And.intro hnr hol1)
      have HRL:=lI hrl
      obtain⟨w5,hw5⟩:∃w5,w5=wr.alloc (.cells #[.int .i64 op,.int .i64 kd,.int .i64 ka,.int .i64 kb,.int .u32 n] 144):=⟨_,rfl⟩
      have HB5:Hid (Below wr.heap.size wr w5):=lI (by rw[hw5];exact Fb.blw)
      have HW5:=lI hw5
      have hclt:=HI.out.1.clt
      obtain⟨ov,hov⟩:∃ov,ov=(e.one ⟨op,kd,ka,kb,n⟩ steps).over:=⟨_,rfl⟩
      rw[←hov]at HON'
      have HOV:=lI hov
      clear HON hat hmm hmk hrl hnr hw5 hol1 hov
      go_upto_region 4 with(fail)
      rw[←HW5.out]
      have g0:(w5).cell? ⟨wr.heap.size,0,none⟩=some (.int .i64 op):=by rw[HW5.out];go_cell
      have g1:(w5).cell? ⟨wr.heap.size,1,none⟩=some (.int .i64 kd):=by rw[HW5.out];go_cell
      have g2:(w5).cell? ⟨wr.heap.size,2,none⟩=some (.int .i64 ka):=by rw[HW5.out];go_cell
      have g3:(w5).cell? ⟨wr.heap.size,3,none⟩=some (.int .i64 kb):=by rw[HW5.out];go_cell
      have g4:(w5).cell? ⟨wr.heap.size,4,none⟩=some (.int .u32 n):=by rw[HW5.out];go_cell
      go_wp2_with fail
      refine(HON'.out w5 HB5.out).mono ?_
      rintro x w9 ⟨rfl,vs',h9,g9⟩
      have HN:=lI (And.intro h9 (HI.out.2.1.trans ((G8.below HB5.out hclt).trans g9)))
      clear h9 g9 g0 g1 g2 g3 g4 e0 e1 e2 e3 e4
      cases ov with
      | true =>
        go_wp2_with fail
        refine sP (results_none zP _ _ _) rfl ?_
        have e1:runL steps code d1=e.one ⟨op,kd,ka,kb,n⟩ steps:=by
          rw[←HI.out.2.2.1,HRL.out,ue HOV.out.symm]
        have e2:d'=e.one ⟨op,kd,ka,kb,n⟩ steps:=by
          rw[HD.out,e1]
          unfold RunD.fin
          rw[if_neg (by rw[←HOV.out];simp)]
        rw[e2]
        first
          |exact⟨rfl,vs',HN.out.1,HN.out.2⟩
          |exact⟨rfl,⟨vs',HN.out.1⟩,HN.out.2⟩
      | false =>
        have HN9:Hid (R8 rp cp hb po vm 43 108 113 w9 (e.one ⟨op,kd,ka,kb,n⟩ steps) vs' steps 0 0∧G8 rp 43 cp hb po vm w w9∧runL steps (code.drop (k+1)) (e.one ⟨op,kd,ka,kb,n⟩ steps)=runL steps code d1∧(e.one ⟨op,kd,ka,kb,n⟩ steps).over=false∧0≤(e.one ⟨op,kd,ka,kb,n⟩ steps).steps∧(e.one ⟨op,kd,ka,kb,n⟩ steps).steps≤50000+((k+1:Nat):Int)∧0≤steps-(e.one ⟨op,kd,ka,kb,n⟩ steps).steps∧(e.one ⟨op,kd,ka,kb,n⟩ steps).stores.length≤50000+(k+1)∧(e.one ⟨op,kd,ka,kb,n⟩ steps).out.length≤50000+(k+1)):=lI ⟨HN.out.1,HN.out.2,by rw[←HRL.out];exact HI.out.2.2.1,HOV.out.symm,by have:=HNR.out.1.s0;have:=HI.out.2.2.2.2.1;omega,by have:=HNR.out.1.s1;have:=HI.out.2.2.2.2.2.1;omega,HNR.out.2,by have:=HNR.out.1.st;have:=HI.out.2.2.2.2.2.2.2.1;omega,by have:=HNR.out.1.ou;have:=HI.out.2.2.2.2.2.2.2.2;omega⟩
        go_wp2_with fail
        go_roundw
        case rel=>exact⟨k+1,by simp,om,_,_,HN9⟩
        case measure=>simp[intOf];omega
    · have i1:¬(k:Int)<(code.length:Int):=om
      have hfin:runL steps code d1=e:=by
        rw[←HI.out.2.2.1,List.drop_of_length_le om];rfl
      have h5:=HI.out.1
      have k4:=h5.at_.get (QT 4 om)
      have k0:=h5.at_.get (QT 0 om)
      have k10:=h5.at_.get (Jr h5.wf.tlen 0)
      have p0:wr.cell? ⟨cp,0,none⟩=some (.pointer (some ⟨hb,po,none⟩)):=h5.core.ptr
      have hpc:=h5.core.hart.get (qe h5.wf.h)
      have f32:=h5.core.hfz (po+32)
      simp only[sM,Nat.reduceAdd]at k0 k4 k10 hpc
      obtain⟨ds,hds⟩:∃ds,ds=e.steps:=⟨_,rfl⟩
      have k4':wr.cell? ⟨rp,4,none⟩=some (.int .i64 ds):=by rw[hds];exact k4
      have k10':wr.cell? ⟨rp,10,none⟩=some (.int .u32 e.here):=k10
      by_cases hpos:0<e.steps
      · have hp1:decide (0<ds)=true:=by rw[hds];exact sW hpos
        have hp2:0<ds:=by rw[hds];exact hpos
        have he2:d'={e with h:=e.h.setPc (Fb.u32 (e.here+4))}:=by rw[HD.out,hfin];unfold RunD.fin;rw[if_pos ⟨HI.out.2.2.2.1,hpos⟩]
        obtain⟨np,hnp⟩:∃np,np=(e.here+4)%4294967296:=⟨_,rfl⟩
        have hunp:U32 np:=by rw[hnp];exact jG _
        have HS:=lI (fun n=>by
          have H2:=uF (h5.below (w':=wr.drewN n) (qC br _)) 32 om (.int .u32 np) (e.h.setPc np) (qh h5.wf.h.len np) {h5.wf.h with pc:=hunp}
          exact And.intro H2.1 ((HI.out.2.1.trans (G8.below (qC (Below.refl _ wr) n) h5.clt)).trans H2.2))
        have HE:Hid (d'={e with h:=e.h.setPc np}):=lI (by rw[he2,hnp];rfl)
        have HNP:=lI hnp
        clear hfin hds hpos he2 hnp hunp h5 k4 k10 HO HFAR HMAY HOK HC
        go_upto_region 7 with(fail)
        go_region
        all_goals
          rw[←HNP.out]
          go_wp2_with fail
          go_end0
          first
            |exact⟨rfl,us,by rw[HE.out];exact(HS.out 1).1,(HS.out 1).2⟩
            |exact⟨rfl,⟨us,by rw[HE.out];exact(HS.out 1).1⟩,(HS.out 1).2⟩
      · have hp1:decide (0<ds)=false:=by rw[hds];exact decide_eq_false hpos
        have hp2:¬0<ds:=by rw[hds];exact hpos
        have HE:Hid (d'=e):=lI (by rw[HD.out,hfin];unfold RunD.fin;rw[if_neg (fun x=>hpos x.2)])
        clear hfin hds hpos h5 k4 k10
        go_wp2_with fail
        go_end0
        first
          |exact⟨rfl,us,by rw[HE.out];exact HI.out.1,HI.out.2.1⟩
          |exact⟨rfl,⟨us,by rw[HE.out];exact HI.out.1⟩,HI.out.2.1⟩
end
end Go.Proofs.YtlfnddmncbkjaacGreat.W
