import Derived.Test.YtlfnddmncbkjaacGreatZGC
set_option linter.unusedVariables false
set_option linter.unusedSimpArgs false
set_option maxRecDepth 100000
set_option maxHeartbeats 4000000
namespace Go.Proofs.YtlfnddmncbkjaacGreat.W
open Go.RowKit Fb
theorem info_did:(Tryz.prog.info? 67).map (·.size)=some 41:=by kernel_rfl
theorem qG{d:DidD}(h:d.Ok):(Tryz.prog.info? 67).map (·.size)=some (qA d).size:=by rw[qT h];exact info_did
theorem qi(a b:Int)(w:World)(ha:U32 a)(hb:U32 b):Calls Tryz.prog 31 #[.int .u32 a,.int .u32 b] w fun e w'=>e=.returned (.int .u32 ((a+b)%4294967296))∧∃n,w'=w.drewN n:=by
  have H:=lI (fun W=>alu1_any 28 a b W ha.1 ha.2 hb.1 hb.2)
  have e:alu 28 a b=(a+b)%4294967296:=rfl
  rw[e]at H
  go_enter Tryz.func31,Tryz.ntmps31
  go_wp2_with fail
  refine(H.out _).mono ?_
  rintro e w' ⟨rfl,n,rfl⟩
  go_wp2_with fail
  go_ret
  exact⟨rfl,n,rfl⟩
theorem operation4_any(op:Int)(w:World)(hop:19≤op∧op≤27):Calls Tryz.prog 36 #[.int .i64 op] w fun e w'=>e=.returned (.int .i64 (immOp op))∧w=w':=by
  have ho:op=19∨op=20∨op=21∨op=22∨op=23∨op=24∨op=25∨op=26∨op=27:=om
  rcases ho with rfl|rfl|rfl|rfl|rfl|rfl|rfl|rfl|rfl
  all_goals
    go_enter Tryz.func36,Tryz.ntmps36
    go_wp2_with fail
    go_ret
    exact⟨rfl,rfl⟩
theorem jq(d:DidD)(hd:d.Ok)(k:Nat)(hk:k<32)(x:Int)(w:World):
    Calls Tryz.prog 32 #[.agg (qA d),.int .i64 k,.int .u32 x] w fun e w'=>e=.returned (.agg (qA (d.set k x)))∧Below w.heap.size w w':=by
  by_cases hk0:k=0
  · subst hk0
    have e:d.set ((0:Nat):Int) x=d:=by simp[DidD.set,Hart.setReg]
    rw[e]
    go_enter Tryz.func32,Tryz.ntmps32
    go_upto_region 1 with(fail)
    show Code.wp _ _ _ _ ((w.alloc (.cells (qA d) 67)).alloc (.cells (qA did0) 67))
    have hD:=DBox.begin (w:=w) (tD:=67) (d:=d) (z:=qA did0) (qT JZ)
    have hb0:Below w.heap.size w ((w.alloc (.cells (qA d) 67)).alloc (.cells (qA did0) 67)):=Fb.blw
    have hs0:((w.alloc (.cells (qA d) 67)).alloc (.cells (qA did0) 67)).heap.size=w.heap.size+2:=zG
    generalize (w.alloc (.cells (qA d) 67)).alloc (.cells (qA did0) 67)=w1 at *
    have HD:=lI hD
    have hbe:=hb0
    have hs2:=qG hd
    have ht:(w1).there (w.heap.size+1) 0 (qA d).size:=by rw[qT hd];exact HD.out.there
    have hall:=qX hd
    have hld:=qQ (P:=Tryz.prog) ht Tryz.underlying67 rfl hs2
    go_wp2_with (first|(refine qI rfl 67 _ rfl w.heap.size 0 rfl (qA d) _ HD.out.at_ Tryz.underlying67 rfl hs2 ?_)|(refine sT rfl 67 _ _ rfl (w.heap.size+1) 0 (qA d) rfl rfl ht hs2 hall ?_))
    exact sP (qk zP _ zP hld) rfl ⟨rfl,qB om _ _ _ hbe⟩
  · have e:d.set (k:Int) x={d with h:={d.h with regs:=d.h.regs.set k x}}:=by simp[DidD.set,Hart.setReg];omega
    rw[e]
    obtain⟨d2,hdd⟩:∃d2,d2=({d with h:={d.h with regs:=d.h.regs.set k x}}:DidD):=⟨_,rfl⟩
    rw[←hdd]
    have hd2:d2.Ok:=by rw[hdd];exact⟨by simp[hd.len],hd.m1,hd.o1⟩
    go_enter Tryz.func32,Tryz.ntmps32
    go_upto_region 1 with(fail)
    show Code.wp _ _ _ _ ((w.alloc (.cells (qA d) 67)).alloc (.cells (qA did0) 67))
    have hD:=DBox.begin (w:=w) (tD:=67) (d:=d) (z:=qA did0) (qT JZ)
    have hb0:Below w.heap.size w ((w.alloc (.cells (qA d) 67)).alloc (.cells (qA did0) 67)):=Fb.blw
    have hs0:((w.alloc (.cells (qA d) 67)).alloc (.cells (qA did0) 67)).heap.size=w.heap.size+2:=zG
    generalize (w.alloc (.cells (qA d) 67)).alloc (.cells (qA did0) 67)=w1 at *
    have hk1:(0:Int)<k:=om
    have hcell:w1.cell? ⟨w.heap.size,k,none⟩=some (.int .u32 (d.h.regs.getD k 0)):=hD.get (Qb (by
      have:k<d.h.regs.length:=by rw[hd.len];exact hk
      simp[qJ,List.getElem?_append,this]))
    have hfz:=hD.frz k
    have HD:Hid (DBox w.heap.size (w.heap.size+1) 67 (w1.setCell ⟨w.heap.size,k,none⟩ (.int .u32 x)) d2):=lI (by
      rw[hdd]
      exact hD.set k (.int .u32 x) (by rw[Qi hd];omega) (qq (UO hd.len k hk x) (by rw[QR hd.len];omega)))
    have hbe:=hb0.setCell (p:=⟨w.heap.size,k,none⟩) (sO _) (.int .u32 x)
    clear hD hdd
    go_upto_region 3 with(fail)
    have hs2:=qG hd2
    have ht:(w1.setCell ⟨w.heap.size,k,none⟩ (.int .u32 x)).there (w.heap.size+1) 0 (qA d2).size:=by rw[qT hd2];exact HD.out.there
    have hall:=qX hd2
    have hld:=qQ (P:=Tryz.prog) ht Tryz.underlying67 rfl hs2
    go_wp2_with (first|(refine qI rfl 67 _ rfl w.heap.size 0 rfl (qA d2) _ HD.out.at_ Tryz.underlying67 rfl hs2 ?_)|(refine sT rfl 67 _ _ rfl (w.heap.size+1) 0 (qA d2) rfl rfl ht hs2 hall ?_))
    exact sP (qk zP _ zP hld) rfl ⟨rfl,qB om _ _ _ hbe⟩
theorem JN(d:DidD)(hd:d.Ok)(c:Int)(w:World):
    Calls Tryz.prog 28 #[.agg (qA d),.int .i64 c] w fun e w'=>e=.returned (.agg (qA (d.trap c)))∧Below w.heap.size w w':=by
  obtain⟨d2,hdd⟩:∃d2,d2=d.trap c:=⟨_,rfl⟩
  rw[←hdd]
  have hd2:d2.Ok:=by rw[hdd];exact⟨hd.len,hd.m1,hd.o1⟩
  go_enter Tryz.func28,Tryz.ntmps28
  go_upto_region 1 with(fail)
  show Code.wp _ _ _ _ ((w.alloc (.cells (qA d) 67)).alloc (.cells (qA did0) 67))
  have hD:=DBox.begin (w:=w) (tD:=67) (d:=d) (z:=qA did0) (qT JZ)
  have hb0:Below w.heap.size w ((w.alloc (.cells (qA d) 67)).alloc (.cells (qA did0) 67)):=Fb.blw
  have hs0:((w.alloc (.cells (qA d) 67)).alloc (.cells (qA did0) 67)).heap.size=w.heap.size+2:=zG
  generalize (w.alloc (.cells (qA d) 67)).alloc (.cells (qA did0) 67)=w1 at *
  have h35:=hD.get (Qb (hlist_state' hd.len))
  have h36:=hD.get (Qb (hlist_cause' hd.len))
  have f35:=hD.frz 35
  have f36:=hD.frz 36
  have HD:Hid (DBox w.heap.size (w.heap.size+1) 67 ((w1.setCell ⟨w.heap.size,35,none⟩ (.int .i64 2)).setCell ⟨w.heap.size,36,none⟩ (.int .i64 c)) d2):=lI (by
    rw[hdd]
    exact(hD.set (d':={d with h:={d.h with state:=2}}) 35 (.int .i64 2) (by rw[Qi hd];omega) (qq (js hd.len 2) (by rw[QR hd.len];omega))).set 36 (.int .i64 c) (by simp[jE,dtail,qJ,hd.len]) (qq (d:={d with h:={d.h with state:=2}}) (uJ (h:={d.h with state:=2}) hd.len c) (by simp[qJ,hd.len])))
  have hbe:=(hb0.setCell (p:=⟨w.heap.size,35,none⟩) (sO _) (.int .i64 2)).setCell (p:=⟨w.heap.size,36,none⟩) (sO _) (.int .i64 c)
  clear hD hdd
  go_upto_region 3 with(fail)
  have hs2:=qG hd2
  have ht:((w1.setCell ⟨w.heap.size,35,none⟩ (.int .i64 2)).setCell ⟨w.heap.size,36,none⟩ (.int .i64 c)).there (w.heap.size+1) 0 (qA d2).size:=by rw[qT hd2];exact HD.out.there
  have hall:=qX hd2
  have hld:=qQ (P:=Tryz.prog) ht Tryz.underlying67 rfl hs2
  go_wp2_with (first|(refine qI rfl 67 _ rfl w.heap.size 0 rfl (qA d2) _ HD.out.at_ Tryz.underlying67 rfl hs2 ?_)|(refine sT rfl 67 _ _ rfl (w.heap.size+1) 0 (qA d2) rfl rfl ht hs2 hall ?_))
  exact sP (qk zP _ zP hld) rfl ⟨rfl,qB om _ _ _ hbe⟩
theorem store4_no(d:DidD)(hd:d.Ok)(m:List Int)(op at_ x:Int)(w:World)(hm:Ints .u8 w d.vm m)(ha:U32 at_)(hx:U32 x)(hr:m.length≤140737488351232)(hq:qU m op at_=false):
    Calls Tryz.prog 34 #[.agg (qA d),.int .i64 op,.int .u32 at_,.int .u32 x] w fun e w'=>e=.returned (.tuple #[.agg (qA d),.bool false])∧Below w.heap.size w w':=by
  have HM:=lI hm
  have HS:=lI (fun W hW=>store3_any d.vm m op at_ x W hW ha hx om)
  rw[hq]at HS
  go_enter Tryz.func34,Tryz.ntmps34
  go_upto_region 1 with(fail)
  show Code.wp _ _ _ _ ((w.alloc (.cells (qA d) 67)).alloc (.cells (qA did0) 67))
  have hD:=DBox.begin (w:=w) (tD:=67) (d:=d) (z:=qA did0) (qT JZ)
  have hb0:Below w.heap.size w ((w.alloc (.cells (qA d) 67)).alloc (.cells (qA did0) 67)):=Fb.blw
  have hs0:((w.alloc (.cells (qA d) 67)).alloc (.cells (qA did0) 67)).heap.size=w.heap.size+2:=zG
  generalize (w.alloc (.cells (qA d) 67)).alloc (.cells (qA did0) 67)=w1 at *
  have hc37:w1.cell? ⟨w.heap.size,37,none⟩=some d.vm:=hD.get (jQ hd.len 0)
  go_wp2_with fail
  refine(HS.out _ (HM.out.below hb0)).mono ?_
  rintro e w2 ⟨⟨v',rfl,_⟩,hb2⟩
  have HD:=lI (hD.below om om hb2)
  have hbe:=hb0.trans (hb2.mono om)
  clear hD hc37 hb2 hb0
  have hs2:=qG hd
  have ht:(w2).there (w.heap.size+1) 0 (qA d).size:=by rw[qT hd];exact HD.out.there
  have hall:=qX hd
  have hld:=qQ (P:=Tryz.prog) ht Tryz.underlying67 rfl hs2
  go_wp2_with (first|(refine qI rfl 67 _ rfl w.heap.size 0 rfl (qA d) _ HD.out.at_ Tryz.underlying67 rfl hs2 ?_)|(refine sT rfl 67 _ _ rfl (w.heap.size+1) 0 (qA d) rfl rfl ht hs2 hall ?_))
  exact sP (QK zP _ zP hld) rfl ⟨rfl,qB om _ _ _ hbe⟩
theorem store4_yes(d:DidD)(hd:d.Ok)(m:List Int)(op at_ x:Int)(w:World)(hm:Ints .u8 w d.vm m)(ha:U32 at_)(hx:U32 x)(hr:m.length≤140737488351232)(hq:qU m op at_=true):
    Calls Tryz.prog 34 #[.agg (qA d),.int .i64 op,.int .u32 at_,.int .u32 x] w fun e w'=>∃v',e=.returned (.tuple #[.agg (qA {d with vm:=v',fr:=at_,many:=qM op}),.bool true])∧Ints .u8 w' v' (qn m op at_ x)∧(∀q,v'.ownBlock=some q→w.heap.size≤q)∧Below w.heap.size w w':=by
  have HM:=lI hm
  obtain⟨ka,rfl⟩:=sS ha.1
  have HS:=lI (fun W hW=>store3_yes d.vm m op ka x W hW ha hx hq om)
  have hsz:ssize op=qM op:=by unfold ssize;rw[if_pos (by simp[qU]at hq;exact hq.1)]
  go_enter Tryz.func34,Tryz.ntmps34
  go_upto_region 1 with(fail)
  show Code.wp _ _ _ _ ((w.alloc (.cells (qA d) 67)).alloc (.cells (qA did0) 67))
  have hD:=DBox.begin (w:=w) (tD:=67) (d:=d) (z:=qA did0) (qT JZ)
  have hb0:Below w.heap.size w ((w.alloc (.cells (qA d) 67)).alloc (.cells (qA did0) 67)):=Fb.blw
  have hs0:((w.alloc (.cells (qA d) 67)).alloc (.cells (qA did0) 67)).heap.size=w.heap.size+2:=zG
  generalize (w.alloc (.cells (qA d) 67)).alloc (.cells (qA did0) 67)=w1 at *
  have hc37:w1.cell? ⟨w.heap.size,37,none⟩=some d.vm:=hD.get (jQ hd.len 0)
  go_wp2_with fail
  refine(HS.out _ (HM.out.below hb0)).mono ?_
  rintro e w2 ⟨⟨v',rfl,hv',hfr'⟩,hb2⟩
  have hD2:=hD.below om om hb2
  have hbe0:=hb0.trans (hb2.mono om)
  obtain⟨ao2,cp2,rfl,_⟩:=hv'.open
  have HV:=lI hv'
  have HFR:=lI hfr'
  have c37:w2.cell? ⟨w.heap.size,37,none⟩=some d.vm:=hD2.get (jQ hd.len 0)
  have c39:w2.cell? ⟨w.heap.size,39,none⟩=some (.int .u32 d.fr):=hD2.get (jQ hd.len 2)
  have c40:w2.cell? ⟨w.heap.size,40,none⟩=some (.int .i64 d.many):=hD2.get (jQ hd.len 3)
  have f37:=hD2.frz 37
  have f39:=hD2.frz 39
  have f40:=hD2.frz 40
  have o1:({d with vm:=.slice ao2 (qn m op ka x).length cp2}:DidD).Ok:=⟨hd.len,rfl,hd.o1⟩
  have d1:=hD2.set (d':={d with vm:=.slice ao2 (qn m op ka x).length cp2}) 37 (.slice ao2 (qn m op ka x).length cp2) (by rw[Qi hd];omega) (UP (d:=d) (d':={d with vm:=.slice ao2 (qn m op ka x).length cp2}) rfl hd.len (j:=0) rfl)
  have d2:=d1.set (d':={d with vm:=.slice ao2 (qn m op ka x).length cp2,fr:=(ka:Int)}) 39 (.int .u32 ka) (by rw[Qi o1];omega) (UP (d:={d with vm:=.slice ao2 (qn m op ka x).length cp2}) (d':={d with vm:=.slice ao2 (qn m op ka x).length cp2,fr:=(ka:Int)}) rfl hd.len (j:=2) rfl)
  have d3:=d2.set (d':={d with vm:=.slice ao2 (qn m op ka x).length cp2,fr:=(ka:Int),many:=qM op}) 40 (.int .i64 (qM op)) (by rw[Qi (d:={d with vm:=.slice ao2 (qn m op ka x).length cp2,fr:=(ka:Int)}) ⟨hd.len,rfl,hd.o1⟩];omega) (UP (d:={d with vm:=.slice ao2 (qn m op ka x).length cp2,fr:=(ka:Int)}) (d':={d with vm:=.slice ao2 (qn m op ka x).length cp2,fr:=(ka:Int),many:=qM op}) rfl hd.len (j:=3) rfl)
  obtain⟨dn,hdn⟩:∃dn,dn=({d with vm:=.slice ao2 (qn m op ka x).length cp2,fr:=(ka:Int),many:=qM op}:DidD):=⟨_,rfl⟩
  have hdnok:dn.Ok:=by rw[hdn];exact⟨hd.len,rfl,hd.o1⟩
  rw[←hdn]at d3
  have HD:=lI d3
  have hbe:=((hbe0.setCell (p:=⟨w.heap.size,37,none⟩) (sO _) (.slice ao2 (qn m op ka x).length cp2)).setCell (p:=⟨w.heap.size,39,none⟩) (sO _) (.int .u32 ka)).setCell (p:=⟨w.heap.size,40,none⟩) (sO _) (.int .i64 (qM op))
  have HDN:=lI hdn
  clear hD hc37 hb2 hb0 hD2 d1 d2 d3 hv' hdn hfr'
  go_upto_region 7 with(go_at_call 49;refine(Jo op _).mono ?_;rintro e w3 ⟨rfl,rfl⟩;rw[hsz])
  have hs2:=qG hdnok
  have ht:(((w2.setCell ⟨w.heap.size,37,none⟩ (.slice ao2 (qn m op ka x).length cp2)).setCell ⟨w.heap.size,39,none⟩ (.int .u32 ka)).setCell ⟨w.heap.size,40,none⟩ (.int .i64 (qM op))).there (w.heap.size+1) 0 (qA dn).size:=by rw[qT hdnok];exact HD.out.there
  have hall:=qX hdnok
  have hld:=qQ (P:=Tryz.prog) ht Tryz.underlying67 rfl hs2
  go_wp2_with (first|(refine qI rfl 67 _ rfl w.heap.size 0 rfl (qA dn) _ HD.out.at_ Tryz.underlying67 rfl hs2 ?_)|(refine sT rfl 67 _ _ rfl (w.heap.size+1) 0 (qA dn) rfl rfl ht hs2 hall ?_))
  exact sP (QK zP _ zP hld) rfl ⟨_,by rw[HDN.out];rfl,qt (fun b' off n c e=>by have:=HFR.out b' xF;omega) _ _ _ (((HV.out.set_other (fun b' off n c e=>by have:=HFR.out b' xF;show w.heap.size≠b';omega) _).set_other (fun b' off n c e=>by have:=HFR.out b' xF;show w.heap.size≠b';omega) _).set_other (fun b' off n c e=>by have:=HFR.out b' xF;show w.heap.size≠b';omega) _),fun q e=>by have:=HFR.out q e;omega,qB om _ _ _ hbe⟩
theorem atom4_lr_no(d:DidD)(c:qD)(w:World)(hc:qd w d c)(wf:c.Wf)(hl:c.m.length≤4096)(kd k1 k2:Nat)(imm:Int)(hk:kd<32)(a b:Int)(ha:U32 a)(hb':U32 b)(hq:qN c.m 13 a=false):
    Calls Tryz.prog 37 #[.agg (qA d),.agg #[.int .i64 46,.int .i64 kd,.int .i64 k1,.int .i64 k2,.int .i32 imm],.int .u32 a,.int .u32 b] w fun e w'=>∃d',e=.returned (.tuple #[.agg (qA d'),.bool false])∧qd w' d' (c.trap 3)∧(d'.vm=d.vm∨∀q,d'.vm.ownBlock=some q→w.heap.size≤q)∧d'.vo=d.vo∧Below w.heap.size w w':=by
  have d_ok:=hc.ok wf
  have HC:=lI hc
  have HL:=lI (fun W hW=>Qy d.vm c.m 13 a W hW ha wf.m.getD)
  have HA:=lI ha
  have HB:=lI hb'
  rw[hq]at HL
  go_enter Tryz.func37,Tryz.ntmps37
  go_upto_region 1 with(fail)
  show Code.wp _ _ _ _ (((w.alloc (.cells (qA d) 67)).alloc (.cells #[.int .i64 46,.int .i64 kd,.int .i64 k1,.int .i64 k2,.int .i32 imm] 82)).alloc (.cells (qA did0) 67))
  have hD:=DBox.begin2 (w:=w) (tD:=67) (d:=d) (z:=qA did0) (o:=.cells #[.int .i64 46,.int .i64 kd,.int .i64 k1,.int .i64 k2,.int .i32 imm] 82) (qT JZ)
  have hb0:Below w.heap.size w (((w.alloc (.cells (qA d) 67)).alloc (.cells #[.int .i64 46,.int .i64 kd,.int .i64 k1,.int .i64 k2,.int .i32 imm] 82)).alloc (.cells (qA did0) 67)):=Fb.blw
  have hs0:(((w.alloc (.cells (qA d) 67)).alloc (.cells #[.int .i64 46,.int .i64 kd,.int .i64 k1,.int .i64 k2,.int .i32 imm] 82)).alloc (.cells (qA did0) 67)).heap.size=w.heap.size+3:=zG
  have q0:(((w.alloc (.cells (qA d) 67)).alloc (.cells #[.int .i64 46,.int .i64 kd,.int .i64 k1,.int .i64 k2,.int .i32 imm] 82)).alloc (.cells (qA did0) 67)).cell? ⟨w.heap.size+1,0,none⟩=some (.int .i64 46):=yN
  have q1:(((w.alloc (.cells (qA d) 67)).alloc (.cells #[.int .i64 46,.int .i64 kd,.int .i64 k1,.int .i64 k2,.int .i32 imm] 82)).alloc (.cells (qA did0) 67)).cell? ⟨w.heap.size+1,1,none⟩=some (.int .i64 kd):=yN
  have q2:(((w.alloc (.cells (qA d) 67)).alloc (.cells #[.int .i64 46,.int .i64 kd,.int .i64 k1,.int .i64 k2,.int .i32 imm] 82)).alloc (.cells (qA did0) 67)).cell? ⟨w.heap.size+1,2,none⟩=some (.int .i64 k1):=yN
  have q3:(((w.alloc (.cells (qA d) 67)).alloc (.cells #[.int .i64 46,.int .i64 kd,.int .i64 k1,.int .i64 k2,.int .i32 imm] 82)).alloc (.cells (qA did0) 67)).cell? ⟨w.heap.size+1,3,none⟩=some (.int .i64 k2):=yN
  have q4:(((w.alloc (.cells (qA d) 67)).alloc (.cells #[.int .i64 46,.int .i64 kd,.int .i64 k1,.int .i64 k2,.int .i32 imm] 82)).alloc (.cells (qA did0) 67)).cell? ⟨w.heap.size+1,4,none⟩=some (.int .i32 imm):=yN
  generalize ((w.alloc (.cells (qA d) 67)).alloc (.cells #[.int .i64 46,.int .i64 kd,.int .i64 k1,.int .i64 k2,.int .i32 imm] 82)).alloc (.cells (qA did0) 67)=w1 at *
  have c37:w1.cell? ⟨w.heap.size,37,none⟩=some d.vm:=hD.get (jQ d_ok.len 0)
  have HD:=lI hD
  clear hD
  go_upto_region 3 with(go_at_call 27;refine(HL.out _ (HC.out.m.below hb0)).mono ?_;rintro e w2 ⟨rfl,rfl⟩)
  go_wp2_with (first|(refine qI rfl 67 _ rfl (w.heap.size) 0 rfl (qA d) _ HD.out.at_ Tryz.underlying67 rfl (qG d_ok) ?_))
  refine(JN d d_ok 3 _).mono ?_
  rintro e w2 ⟨rfl,hb2⟩
  have HD2:=lI (HD.out.below om om hb2)
  have d2_ok:(d.trap 3).Ok:=⟨d_ok.len,d_ok.m1,d_ok.o1⟩
  have hbe:=hb0.trans (hb2.mono om)
  clear hb2 c37 q0 q1 q2 q3 q4
  have ht:(w2).there (w.heap.size+2) 0 (qA (d.trap 3)).size:=wI
  have hld:=qQ (P:=Tryz.prog) ht Tryz.underlying67 rfl (qG d2_ok)
  go_wp2_with (first|(refine sT rfl 67 _ _ rfl (w.heap.size+2) 0 (qA (d.trap 3)) rfl rfl ht (qG d2_ok) (qX d2_ok) ?_))
  exact sP (QK zP _ zP hld) rfl ⟨_,rfl,(HC.out.below (qB om _ _ _ hbe)).trap 3,.inl rfl,rfl,qB om _ _ _ hbe⟩
theorem atom4_no(d:DidD)(c:qD)(w:World)(hc:qd w d c)(wf:c.Wf)(hl:c.m.length≤4096)(op:Int)(kd k1 k2:Nat)(imm:Int)(hop:47≤op∧op≤56)(hk:kd<32)(a b:Int)(ha:U32 a)(hb':U32 b)(hq:qN c.m 13 a=false):
    Calls Tryz.prog 37 #[.agg (qA d),.agg #[.int .i64 op,.int .i64 kd,.int .i64 k1,.int .i64 k2,.int .i32 imm],.int .u32 a,.int .u32 b] w fun e w'=>∃d',e=.returned (.tuple #[.agg (qA d'),.bool false])∧qd w' d' (c.trap 4)∧(d'.vm=d.vm∨∀q,d'.vm.ownBlock=some q→w.heap.size≤q)∧d'.vo=d.vo∧Below w.heap.size w w':=by
  have d_ok:=hc.ok wf
  have HC:=lI hc
  have HL:=lI (fun W hW=>Qy d.vm c.m 13 a W hW ha wf.m.getD)
  have HA:=lI ha
  have HB:=lI hb'
  obtain⟨o0,o1⟩:=hop
  have f46:(op==46)=false:=sH.2 om
  rw[hq]at HL
  go_enter Tryz.func37,Tryz.ntmps37
  go_upto_region 1 with(fail)
  show Code.wp _ _ _ _ (((w.alloc (.cells (qA d) 67)).alloc (.cells #[.int .i64 op,.int .i64 kd,.int .i64 k1,.int .i64 k2,.int .i32 imm] 82)).alloc (.cells (qA did0) 67))
  have hD:=DBox.begin2 (w:=w) (tD:=67) (d:=d) (z:=qA did0) (o:=.cells #[.int .i64 op,.int .i64 kd,.int .i64 k1,.int .i64 k2,.int .i32 imm] 82) (qT JZ)
  have hb0:Below w.heap.size w (((w.alloc (.cells (qA d) 67)).alloc (.cells #[.int .i64 op,.int .i64 kd,.int .i64 k1,.int .i64 k2,.int .i32 imm] 82)).alloc (.cells (qA did0) 67)):=Fb.blw
  have hs0:(((w.alloc (.cells (qA d) 67)).alloc (.cells #[.int .i64 op,.int .i64 kd,.int .i64 k1,.int .i64 k2,.int .i32 imm] 82)).alloc (.cells (qA did0) 67)).heap.size=w.heap.size+3:=zG
  have q0:(((w.alloc (.cells (qA d) 67)).alloc (.cells #[.int .i64 op,.int .i64 kd,.int .i64 k1,.int .i64 k2,.int .i32 imm] 82)).alloc (.cells (qA did0) 67)).cell? ⟨w.heap.size+1,0,none⟩=some (.int .i64 op):=yN
  have q1:(((w.alloc (.cells (qA d) 67)).alloc (.cells #[.int .i64 op,.int .i64 kd,.int .i64 k1,.int .i64 k2,.int .i32 imm] 82)).alloc (.cells (qA did0) 67)).cell? ⟨w.heap.size+1,1,none⟩=some (.int .i64 kd):=yN
  have q2:(((w.alloc (.cells (qA d) 67)).alloc (.cells #[.int .i64 op,.int .i64 kd,.int .i64 k1,.int .i64 k2,.int .i32 imm] 82)).alloc (.cells (qA did0) 67)).cell? ⟨w.heap.size+1,2,none⟩=some (.int .i64 k1):=yN
  have q3:(((w.alloc (.cells (qA d) 67)).alloc (.cells #[.int .i64 op,.int .i64 kd,.int .i64 k1,.int .i64 k2,.int .i32 imm] 82)).alloc (.cells (qA did0) 67)).cell? ⟨w.heap.size+1,3,none⟩=some (.int .i64 k2):=yN
  have q4:(((w.alloc (.cells (qA d) 67)).alloc (.cells #[.int .i64 op,.int .i64 kd,.int .i64 k1,.int .i64 k2,.int .i32 imm] 82)).alloc (.cells (qA did0) 67)).cell? ⟨w.heap.size+1,4,none⟩=some (.int .i32 imm):=yN
  generalize ((w.alloc (.cells (qA d) 67)).alloc (.cells #[.int .i64 op,.int .i64 kd,.int .i64 k1,.int .i64 k2,.int .i32 imm] 82)).alloc (.cells (qA did0) 67)=w1 at *
  have c37:w1.cell? ⟨w.heap.size,37,none⟩=some d.vm:=hD.get (jQ d_ok.len 0)
  have HD:=lI hD
  clear hD
  go_upto_region 5 with(go_at_call 27;refine(HL.out _ (HC.out.m.below hb0)).mono ?_;rintro e w2 ⟨rfl,rfl⟩)
  go_wp2_with (first|(refine qI rfl 67 _ rfl (w.heap.size) 0 rfl (qA d) _ HD.out.at_ Tryz.underlying67 rfl (qG d_ok) ?_))
  refine(JN d d_ok 4 _).mono ?_
  rintro e w2 ⟨rfl,hb2⟩
  have HD2:=lI (HD.out.below om om hb2)
  have d2_ok:(d.trap 4).Ok:=⟨d_ok.len,d_ok.m1,d_ok.o1⟩
  have hbe:=hb0.trans (hb2.mono om)
  clear hb2 c37 q0 q1 q2 q3 q4
  have ht:(w2).there (w.heap.size+2) 0 (qA (d.trap 4)).size:=wI
  have hld:=qQ (P:=Tryz.prog) ht Tryz.underlying67 rfl (qG d2_ok)
  go_wp2_with (first|(refine sT rfl 67 _ _ rfl (w.heap.size+2) 0 (qA (d.trap 4)) rfl rfl ht (qG d2_ok) (qX d2_ok) ?_))
  exact sP (QK zP _ zP hld) rfl ⟨_,rfl,(HC.out.below (qB om _ _ _ hbe)).trap 4,.inl rfl,rfl,qB om _ _ _ hbe⟩
theorem atom4_lr(d:DidD)(c:qD)(w:World)(hc:qd w d c)(wf:c.Wf)(hl:c.m.length≤4096)(kd k1 k2:Nat)(imm:Int)(hk:kd<32)(a b:Int)(ha:U32 a)(hb':U32 b)(hq:qN c.m 13 a=true):
    Calls Tryz.prog 37 #[.agg (qA d),.agg #[.int .i64 46,.int .i64 kd,.int .i64 k1,.int .i64 k2,.int .i32 imm],.int .u32 a,.int .u32 b] w fun e w'=>∃d',e=.returned (.tuple #[.agg (qA d'),.bool true])∧qd w' d' ((c.hold true a).set kd (qa c.m 13 a))∧(d'.vm=d.vm∨∀q,d'.vm.ownBlock=some q→w.heap.size≤q)∧d'.vo=d.vo∧Below w.heap.size w w':=by
  have d_ok:=hc.ok wf
  have HC:=lI hc
  have HL:=lI (fun W hW=>Qy d.vm c.m 13 a W hW ha wf.m.getD)
  have HA:=lI ha
  have HB:=lI hb'
  obtain⟨old,hold⟩:∃x,x=qa c.m 13 a:=⟨_,rfl⟩
  rw[hq,←hold]at HL
  have HLU:=lI (Ju c.m 13 a om ha wf.m.getD)
  rw[←hold]at HLU
  (try rw[←hold])
  go_enter Tryz.func37,Tryz.ntmps37
  go_upto_region 1 with(fail)
  show Code.wp _ _ _ _ (((w.alloc (.cells (qA d) 67)).alloc (.cells #[.int .i64 46,.int .i64 kd,.int .i64 k1,.int .i64 k2,.int .i32 imm] 82)).alloc (.cells (qA did0) 67))
  have hD:=DBox.begin2 (w:=w) (tD:=67) (d:=d) (z:=qA did0) (o:=.cells #[.int .i64 46,.int .i64 kd,.int .i64 k1,.int .i64 k2,.int .i32 imm] 82) (qT JZ)
  have hb0:Below w.heap.size w (((w.alloc (.cells (qA d) 67)).alloc (.cells #[.int .i64 46,.int .i64 kd,.int .i64 k1,.int .i64 k2,.int .i32 imm] 82)).alloc (.cells (qA did0) 67)):=Fb.blw
  have hs0:(((w.alloc (.cells (qA d) 67)).alloc (.cells #[.int .i64 46,.int .i64 kd,.int .i64 k1,.int .i64 k2,.int .i32 imm] 82)).alloc (.cells (qA did0) 67)).heap.size=w.heap.size+3:=zG
  have q0:(((w.alloc (.cells (qA d) 67)).alloc (.cells #[.int .i64 46,.int .i64 kd,.int .i64 k1,.int .i64 k2,.int .i32 imm] 82)).alloc (.cells (qA did0) 67)).cell? ⟨w.heap.size+1,0,none⟩=some (.int .i64 46):=yN
  have q1:(((w.alloc (.cells (qA d) 67)).alloc (.cells #[.int .i64 46,.int .i64 kd,.int .i64 k1,.int .i64 k2,.int .i32 imm] 82)).alloc (.cells (qA did0) 67)).cell? ⟨w.heap.size+1,1,none⟩=some (.int .i64 kd):=yN
  have q2:(((w.alloc (.cells (qA d) 67)).alloc (.cells #[.int .i64 46,.int .i64 kd,.int .i64 k1,.int .i64 k2,.int .i32 imm] 82)).alloc (.cells (qA did0) 67)).cell? ⟨w.heap.size+1,2,none⟩=some (.int .i64 k1):=yN
  have q3:(((w.alloc (.cells (qA d) 67)).alloc (.cells #[.int .i64 46,.int .i64 kd,.int .i64 k1,.int .i64 k2,.int .i32 imm] 82)).alloc (.cells (qA did0) 67)).cell? ⟨w.heap.size+1,3,none⟩=some (.int .i64 k2):=yN
  have q4:(((w.alloc (.cells (qA d) 67)).alloc (.cells #[.int .i64 46,.int .i64 kd,.int .i64 k1,.int .i64 k2,.int .i32 imm] 82)).alloc (.cells (qA did0) 67)).cell? ⟨w.heap.size+1,4,none⟩=some (.int .i32 imm):=yN
  generalize ((w.alloc (.cells (qA d) 67)).alloc (.cells #[.int .i64 46,.int .i64 kd,.int .i64 k1,.int .i64 k2,.int .i32 imm] 82)).alloc (.cells (qA did0) 67)=w1 at *
  have c37:w1.cell? ⟨w.heap.size,37,none⟩=some d.vm:=hD.get (jQ d_ok.len 0)
  have c33:=hD.get (Qb (hlist_held' d_ok.len))
  have c34:=hD.get (Qb (uW d_ok.len))
  have f33:=hD.frz 33
  have f34:=hD.frz 34
  obtain⟨d1,hd1⟩:∃d1,d1=({d with h:={d.h with held:=true,heldAt:=a}}:DidD):=⟨_,rfl⟩
  have d1_ok:d1.Ok:=by rw[hd1];exact⟨d_ok.len,d_ok.m1,d_ok.o1⟩
  have HD1:Hid (DBox w.heap.size (w.heap.size+2) 67 ((w1.setCell ⟨w.heap.size,33,none⟩ (.bool true)).setCell ⟨w.heap.size,34,none⟩ (.int .u32 a)) d1):=lI (by
    rw[hd1]
    exact(hD.set (d':={d with h:={d.h with held:=true}}) 33 (.bool true) (by rw[Qi d_ok];omega) (qq (Ql d_ok.len true) (by rw[QR d_ok.len];omega))).set 34 (.int .u32 a) (by simp[jE,dtail,qJ,d_ok.len]) (qq (d:={d with h:={d.h with held:=true}}) (QU (h:={d.h with held:=true}) d_ok.len a) (by simp[qJ,d_ok.len])))
  have hbz:=(hb0.setCell (p:=⟨w.heap.size,33,none⟩) (sO _) (.bool true)).setCell (p:=⟨w.heap.size,34,none⟩) (sO _) (.int .u32 a)
  have HDC1:Hid (d1={d with h:={d.h with held:=true,heldAt:=a}}):=lI hd1
  have r1:((w1.setCell ⟨w.heap.size,33,none⟩ (.bool true)).setCell ⟨w.heap.size,34,none⟩ (.int .u32 a)).cell? ⟨w.heap.size+1,1,none⟩=some (.int .i64 kd):=((sJ _ _ _ _ yL).trans (sJ _ _ _ _ yL)).trans q1
  have HSZ:w.heap.size+3≤(((w1.setCell ⟨w.heap.size,33,none⟩ (.bool true)).setCell ⟨w.heap.size,34,none⟩ (.int .u32 a))).heap.size:=zB
  clear hD hd1 hold
  go_upto_region 7 with(go_at_call 27;refine(HL.out _ (HC.out.m.below hb0)).mono ?_;rintro e w2 ⟨rfl,rfl⟩)
  go_upto_region 9 with(fail)
  clear c37 c33 c34 f33 f34
  generalize ((w1.setCell ⟨w.heap.size,33,none⟩ (.bool true)).setCell ⟨w.heap.size,34,none⟩ (.int .u32 a))=wz at *
  go_wp2_with (first|(refine qI rfl 67 _ rfl (w.heap.size) 0 rfl (qA d1) _ HD1.out.at_ Tryz.underlying67 rfl (qG d1_ok) ?_))
  refine(jq d1 d1_ok kd hk old _).mono ?_
  rintro e w2 ⟨rfl,hb2⟩
  have hsz:w.heap.size+3≤wz.heap.size:=HSZ
  have HD2:=lI (HD1.out.below om om hb2)
  have d2_ok:(d1.set kd old).Ok:=d1_ok.setReg _ _
  have hbe:=hbz.trans (hb2.mono om)
  clear hb2 q0 q2 q3 q4 r1
  have ht:(w2).there (w.heap.size+2) 0 (qA (d1.set kd old)).size:=wI
  have hld:=qQ (P:=Tryz.prog) ht Tryz.underlying67 rfl (qG d2_ok)
  go_wp2_with (first|(refine sT rfl 67 _ _ rfl (w.heap.size+2) 0 (qA (d1.set kd old)) rfl rfl ht (qG d2_ok) (qX d2_ok) ?_))
  refine sP (QK zP _ zP hld) rfl ⟨_,rfl, ?_,.inl ?_, ?_,qB om _ _ _ hbe⟩
  · rw[HDC1.out]
    exact((HC.out.below (qB om _ _ _ hbe)).hold true a).set kd old
  · rw[HDC1.out];rfl
  · rw[HDC1.out];rfl
end Go.Proofs.YtlfnddmncbkjaacGreat.W
