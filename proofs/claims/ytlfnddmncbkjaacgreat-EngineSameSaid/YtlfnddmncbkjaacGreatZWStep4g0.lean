import Derived.Test.YtlfnddmncbkjaacGreatZGX
import Derived.Test.YtlfnddmncbkjaacGreatZWDecode2
set_option linter.unusedVariables false
set_option linter.unusedSimpArgs false
set_option maxRecDepth 100000
set_option maxHeartbeats 4000000
namespace Go.Proofs.YtlfnddmncbkjaacGreat.W
open Go.RowKit Fb
theorem step4_nofetch(h:Hart)(wf:h.Wf)(v:Value)(l:List Int)(w:World)(hv:Ints .u8 w v l)(hb:QP l)(hl:l.length≤4096)(hok:qN l 13 h.pc=false):
    Calls Tryz.prog 18 #[.agg (qL h),v] w fun e w'=>∃d',e=.returned (.agg (qA d'))∧qd w' d' ((⟨h,l,[],0,0⟩:qD).trap 1)∧(d'.vm=v∨∀q,d'.vm.ownBlock=some q→w.heap.size≤q)∧(∀q,d'.vo.ownBlock=some q→w.heap.size≤q)∧Below w.heap.size w w':=by
  obtain⟨ao,cap,hve,_⟩:=hv.open
  have HV:=lI hv
  have wfc:((⟨h,l,[],0,0⟩:qD)).Wf:=⟨wf,hb,by simp,(⟨by decide,by decide⟩:U32 0),(⟨by decide,by decide⟩:U32 0),xZ,by simp⟩
  obtain⟨d0,hd0⟩:∃d0,d0=(⟨h,v,.slice none 0 0,0,0⟩:DidD):=⟨_,rfl⟩
  have d0_ok:d0.Ok:=wA
  have HBD:=lI (fun W=>UB h wf.len v hv.one ao _ cap hve W)
  rw[←hd0]at HBD
  have hbox:At (w.alloc (.cells (qL h) 46)) w.heap.size 0 (qJ h):=Qf w (qJ h) 46 (0,0)
  have hsz:(Tryz.prog.info? 46).map (·.size)=some (qL h).size:=wK
  have HDO:Hid (∀W,Ints .u8 W v l→qd W d0 (⟨h,l,[],0,0⟩:qD)):=lI (fun W hW=>by rw[hd0];exact⟨rfl,hW,Sl.nil _ _,rfl,rfl⟩)
  have HD0E:=lI hd0
  subst hve
  clear hv hd0
  go_enter Tryz.func18,Tryz.ntmps18
  go_upto_region 1 with(fail)
  show Code.wp _ _ _ _ ((w.alloc (.cells (qL h) 46)).alloc (.cells (qA did0) 67))
  have hb1:At ((w.alloc (.cells (qL h) 46)).alloc (.cells (qA did0) 67)) w.heap.size 0 (qJ h):=hbox.below Fb.blw
  have hbz1:Below w.heap.size w ((w.alloc (.cells (qL h) 46)).alloc (.cells (qA did0) 67)):=Fb.blw
  have hs1:(((w.alloc (.cells (qL h) 46)).alloc (.cells (qA did0) 67))).heap.size=w.heap.size+2:=zG
  have hR1:=Jn h (w:=w) (tH:=46) (tD:=67)
  generalize ((w.alloc (.cells (qL h) 46)).alloc (.cells (qA did0) 67))=w1 at *
  have HSZ1:=lI hs1
  clear hs1
  go_upto_region 2 with(first|(refine qI rfl 46 _ rfl w.heap.size 0 rfl (qL h) _ hb1 Tryz.underlying46 rfl hsz ?_)|(refine JE rfl 67 _ rfl #[(0,.agg (qL h)),(1,.slice ao l.length cap)] wC _ (HBD.out _) ?_)|(refine Qw rfl 67 _ _ rfl w1 _ (qA d0) rfl rfl rfl (qG d0_ok) wR (Jx d0_ok) ?_))
  have hs1:=HSZ1.out
  have hD:=DBox.begin3 (w:=w1) (tD:=67) (d:=d0) hR1 om
  have hb2:=hb1.below (Below.alloc br (sO _) (.cells (qA d0) 67))
  have hbz2:Below w.heap.size w (w1.alloc (.cells (qA d0) 67)):=hbz1.trans (Below.alloc br om _)
  have hs2:(w1.alloc (.cells (qA d0) 67)).heap.size=w.heap.size+3:=zB
  rw[hs1]at hD
  have e12:w1.heap.size=w.heap.size+2:=hs1
  rw[e12]
  generalize w1.alloc (.cells (qA d0) 67)=w2 at *
  have hpc:=hb2.get (qe wf)
  simp only[sM]at hpc
  clear hb1 hbz1 hs1 hR1 e12
  have HL:=lI (fun W hW=>Qy (.slice ao l.length cap) l 13 h.pc W hW wf.pc hb.getD)
  rw[hok]at HL
  go_upto_region 4 with(go_at_call 27;refine(HL.out _ (HV.out.below hbz2)).mono ?_;rintro e w3 ⟨rfl,rfl⟩)
  have HD:=lI hD
  go_wp2_with (first|(refine qI rfl 67 _ rfl (w.heap.size+2) 0 rfl (qA d0) _ HD.out.at_ Tryz.underlying67 rfl (qG d0_ok) ?_))
  refine(JN d0 d0_ok 1 _).mono ?_
  rintro e w3 ⟨rfl,hb3⟩
  have HD2:=lI (HD.out.below om om hb3)
  have d1_ok:(d0.trap 1).Ok:=⟨d0_ok.len,d0_ok.m1,d0_ok.o1⟩
  have hbe:=hbz2.trans (hb3.mono om)
  clear hb3 hD hpc
  have ht:(w3).there (w.heap.size+1) 0 (qA (d0.trap 1)).size:=by rw[qT d1_ok];exact HD2.out.there
  have hld:=qQ (P:=Tryz.prog) ht Tryz.underlying67 rfl (qG d1_ok)
  go_wp2_with (first|(refine sT rfl 67 _ _ rfl (w.heap.size+1) 0 (qA (d0.trap 1)) rfl rfl ht (qG d1_ok) (qX d1_ok) ?_))
  refine sP (qk zP _ zP hld) rfl ⟨_,rfl,(HDO.out _ (HV.out.below (qB om _ _ _ hbe))).trap 1,.inl ?_, ?_,qB om _ _ _ hbe⟩
  · rw[HD0E.out];rfl
  · rw[HD0E.out];intro q e;cases e
end Go.Proofs.YtlfnddmncbkjaacGreat.W
