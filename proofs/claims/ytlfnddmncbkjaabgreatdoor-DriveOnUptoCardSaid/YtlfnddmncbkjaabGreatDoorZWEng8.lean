import Derived.Test.YtlfnddmncbkjaabGreatDoorZWEng7
set_option linter.unusedVariables false
set_option linter.unusedSimpArgs false
set_option maxRecDepth 100000
set_option maxHeartbeats 4000000
namespace Go.Proofs.YtlfnddmncbkjaabGreatDoor.Fb
open Go.RowKit
def engQ(m:Mach)(l:List (Int × Int))(room:Int):Int:=if qj m l=0 then(if room<0∨64<room then 3 else 0)else qj m l
def EngZero(vm vh vo v:Value)(rm pu st steps:Int):Prop:=vm=.slice none 0 0∧vh=.slice none 0 0∧vo=.slice none 0 0∧v=.slice none 0 0∧rm=0∧pu=0∧st=0∧steps=0
end Go.Proofs.YtlfnddmncbkjaabGreatDoor.Fb
namespace Go.Proofs.YtlfnddmncbkjaabGreatDoor.W
open Go.RowKit Fb
theorem erun_bad(vm0 vh0 vs:Value)(m:Mach)(wf:m.Wf)(l:List (Int × Int))(room:Int)(w:World)(hm:jw w vm0 vh0 m)(hs:Picks w vs l)(hp:∀p∈l,QY p.1∧QY p.2)(hr:QY room)(hq:¬engQ m l room=0):
    Calls Tryz.prog 13 #[.agg #[vm0,vh0],vs,.int .i64 room] w fun e w'=>e=.returned (.tuple #[.agg #[.slice none 0 0,.slice none 0 0,.slice none 0 0,.int .i64 0],.agg #[.int .i64 0,.slice none 0 0,.int .i64 0,.int .i64 0],.int .i64 (engQ m l room)])∧Below w.heap.size w w':=by
  obtain⟨aom,capm,rfl,hcm,hmm,_,_⟩:=hm.1.open
  obtain⟨aoh,caph,rfl,hch,hmh,_,_⟩:=hm.2.open (fun h hh=>qG (wf.harts h hh)) om
  obtain⟨aos,caps,rfl,hcs,hms,_,hos⟩:=hs.open (fun _ _=>rfl) om
  unfold maxLen at hmm hmh hms
  obtain⟨w1,hw1⟩:∃w1,w1=((w.alloc (.cells #[.slice aom m.mem.length capm,.slice aoh m.harts.length caph] 30)).alloc (.cells #[.slice none 0 0,.slice none 0 0,.slice none 0 0,.int .i64 0] 50)).alloc (.cells #[.int .i64 0,.slice none 0 0,.int .i64 0,.int .i64 0] 53):=⟨_,rfl⟩
  have hb1:Below w.heap.size w w1:=zI
  have hs1:w1.heap.size=w.heap.size+3:=zO
  have c0:w1.cell? ⟨w.heap.size,0,none⟩=some (.slice aom m.mem.length capm):=zA
  have c1:w1.cell? ⟨w.heap.size,1,none⟩=some (.slice aoh m.harts.length caph):=zA
  have hz1:w1.heap[w.heap.size+1]? =some (.cells #[.slice none 0 0,.slice none 0 0,.slice none 0 0,.int .i64 0] 50 (0,0)):=by
    have:=sP (w.alloc (.cells #[.slice aom m.mem.length capm,.slice aoh m.harts.length caph] 30)) (.cells #[.slice none 0 0,.slice none 0 0,.slice none 0 0,.int .i64 0] 50)
    rw[World.size_alloc]at this
    rw[hw1];exact(heap_alloc_old _ _ zC).trans this
  have hz2:w1.heap[w.heap.size+2]? =some (.cells #[.int .i64 0,.slice none 0 0,.int .i64 0,.int .i64 0] 53 (0,0)):=by
    have:=sP ((w.alloc (.cells #[.slice aom m.mem.length capm,.slice aoh m.harts.length caph] 30)).alloc (.cells #[.slice none 0 0,.slice none 0 0,.slice none 0 0,.int .i64 0] 50)) (.cells #[.int .i64 0,.slice none 0 0,.int .i64 0,.int .i64 0] 53)
    rw[World.size_alloc,World.size_alloc]at this
    rw[hw1];exact this
  have HMAY:=lI (uD _ _ _ m wf l w1 (hm.below hb1) (hs.below hb1) hp)
  have HNEW:=lI (fun W=>cnew_any room W hr)
  obtain⟨q,hqq⟩:∃q,q=engQ m l room:=⟨_,rfl⟩
  rw[←hqq]at hq ⊢
  have HFIN:Hid (∀W:World,Below w1.heap.size w1 W→∃W':World,W'=(W.setCells (w.heap.size+1) 0 [.slice none 0 0,.slice none 0 0,.slice none 0 0,.int .i64 0]).setCells (w.heap.size+2) 0 [.int .i64 0,.slice none 0 0,.int .i64 0,.int .i64 0]∧(loadVar 50 ⟨w.heap.size+1,0,none⟩).run Tryz.prog W'=.ok (.agg #[.slice none 0 0,.slice none 0 0,.slice none 0 0,.int .i64 0]) W'∧(loadVar 53 ⟨w.heap.size+2,0,none⟩).run Tryz.prog W'=.ok (.agg #[.int .i64 0,.slice none 0 0,.int .i64 0,.int .i64 0]) W'∧Below w.heap.size w W'):=lI (fun W hW=>by
    have h1:W.heap[w.heap.size+1]? =_:=(hW.block _ om).trans hz1
    have h2:W.heap[w.heap.size+2]? =_:=(hW.block _ om).trans hz2
    obtain⟨wy,hwy⟩:∃wy,wy=W.setCells (w.heap.size+1) 0 [.slice none 0 0,.slice none 0 0,.slice none 0 0,.int .i64 0]:=⟨_,rfl⟩
    obtain⟨wz,hwz⟩:∃wz,wz=wy.setCells (w.heap.size+2) 0 [.int .i64 0,.slice none 0 0,.int .i64 0,.int .i64 0]:=⟨_,rfl⟩
    have hy2:wy.heap[w.heap.size+2]? =W.heap[w.heap.size+2]? :=by rw[hwy];exact qT om _ _ _
    have hat1:At wz (w.heap.size+1) 0 [.slice none 0 0,.slice none 0 0,.slice none 0 0,.int .i64 0]:=by rw[hwz];exact uN om _ _ _ (by rw[hwy];exact qv (qt h1 rfl))
    have hat2:At wz (w.heap.size+2) 0 [.int .i64 0,.slice none 0 0,.int .i64 0,.int .i64 0]:=by rw[hwz];exact qv (qt (hy2.trans h2) rfl)
    refine⟨wz,by rw[hwz,hwy],QL wz (w.heap.size+1) 0 50 #[.slice none 0 0,.slice none 0 0,.slice none 0 0,.int .i64 0] _ hat1 Tryz.underlying50 rfl kr,QL wz (w.heap.size+2) 0 53 #[.int .i64 0,.slice none 0 0,.int .i64 0,.int .i64 0] _ hat2 Tryz.underlying53 rfl kr, ?_⟩
    rw[hwz,hwy]
    exact qL om _ _ _ (qL om _ _ _ (hb1.trans (hW.mono om))))
  have HW1:=lI hw1
  have HZ:=lI (And.intro hz1 hz2)
  clear hw1 hm hs hp hb1 hz1 hz2 hos
  by_cases hw0:qj m l=0
  · have hrm:room<0∨64<room:=by
      unfold engQ at hqq
      rw[if_pos hw0]at hqq
      by_cases h:room<0∨64<room
      · exact h
      · rw[if_neg h]at hqq;exact absurd hqq hq
    have hq3:q=3:=by unfold engQ at hqq;rw[if_pos hw0,if_pos hrm]at hqq;exact hqq
    rw[if_pos hrm,if_pos hrm]at HNEW
    rw[hw0]at HMAY
    subst hq3
    clear hqq hrm hw0 hq
    go_enter Tryz.func13,Tryz.ntmps13
    go_upto_region 1 with(fail)
    rw[←HW1.out]
    go_wp2_with fail
    refine HMAY.out.mono ?_
    rintro e w2 ⟨rfl,hb2⟩
    have hs2:=hb2.size
    have HB2:=lI hb2
    clear hb2 c0 c1
    go_wp2_with fail
    refine(HNEW.out _).mono ?_
    rintro e w3 ⟨rfl,hb3⟩
    have hs3:=hb3.size
    obtain⟨w4,hw4⟩:∃w4,w4=w3.alloc (.cells #[.int .i64 0,.slice none 0 0,.int .i64 0,.int .i64 0] 53):=⟨_,rfl⟩
    have hb4:Below w3.heap.size w3 w4:=by rw[hw4];exact Below.alloc br (sN _) _
    have hb14:Below w1.heap.size w1 w4:=(HB2.out.trans (hb3.mono hs2)).trans (hb4.mono om)
    obtain⟨W',hW',hl1,hl2,hbw⟩:=HFIN.out w4 hb14
    have y1:=(hb14.block (w.heap.size+1) om).trans HZ.out.1
    have y2:=(hb14.block (w.heap.size+2) om).trans HZ.out.2
    have HW4:=lI hw4
    clear hw4 hb3 hb4 hb14 HMAY HNEW HFIN HZ
    go_upto_region 5 with(fail)
    rw[←HW4.out]
    have a0:=qh (o:=0) y1 rfl
    have a1:=qh (o:=1) y1 rfl
    have a2:=qh (o:=2) y1 rfl
    have a3:=qh (o:=3) y1 rfl
    have b0:=qh (o:=0) y2 rfl
    have b1:=qh (o:=1) y2 rfl
    have b2:=qh (o:=2) y2 rfl
    have b3:=qh (o:=3) y2 rfl
    have fy:∀o,w4.frozen? ⟨w.heap.size+1,o,none⟩=false:=fun o=>by simp[World.frozen?,y1]
    have fx:∀o,w4.frozen? ⟨w.heap.size+2,o,none⟩=false:=fun o=>by simp[World.frozen?,y2]
    clear y1 y2
    go_wp2_with fail
    have e:W'=((((((((w4.setCell ⟨w.heap.size+1,0,none⟩ (.slice none 0 0)).setCell ⟨w.heap.size+1,1,none⟩ (.slice none 0 0)).setCell ⟨w.heap.size+1,2,none⟩ (.slice none 0 0)).setCell ⟨w.heap.size+1,3,none⟩ (.int .i64 0)).setCell ⟨w.heap.size+1+1,0,none⟩ (.int .i64 0)).setCell ⟨w.heap.size+1+1,1,none⟩ (.slice none 0 0)).setCell ⟨w.heap.size+1+1,2,none⟩ (.int .i64 0)).setCell ⟨w.heap.size+1+1,3,none⟩ (.int .i64 0)):=hW'
    rw[←e]
    clear e hW'
    exact sO (results_cc zK _ zK hl1 zK hl2) rfl ⟨rfl,hbw⟩
  · have hqw:q=qj m l:=by unfold engQ at hqq;rw[if_neg hw0]at hqq;exact hqq
    rw[←hqw]at HMAY
    clear hqq hqw hw0
    go_enter Tryz.func13,Tryz.ntmps13
    go_upto_region 1 with(fail)
    rw[←HW1.out]
    go_wp2_with fail
    refine HMAY.out.mono ?_
    rintro e w2 ⟨rfl,hb2⟩
    have hs2:=hb2.size
    obtain⟨W',hW',hl1,hl2,hbw⟩:=HFIN.out w2 hb2
    have y1:=(hb2.block (w.heap.size+1) om).trans HZ.out.1
    have y2:=(hb2.block (w.heap.size+2) om).trans HZ.out.2
    have a0:=qh (o:=0) y1 rfl
    have a1:=qh (o:=1) y1 rfl
    have a2:=qh (o:=2) y1 rfl
    have a3:=qh (o:=3) y1 rfl
    have b0:=qh (o:=0) y2 rfl
    have b1:=qh (o:=1) y2 rfl
    have b2:=qh (o:=2) y2 rfl
    have b3:=qh (o:=3) y2 rfl
    have fy:∀o,w2.frozen? ⟨w.heap.size+1,o,none⟩=false:=fun o=>by simp[World.frozen?,y1]
    have fx:∀o,w2.frozen? ⟨w.heap.size+2,o,none⟩=false:=fun o=>by simp[World.frozen?,y2]
    clear y1 y2 HMAY HNEW HFIN HZ c0 c1 hb2
    go_wp2_with fail
    have e:W'=((((((((w2.setCell ⟨w.heap.size+1,0,none⟩ (.slice none 0 0)).setCell ⟨w.heap.size+1,1,none⟩ (.slice none 0 0)).setCell ⟨w.heap.size+1,2,none⟩ (.slice none 0 0)).setCell ⟨w.heap.size+1,3,none⟩ (.int .i64 0)).setCell ⟨w.heap.size+1+1,0,none⟩ (.int .i64 0)).setCell ⟨w.heap.size+1+1,1,none⟩ (.slice none 0 0)).setCell ⟨w.heap.size+1+1,2,none⟩ (.int .i64 0)).setCell ⟨w.heap.size+1+1,3,none⟩ (.int .i64 0)):=hW'
    rw[←e]
    clear e hW'
    exact sO (results_cc zK _ zK hl1 zK hl2) rfl ⟨rfl,hbw⟩
theorem erun_own(vm0 vh0 vs:Value)(m:Mach)(wf:m.Wf)(l:List (Int × Int))(room:Int)(w:World)(hm:jw w vm0 vh0 m)(hs:Picks w vs l)(hp:∀p∈l,QY p.1∧QY p.2)(hr:QY room):
    Calls Tryz.prog 13 #[.agg #[vm0,vh0],vs,.int .i64 room] w fun e w'=>(∃vm vh vo v rm pu st zs steps,e=.returned (.tuple #[.agg #[vm,vh,vo,.int .i64 steps],.agg #[.int .i64 rm,v,.int .i64 pu,.int .i64 st],.int .i64 (engQ m l room)])∧((engQ m l room=0∧rm=room∧steps=((qw l (qN m)).steps:Int)∧ERun w' vm vh vo v m l room pu st zs∧w'.ownsRow w.heap.size 5 1 vm (qw l (qN m)).mem.length ((qw l (qN m)).mem.map (Value.int .u8))∧w'.ownsRow w.heap.size 43 37 vh (qw l (qN m)).harts.length ((qw l (qN m)).harts.flatMap qJ)∧∀q,vo.ownBlock=some q→w.heap.size≤q)∨(engQ m l room≠0∧EngZero vm vh vo v rm pu st steps)))∧Below w.heap.size w w':=by
  by_cases hq:engQ m l room=0
  · rw[hq]
    have hw:qj m l=0:=by
      unfold engQ at hq
      by_cases h:qj m l=0
      · exact h
      · rw[if_neg h]at hq;exact absurd hq h
    have hrm:0≤room∧room≤64:=by
      unfold engQ at hq
      rw[if_pos hw]at hq
      by_cases h:room<0∨64<room
      · rw[if_pos h]at hq;cases hq
      · omega
    refine(erun_ok vm0 vh0 vs m wf l room w hm hs hp hrm.1 hrm.2 hw).mono ?_
    rintro e w' ⟨⟨vm,vh,vo,v,pu,st,zs,h1,h2,h3⟩,hb⟩
    exact⟨⟨vm,vh,vo,v,room,pu,st,zs,_,h1,.inl ⟨rfl,rfl,rfl,h2,h3⟩⟩,hb⟩
  · refine(erun_bad vm0 vh0 vs m wf l room w hm hs hp hr hq).mono ?_
    rintro e w' ⟨h1,hb⟩
    exact⟨⟨_,_,_,_,_,_,_,[],_,h1,.inr ⟨hq,rfl,rfl,rfl,rfl,rfl,rfl,rfl,rfl⟩⟩,hb⟩
end Go.Proofs.YtlfnddmncbkjaabGreatDoor.W
