import Derived.Test.YtlfnddmncbkjaacGreatZWEng7
set_option linter.unusedVariables false
set_option linter.unusedSimpArgs false
set_option maxRecDepth 100000
set_option maxHeartbeats 4000000
namespace Go.Proofs.YtlfnddmncbkjaacGreat.Fb
open Go.RowKit
def engQ(m:Mach)(l:List (Int × Int))(room:Int):Int:=if QQ m l=0 then(if room<0∨64<room then 3 else 0)else QQ m l
def EngZero(vm vh vo v:Value)(rm pu st steps:Int):Prop:=vm=.slice none 0 0∧vh=.slice none 0 0∧vo=.slice none 0 0∧v=.slice none 0 0∧rm=0∧pu=0∧st=0∧steps=0
end Go.Proofs.YtlfnddmncbkjaacGreat.Fb
namespace Go.Proofs.YtlfnddmncbkjaacGreat.W
open Go.RowKit Fb
theorem erun_bad(vm0 vh0 vs:Value)(m:Mach)(wf:m.Wf)(l:List (Int × Int))(room:Int)(w:World)(hm:jp w vm0 vh0 m)(hs:Picks w vs l)(hp:∀p∈l,QW p.1∧QW p.2)(hr:QW room)(hq:¬engQ m l room=0):
    Calls Tryz.prog 6 #[.agg #[vm0,vh0],vs,.int .i64 room] w fun e w'=>e=.returned (.tuple #[.agg #[.slice none 0 0,.slice none 0 0,.slice none 0 0,.int .i64 0],.agg #[.int .i64 0,.slice none 0 0,.int .i64 0,.int .i64 0],.int .i64 (engQ m l room)])∧Below w.heap.size w w':=by
  obtain⟨aom,capm,rfl,hcm,hmm,_,_⟩:=hm.1.open
  obtain⟨aoh,caph,rfl,hch,hmh,_,_⟩:=hm.2.open (fun h hh=>qO (wf.harts h hh)) om
  obtain⟨aos,caps,rfl,hcs,hms,_,hos⟩:=hs.open (fun _ _=>rfl) om
  unfold maxLen at hmm hmh hms
  obtain⟨w1,hw1⟩:∃w1,w1=((w.alloc (.cells #[.slice aom m.mem.length capm,.slice aoh m.harts.length caph] 25)).alloc (.cells #[.slice none 0 0,.slice none 0 0,.slice none 0 0,.int .i64 0] 32)).alloc (.cells #[.int .i64 0,.slice none 0 0,.int .i64 0,.int .i64 0] 35):=⟨_,rfl⟩
  have hb1:Below w.heap.size w w1:=zK
  have hs1:w1.heap.size=w.heap.size+3:=yD
  have c0:w1.cell? ⟨w.heap.size,0,none⟩=some (.slice aom m.mem.length capm):=zA
  have c1:w1.cell? ⟨w.heap.size,1,none⟩=some (.slice aoh m.harts.length caph):=zA
  have hz1:w1.heap[w.heap.size+1]? =some (.cells #[.slice none 0 0,.slice none 0 0,.slice none 0 0,.int .i64 0] 32 (0,0)):=by
    have:=sQ (w.alloc (.cells #[.slice aom m.mem.length capm,.slice aoh m.harts.length caph] 25)) (.cells #[.slice none 0 0,.slice none 0 0,.slice none 0 0,.int .i64 0] 32)
    rw[World.size_alloc]at this
    rw[hw1];exact(sR _ _ zG).trans this
  have hz2:w1.heap[w.heap.size+2]? =some (.cells #[.int .i64 0,.slice none 0 0,.int .i64 0,.int .i64 0] 35 (0,0)):=by
    have:=sQ ((w.alloc (.cells #[.slice aom m.mem.length capm,.slice aoh m.harts.length caph] 25)).alloc (.cells #[.slice none 0 0,.slice none 0 0,.slice none 0 0,.int .i64 0] 32)) (.cells #[.int .i64 0,.slice none 0 0,.int .i64 0,.int .i64 0] 35)
    rw[World.size_alloc,World.size_alloc]at this
    rw[hw1];exact this
  have HMAY:=lI (machmay_any _ _ _ m wf l w1 (hm.below hb1) (hs.below hb1) hp)
  have HNEW:=lI (fun W=>cnew_any room W hr)
  obtain⟨q,hqq⟩:∃q,q=engQ m l room:=⟨_,rfl⟩
  rw[←hqq]at hq ⊢
  have HFIN:Hid (∀W:World,Below w1.heap.size w1 W→∃W':World,W'=(W.setCells (w.heap.size+1) 0 [.slice none 0 0,.slice none 0 0,.slice none 0 0,.int .i64 0]).setCells (w.heap.size+2) 0 [.int .i64 0,.slice none 0 0,.int .i64 0,.int .i64 0]∧(loadVar 32 ⟨w.heap.size+1,0,none⟩).run Tryz.prog W'=.ok (.agg #[.slice none 0 0,.slice none 0 0,.slice none 0 0,.int .i64 0]) W'∧(loadVar 35 ⟨w.heap.size+2,0,none⟩).run Tryz.prog W'=.ok (.agg #[.int .i64 0,.slice none 0 0,.int .i64 0,.int .i64 0]) W'∧Below w.heap.size w W'):=lI (fun W hW=>by
    have h1:W.heap[w.heap.size+1]? =_:=(hW.block _ om).trans hz1
    have h2:W.heap[w.heap.size+2]? =_:=(hW.block _ om).trans hz2
    obtain⟨wy,hwy⟩:∃wy,wy=W.setCells (w.heap.size+1) 0 [.slice none 0 0,.slice none 0 0,.slice none 0 0,.int .i64 0]:=⟨_,rfl⟩
    obtain⟨wz,hwz⟩:∃wz,wz=wy.setCells (w.heap.size+2) 0 [.int .i64 0,.slice none 0 0,.int .i64 0,.int .i64 0]:=⟨_,rfl⟩
    have hy2:wy.heap[w.heap.size+2]? =W.heap[w.heap.size+2]? :=by rw[hwy];exact QJ om _ _ _
    have hat1:At wz (w.heap.size+1) 0 [.slice none 0 0,.slice none 0 0,.slice none 0 0,.int .i64 0]:=by rw[hwz];exact uT om _ _ _ (by rw[hwy];exact jF (Qd h1 rfl))
    have hat2:At wz (w.heap.size+2) 0 [.int .i64 0,.slice none 0 0,.int .i64 0,.int .i64 0]:=by rw[hwz];exact jF (Qd (hy2.trans h2) rfl)
    refine⟨wz,by rw[hwz,hwy],Qm wz (w.heap.size+1) 0 32 #[.slice none 0 0,.slice none 0 0,.slice none 0 0,.int .i64 0] _ hat1 Tryz.underlying32 rfl kr,Qm wz (w.heap.size+2) 0 35 #[.int .i64 0,.slice none 0 0,.int .i64 0,.int .i64 0] _ hat2 Tryz.underlying35 rfl kr, ?_⟩
    rw[hwz,hwy]
    exact qB om _ _ _ (qB om _ _ _ (hb1.trans (hW.mono om))))
  have HW1:=lI hw1
  have HZ:=lI (And.intro hz1 hz2)
  clear hw1 hm hs hp hb1 hz1 hz2 hos
  by_cases hw0:QQ m l=0
  · have hrm:room<0∨64<room:=by
      unfold engQ at hqq
      rw[if_pos hw0]at hqq
      by_cases h:room<0∨64<room
      · exact h
      · rw[if_neg h]at hqq;exact absurd hqq hq
    have hq3:q=3:=by unfold engQ at hqq;rw[if_pos hw0,if_pos hrm]at hqq;exact hqq
    rw[if_pos hrm,if_pos hrm]at HNEW
    rw[hw0]at HMAY
    subst hq3
    clear hqq hrm hw0 hq
    go_enter Tryz.func6,Tryz.ntmps6
    go_upto_region 1 with(fail)
    rw[←HW1.out]
    go_wp2_with fail
    refine HMAY.out.mono ?_
    rintro e w2 ⟨rfl,hb2⟩
    have hs2:=hb2.size
    have HB2:=lI hb2
    clear hb2 c0 c1
    go_wp2_with fail
    refine(HNEW.out _).mono ?_
    rintro e w3 ⟨rfl,hb3⟩
    have hs3:=hb3.size
    obtain⟨w4,hw4⟩:∃w4,w4=w3.alloc (.cells #[.int .i64 0,.slice none 0 0,.int .i64 0,.int .i64 0] 35):=⟨_,rfl⟩
    have hb4:Below w3.heap.size w3 w4:=by rw[hw4];exact Below.alloc br (sO _) _
    have hb14:Below w1.heap.size w1 w4:=(HB2.out.trans (hb3.mono hs2)).trans (hb4.mono om)
    obtain⟨W',hW',hl1,hl2,hbw⟩:=HFIN.out w4 hb14
    have y1:=(hb14.block (w.heap.size+1) om).trans HZ.out.1
    have y2:=(hb14.block (w.heap.size+2) om).trans HZ.out.2
    have HW4:=lI hw4
    clear hw4 hb3 hb4 hb14 HMAY HNEW HFIN HZ
    go_upto_region 5 with(fail)
    rw[←HW4.out]
    have a0:=qu (o:=0) y1 rfl
    have a1:=qu (o:=1) y1 rfl
    have a2:=qu (o:=2) y1 rfl
    have a3:=qu (o:=3) y1 rfl
    have b0:=qu (o:=0) y2 rfl
    have b1:=qu (o:=1) y2 rfl
    have b2:=qu (o:=2) y2 rfl
    have b3:=qu (o:=3) y2 rfl
    have fy:∀o,w4.frozen? ⟨w.heap.size+1,o,none⟩=false:=fun o=>by simp[World.frozen?,y1]
    have fx:∀o,w4.frozen? ⟨w.heap.size+2,o,none⟩=false:=fun o=>by simp[World.frozen?,y2]
    clear y1 y2
    go_wp2_with fail
    have e:W'=((((((((w4.setCell ⟨w.heap.size+1,0,none⟩ (.slice none 0 0)).setCell ⟨w.heap.size+1,1,none⟩ (.slice none 0 0)).setCell ⟨w.heap.size+1,2,none⟩ (.slice none 0 0)).setCell ⟨w.heap.size+1,3,none⟩ (.int .i64 0)).setCell ⟨w.heap.size+1+1,0,none⟩ (.int .i64 0)).setCell ⟨w.heap.size+1+1,1,none⟩ (.slice none 0 0)).setCell ⟨w.heap.size+1+1,2,none⟩ (.int .i64 0)).setCell ⟨w.heap.size+1+1,3,none⟩ (.int .i64 0)):=hW'
    rw[←e]
    clear e hW'
    exact sP (results_cc zP _ zP hl1 zP hl2) rfl ⟨rfl,hbw⟩
  · have hqw:q=QQ m l:=by unfold engQ at hqq;rw[if_neg hw0]at hqq;exact hqq
    rw[←hqw]at HMAY
    clear hqq hqw hw0
    go_enter Tryz.func6,Tryz.ntmps6
    go_upto_region 1 with(fail)
    rw[←HW1.out]
    go_wp2_with fail
    refine HMAY.out.mono ?_
    rintro e w2 ⟨rfl,hb2⟩
    have hs2:=hb2.size
    obtain⟨W',hW',hl1,hl2,hbw⟩:=HFIN.out w2 hb2
    have y1:=(hb2.block (w.heap.size+1) om).trans HZ.out.1
    have y2:=(hb2.block (w.heap.size+2) om).trans HZ.out.2
    have a0:=qu (o:=0) y1 rfl
    have a1:=qu (o:=1) y1 rfl
    have a2:=qu (o:=2) y1 rfl
    have a3:=qu (o:=3) y1 rfl
    have b0:=qu (o:=0) y2 rfl
    have b1:=qu (o:=1) y2 rfl
    have b2:=qu (o:=2) y2 rfl
    have b3:=qu (o:=3) y2 rfl
    have fy:∀o,w2.frozen? ⟨w.heap.size+1,o,none⟩=false:=fun o=>by simp[World.frozen?,y1]
    have fx:∀o,w2.frozen? ⟨w.heap.size+2,o,none⟩=false:=fun o=>by simp[World.frozen?,y2]
    clear y1 y2 HMAY HNEW HFIN HZ c0 c1 hb2
    go_wp2_with fail
    have e:W'=((((((((w2.setCell ⟨w.heap.size+1,0,none⟩ (.slice none 0 0)).setCell ⟨w.heap.size+1,1,none⟩ (.slice none 0 0)).setCell ⟨w.heap.size+1,2,none⟩ (.slice none 0 0)).setCell ⟨w.heap.size+1,3,none⟩ (.int .i64 0)).setCell ⟨w.heap.size+1+1,0,none⟩ (.int .i64 0)).setCell ⟨w.heap.size+1+1,1,none⟩ (.slice none 0 0)).setCell ⟨w.heap.size+1+1,2,none⟩ (.int .i64 0)).setCell ⟨w.heap.size+1+1,3,none⟩ (.int .i64 0)):=hW'
    rw[←e]
    clear e hW'
    exact sP (results_cc zP _ zP hl1 zP hl2) rfl ⟨rfl,hbw⟩
theorem erun_any(vm0 vh0 vs:Value)(m:Mach)(wf:m.Wf)(l:List (Int × Int))(room:Int)(w:World)(hm:jp w vm0 vh0 m)(hs:Picks w vs l)(hp:∀p∈l,QW p.1∧QW p.2)(hr:QW room):
    Calls Tryz.prog 6 #[.agg #[vm0,vh0],vs,.int .i64 room] w fun e w'=>(∃vm vh vo v rm pu st zs steps,e=.returned (.tuple #[.agg #[vm,vh,vo,.int .i64 steps],.agg #[.int .i64 rm,v,.int .i64 pu,.int .i64 st],.int .i64 (engQ m l room)])∧((engQ m l room=0∧rm=room∧steps=((QL l (qo m)).steps:Int)∧ERun w' vm vh vo v m l room pu st zs)∨(engQ m l room≠0∧EngZero vm vh vo v rm pu st steps)))∧Below w.heap.size w w':=by
  by_cases hq:engQ m l room=0
  · rw[hq]
    have hw:QQ m l=0:=by
      unfold engQ at hq
      by_cases h:QQ m l=0
      · exact h
      · rw[if_neg h]at hq;exact absurd hq h
    have hrm:0≤room∧room≤64:=by
      unfold engQ at hq
      rw[if_pos hw]at hq
      by_cases h:room<0∨64<room
      · rw[if_pos h]at hq;cases hq
      · omega
    refine(erun_ok vm0 vh0 vs m wf l room w hm hs hp hrm.1 hrm.2 hw).mono ?_
    rintro e w' ⟨⟨vm,vh,vo,v,pu,st,zs,h1,h2⟩,hb⟩
    exact⟨⟨vm,vh,vo,v,room,pu,st,zs,_,h1,.inl ⟨rfl,rfl,rfl,h2⟩⟩,hb⟩
  · refine(erun_bad vm0 vh0 vs m wf l room w hm hs hp hr hq).mono ?_
    rintro e w' ⟨h1,hb⟩
    exact⟨⟨_,_,_,_,_,_,_,[],_,h1,.inr ⟨hq,rfl,rfl,rfl,rfl,rfl,rfl,rfl,rfl⟩⟩,hb⟩
theorem erun_open(vm0 vh0 vs:Value)(m:Mach)(wf:m.Wf)(l:List (Int × Int))(room:Int)(w:World)(hm:jp w vm0 vh0 m)(hs:Picks w vs l)(hp:∀p∈l,QW p.1∧QW p.2)(hr:QW room):
    Calls Tryz.prog 6 #[.agg #[vm0,vh0],vs,.int .i64 room] w fun e w'=>(∃a1 n1 c1 a2 n2 c2 a3 n3 c3 a4 n4 c4 rm pu st steps,e=.returned (.tuple #[.agg #[.slice a1 n1 c1,.slice a2 n2 c2,.slice a3 n3 c3,.int .i64 steps],.agg #[.int .i64 rm,.slice a4 n4 c4,.int .i64 pu,.int .i64 st],.int .i64 (engQ m l room)])∧Hid ((engQ m l room=0→rm=room∧steps=((QL l (qo m)).steps:Int)∧∃zs,ERun w' (.slice a1 n1 c1) (.slice a2 n2 c2) (.slice a3 n3 c3) (.slice a4 n4 c4) m l room pu st zs)∧(engQ m l room≠0→EngZero (.slice a1 n1 c1) (.slice a2 n2 c2) (.slice a3 n3 c3) (.slice a4 n4 c4) rm pu st steps)))∧Below w.heap.size w w':=by
  refine(erun_any vm0 vh0 vs m wf l room w hm hs hp hr).mono ?_
  rintro e w' ⟨⟨vm,vh,vo,v,rm,pu,st,zs,steps,h1,h2⟩,hb⟩
  refine⟨?_,hb⟩
  rcases h2 with⟨hq,e1,e2,h⟩|⟨hq,z1,z2,z3,z4,z5,z6,z7,z8⟩
  · obtain⟨a1,c1,rfl,-⟩:=h.shown.mach.1.open
    obtain⟨a2,c2,rfl,-⟩:=h.shown.mach.2.open (fun x hx=>qO (h.good.wf.harts x hx)) om
    obtain⟨a3,c3,rfl,-⟩:=h.shown.out.open
    obtain⟨a4,c4,rfl,-⟩:=h.blks.1.open (fun _ _=>rfl) om
    exact⟨_,_,_,_,_,_,_,_,_,_,_,_,_,_,_,_,h1,lI ⟨fun _=>⟨e1,e2,zs,h⟩,fun h0=>absurd hq h0⟩⟩
  · subst z1 z2 z3 z4 z5 z6 z7 z8
    exact⟨_,_,_,_,_,_,_,_,_,_,_,_,_,_,_,_,h1,lI ⟨fun h0=>absurd h0 hq,fun _=>⟨rfl,rfl,rfl,rfl,rfl,rfl,rfl,rfl⟩⟩⟩
end Go.Proofs.YtlfnddmncbkjaacGreat.W
