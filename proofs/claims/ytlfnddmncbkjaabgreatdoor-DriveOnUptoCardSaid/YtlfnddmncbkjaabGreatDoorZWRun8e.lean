import Derived.Test.YtlfnddmncbkjaabGreatDoorZWRun8d
import Derived.Test.YtlfnddmncbkjaabGreatDoorZHB
set_option linter.unusedVariables false
set_option linter.unusedSimpArgs false
set_option maxRecDepth 100000
set_option maxHeartbeats 4000000
namespace Go.Proofs.YtlfnddmncbkjaabGreatDoor.Fb
open Go.RowKit
theorem callS_m8(d:qF):(qx d).1.m=d.m:=by
  unfold qx
  split
  · rfl
  · split<;>rfl
theorem callS_ft(d:qF):(qx d).1.fr=d.fr∧(qx d).1.tw=d.tw:=by
  unfold qx
  split
  · exact⟨rfl,rfl⟩
  · split<;>exact⟨rfl,rfl⟩
theorem call_yes8(d:RunD)(h:(qx (d.core 0 0)).2=true):d.call=d.ofC (qx (d.core 0 0)).1:=by
  unfold qx at h ⊢
  unfold RunD.call
  have e:∀r,(d.core 0 0).h.reg r=d.h.reg r:=fun r=>rfl
  simp only[e]at h ⊢
  by_cases c0:d.h.reg 17=0
  · simp only[if_pos c0]at h;cases h
  · simp only[if_neg c0]at h ⊢
    by_cases c1:d.h.reg 17=1
    · simp only[if_pos c1];rfl
    · simp only[if_neg c1]at h;cases h
theorem call_no8(d:RunD)(h:(qx (d.core 0 0)).2=false):d.call=(d.ofC (qx (d.core 0 0)).1).stop d.here:=by
  unfold qx at h ⊢
  unfold RunD.call
  have e:∀r,(d.core 0 0).h.reg r=d.h.reg r:=fun r=>rfl
  simp only[e]at h ⊢
  by_cases c0:d.h.reg 17=0
  · simp only[if_pos c0];rfl
  · simp only[if_neg c0]at h ⊢
    by_cases c1:d.h.reg 17=1
    · simp only[if_pos c1]at h;cases h
    · simp only[if_neg c1];rfl
end Go.Proofs.YtlfnddmncbkjaabGreatDoor.Fb
namespace Go.Proofs.YtlfnddmncbkjaabGreatDoor.W
open Go.RowKit Fb
section
variable {rp cp hb po : Nat} {vm : Value} {w : World} {d : RunD} {vs : Value} {steps : Int}
theorem at8_eq(h:R8 rp cp hb po vm 40 165 170 w d vs steps 0 0)(n:Int)(hn:U32 n)(hds:0≤d.steps∧d.steps≤100000)(hst:QY steps)(hle:0≤steps-d.steps)(hov:d.over=false)(d':RunD)(hd':d'=(if(d.steps==steps||d.own)=true then d.stop n else {d with steps:=d.steps+1,here:=n})):
    Calls Tryz.prog 146 #[.pointer (some ⟨rp,0,none⟩),.int .u32 n] w fun e w'=>e=.returned (.bool (!d'.over))∧R8 rp cp hb po vm 40 165 170 w' d' vs steps 0 0∧G8 rp 40 cp hb po vm w w':=by
  rw[hd']
  exact(at8_any h n hn hds hst hle hov).mono fun _ _ ⟨_,e1,e2,e3,e4⟩=>by subst e1;exact⟨e2,e3,e4⟩
theorem quiet_more8{P:Program}{f:FuncId}{args:Array Value}{w:World}{n:Nat}{v:Value}(h:Calls P f args (w.drewN n) fun e w'=>e=.returned v∧∃m,w'=(w.drewN n).drewN m):
    Calls P f args (w.drewN n) fun e w''=>e=.returned v∧∃m,w''=w.drewN m:=
  h.mono fun _ _ ⟨he,m,hm⟩=>⟨he,n+m,by rw[hm,World.drewN_drewN]⟩
theorem dM{p:Prop}(h:p:=by
 clear hd' H1 hm1 hm2 hop
 go_enter Tryz.func121,Tryz.ntmps121
 go_upto_region 1 with(fail)
 rw[←HW1.out]
 go_wp2_with fail
 refine(HPA.out _).mono ?_
 rintro e w2 ⟨rfl,hww2⟩
 obtain rfl:=hww2.symm
 go_wp2_with fail
 refine HBY.out.mono ?_
 rintro e w9 ⟨rfl,vs',h9,g9⟩
 go_wp2_with fail
 go_ret
 exact⟨rfl,_,h9,HG1.out.trans g9⟩):p:=h
theorem dN{p:Prop}(h:p:=by
 have HD:=lI hd'
 subst hop
 clear hd' H1 c2 c3
 go_enter Tryz.func121,Tryz.ntmps121
 go_upto_region 1 with(fail)
 rw[←HW1.out]
 go_wp2_with fail
 refine(HPA.out _).mono ?_
 rintro e w2 ⟨rfl,hww2⟩
 obtain rfl:=hww2.symm
 go_wp2_with fail
 refine HCC.out.mono ?_
 rintro e w9 ⟨rfl,h9,g9⟩
 go_wp2_with fail
 go_ret
 have e:=HD.out
 subst e
 refine⟨Qe ?_,_,h9,HG1.out.trans g9⟩
 rfl):p:=h
theorem dO{p:Prop}(h:p:=by
 rintro _ ⟨nd,rfl⟩
 go_wp2_with fail
 refine(HPT.out _ (qB br nd)).mono ?_
 rintro e w9 ⟨rfl,h9,g9⟩
 go_wp2_with fail
 go_ret
 have e:=HD.out
 subst e
 refine⟨Qe ?_,_,h9,HG1.out.trans ((G8.below (qB br _) HCL.out).trans g9)⟩
 rw[put_over,hov];rfl):p:=h
theorem one8_any(h:R8 rp cp hb po vm 40 165 170 w d vs steps 0 0)(m:MicD)(hm:mayM m=true)(hn:U32 m.n)(hst:QY steps)(hds:0≤d.steps∧d.steps≤100000)(hle:0≤steps-d.steps)(hsl:d.stores.length≤100000)(hol:d.out.length≤100000)(hov:d.over=false):
    Calls Tryz.prog 121 #[.pointer (some ⟨rp,0,none⟩),.agg (jo m).toArray] w fun e w'=>e=.returned (.bool (!(d.one m steps).over))∧∃vs',R8 rp cp hb po vm 40 165 170 w' (d.one m steps) vs' steps 0 0∧G8 rp 40 cp hb po vm w w':=by
  obtain⟨r1,r2,r3⟩:=mayM_regs hm
  have hc:=named_cls (mayM_named hm)
  clear hm
  obtain⟨op,kd,ka,kb,n⟩:=m
  dsimp only at r1 r2 r3 hc hn
  obtain⟨kd,rfl⟩:=sQ r1.1
  obtain⟨ka,rfl⟩:=sQ r2.1
  obtain⟨kb,rfl⟩:=sQ r3.1
  have hkd:kd<36:=om
  have hka:ka<36:=om
  have hkb:kb<36:=om
  clear r1 r2 r3
  simp only[jo]
  obtain⟨d',hd'⟩:∃d',d'=d.one ⟨op,kd,ka,kb,n⟩ steps:=⟨_,rfl⟩
  rw[←hd']
  unfold RunD.one at hd'
  dsimp only at hd'
  have hlt:=h.rlt
  have hcr:=h.lt
  have hbm:Ints .u8 w vm d.m:=h.core.bytes
  obtain⟨am,cm,rfl,-⟩:=hbm.open
  obtain⟨w1,hw1⟩:∃w1,w1=w.alloc (.cells #[.int .i64 op,.int .i64 kd,.int .i64 ka,.int .i64 kb,.int .u32 n] 211):=⟨_,rfl⟩
  have hb1:Below w.heap.size w w1:=zI
  have hs1:w1.heap.size=w.heap.size+1:=zO
  have c0:(w1).cell? ⟨w.heap.size,0,none⟩=some (.int .i64 op):=zA
  have c1:(w1).cell? ⟨w.heap.size,1,none⟩=some (.int .i64 kd):=zA
  have c2:(w1).cell? ⟨w.heap.size,2,none⟩=some (.int .i64 ka):=zA
  have c3:(w1).cell? ⟨w.heap.size,3,none⟩=some (.int .i64 kb):=zA
  have c4:(w1).cell? ⟨w.heap.size,4,none⟩=some (.int .u32 n):=zA
  have H1:=h.below hb1
  have HG1:Hid (G8 rp 40 cp hb po (.slice am d.m.length cm) w w1):=lI (G8.below hb1 h.clt)
  have HCL:=lI H1.clt
  have HH1:=lI H1
  have HW1:=lI hw1
  obtain⟨a,ha⟩:∃a,a=d.get ka:=⟨_,rfl⟩
  obtain⟨b,hbb⟩:∃b,b=d.get kb:=⟨_,rfl⟩
  have HGA:Hid (∀nd,_):=lI (fun nd=>(JX (H1.below (qB (Below.refl _ w1) nd)) ka hka).mono (R':=fun e w'=>e=.returned (.int .u32 a)∧w1.drewN nd=w') (fun e w' h=>⟨by rw[ha];exact h.1,h.2.symm⟩))
  have HGB:Hid (∀nd,_):=lI (fun nd=>(JX (H1.below (qB (Below.refl _ w1) nd)) kb hkb).mono (R':=fun e w'=>e=.returned (.int .u32 b)∧w1.drewN nd=w') (fun e w' h=>⟨by rw[hbb];exact h.1,h.2.symm⟩))
  have HUA:Hid (U32 a):=lI (by rw[ha];exact uJ h.wf ka)
  have HUB:Hid (U32 b):=lI (by rw[hbb];exact uJ h.wf kb)
  clear h hb1 hw1
  rcases hc with(hop|hop|hop|hop|hop|hop)|⟨s,hop,hs⟩|⟨s,hop,hs⟩|⟨s,hop,hs⟩|⟨s,hop,hs⟩|⟨s,hop,hs⟩|⟨s,hop,hs⟩
  · repeat first|rw[if_pos hop]at hd'|rw[if_neg om]at hd'
    have HPA:=lI (fun W=>uc op W om)
    clear ha hbb
    have HAT:=lI (at8_eq H1 n hn hds hst hle hov d' hd')
    have HD:=lI hd'
    subst hop
    clear hd' H1 c1 c2 c3
    go_enter Tryz.func121,Tryz.ntmps121
    go_upto_region 1 with(fail)
    rw[←HW1.out]
    go_wp2_with fail
    refine(HPA.out _).mono ?_
    rintro e w2 ⟨rfl,hww2⟩
    obtain rfl:=hww2.symm
    go_wp2_with fail
    refine HAT.out.mono ?_
    rintro e w9 ⟨rfl,h9,g9⟩
    go_wp2_with fail
    go_ret
    exact⟨rfl,_,h9,HG1.out.trans g9⟩
  · repeat first|rw[if_pos hop]at hd'|rw[if_neg om]at hd'
    try simp only[sV]at hd'
    have HPA:=lI (fun W=>uc op W om)
    clear ha hbb
    have HCC:=lI (put8_any H1 kd hkd n hn)
    have HD:=lI hd'
    subst hop
    clear hd' H1 c2 c3
    go_enter Tryz.func121,Tryz.ntmps121
    go_upto_region 1 with(fail)
    rw[←HW1.out]
    go_wp2_with fail
    refine(HPA.out _).mono ?_
    rintro e w2 ⟨rfl,hww2⟩
    obtain rfl:=hww2.symm
    go_wp2_with fail
    refine HCC.out.mono ?_
    rintro e w9 ⟨rfl,h9,g9⟩
    go_wp2_with fail
    go_ret
    have e:=HD.out
    subst e
    refine⟨Qe ?_,_,h9,HG1.out.trans g9⟩
    rw[put_over,hov];rfl
  · repeat first|rw[if_pos hop]at hd'|rw[if_neg om]at hd'
    have HPA:=lI (fun W=>uc op W om)
    clear ha hbb
    have HCC:=lI (JP H1 n hn)
    exact dN
  · repeat first|rw[if_pos hop]at hd'|rw[if_neg om]at hd'
    try simp only[sV]at hd'
    have HPA:=lI (fun W=>uc op W om)
    rw[←ha]at hd'
    have hu32:∀x,u32 x=x%4294967296:=fun x=>rfl
    simp only[hu32]at hd'
    have hand:bits .andNot .u32 ((a+n)%4294967296) 1=(a+n)%4294967296-(a+n)%4294967296%2:=andNot1 _ (Qp _)
    have huq:U32 ((a+n)%4294967296-(a+n)%4294967296%2):=by have:=Qp (a+n);unfold u32 U32 at this;unfold U32;omega
    rw[←hand]at hd' huq
    generalize hq:bits .andNot .u32 ((a+n)%4294967296) 1=q at *
    have HQ:=lI hq
    have HST:=lI (fun W (hb:Below w1.heap.size w1 W)=>JP (HH1.out.below hb) q huq)
    have HD:=lI hd'
    subst hop
    clear hd' H1 ha hbb hand huq hq hu32 c1 c3
    go_enter Tryz.func121,Tryz.ntmps121
    go_upto_region 1 with(fail)
    rw[←HW1.out]
    go_wp2_with fail
    refine(HPA.out _).mono ?_
    rintro e w2 ⟨rfl,hww2⟩
    obtain rfl:=hww2.symm
    go_upto_region 11 with(fail)
    refine qZ (fun W=>∃nd,W=w1.drewN nd) 9 kr kr ⟨1,rfl⟩ ?_
    simp only[List.take_succ_cons,List.take_zero,List.drop_succ_cons,List.drop_zero]
    iterate 9 quiet_step ((go_at_call 149;exact jA (HGA.out _)))
    refine wpQuiet_nil ?_
    rintro _ ⟨nd,rfl⟩
    go_wp2_with fail
    rw[HQ.out]
    refine(HST.out _ (qB br nd)).mono ?_
    rintro e w9 ⟨rfl,h9,g9⟩
    go_wp2_with fail
    go_ret
    have e:=HD.out
    subst e
    exact⟨rfl,_,h9,HG1.out.trans ((G8.below (qB br _) HCL.out).trans g9)⟩
  · repeat first|rw[if_pos hop]at hd'|rw[if_neg om]at hd'
    have HPA:=lI (fun W=>uc op W om)
    clear ha hbb
    have hcw:=H1.cwf
    have HCA:Hid (Calls Tryz.prog 120 #[.pointer (some ⟨cp,0,none⟩)] w1 fun e w'=>e=.returned (.bool (qx (d.core 0 0)).2)∧R8 rp cp hb po (.slice am d.m.length cm) 40 165 170 w' (d.ofC (qx (d.core 0 0)).1) vs steps (qx (d.core 0 0)).1.fr (qx (d.core 0 0)).1.tw∧G8 rp 40 cp hb po (.slice am d.m.length cm) w1 w'):=lI (by
      have hlo:(d.core 0 0).out.length<1099511627776:=by show d.out.length<_;omega
      refine(call_any H1.core hcw hlo).mono ?_
      rintro e w9 ⟨rfl,h9,g9⟩
      exact⟨rfl,H1.ofC h9 g9 tyR tyS (callS_wf hcw hlo) (by rw[callS_m8];exact H1.mmax),G8.cgo g9 H1.clt⟩)
    obtain⟨z1,z2⟩:=callS_ft (d.core 0 0)
    rw[show(d.core 0 0).fr=0 from rfl]at z1
    rw[show(d.core 0 0).tw=0 from rfl]at z2
    have hy:(qx (d.core 0 0)).2=true→d'=d.ofC (qx (d.core 0 0)).1:=fun e=>by rw[hd'];exact(call_yes8 d e)
    have hn':(qx (d.core 0 0)).2=false→d'=(d.ofC (qx (d.core 0 0)).1).stop d.here:=fun e=>by rw[hd'];exact(call_no8 d e)
    rw[z1,z2]at HCA
    generalize (qx (d.core 0 0)).2=ok at *
    generalize (qx (d.core 0 0)).1=c' at *
    have HY:=lI hy
    have HN:=lI hn'
    have HSP:=lI (fun W vs fr tw (hW:R8 rp cp hb po (.slice am d.m.length cm) 40 165 170 W (d.ofC c') vs steps fr tw)=>JP hW d.here hW.wf.here)
    have g0:=H1.at_.get (QO 0 om)
    simp only[sM]at g0
    subst hop
    clear hd' hy hn' H1 z1 z2 hcw c1 c2 c3 c4
    go_enter Tryz.func121,Tryz.ntmps121
    go_upto_region 1 with(fail)
    rw[←HW1.out]
    go_wp2_with fail
    refine(HPA.out _).mono ?_
    rintro e w2 ⟨rfl,hww2⟩
    obtain rfl:=hww2.symm
    go_wp2_with fail
    refine HCA.out.mono ?_
    rintro e w5 ⟨rfl,h5,g5⟩
    have hd10:=h5.at_.get (Jb h5.wf.tlen 0)
    have g10:w5.cell? ⟨rp,10,none⟩=some (.int .u32 d.here):=by simpa[RunD.ofC]using hd10
    have HR:=lI (And.intro h5 g5)
    clear h5 g5 hd10 g0 c0
    cases ok with
    | true =>
      go_wp2_with fail
      go_ret
      have e:=HY.out yS
      subst e
      refine⟨Qe ?_,_,HR.out.1,HG1.out.trans HR.out.2⟩
      show true= !d.over
      rw[hov];rfl
    | false =>
      go_wp2_with fail
      refine(HSP.out _ _ _ _ HR.out.1).mono ?_
      rintro e w6 ⟨rfl,h6,g6⟩
      go_wp2_with fail
      go_ret
      have e:=HN.out yS
      subst e
      exact⟨rfl,_,h6,HG1.out.trans (HR.out.2.trans g6)⟩
  · repeat first|rw[if_pos hop]at hd'|rw[if_neg om]at hd'
    have HPA:=lI (fun W=>uc op W om)
    clear ha hbb
    have HCC:=lI (trap8_any H1 6 ⟨om,om⟩)
    exact dN
  · obtain⟨hm1,hm2⟩:=jG 100 s om om om
    rw[←hop]at hm1 hm2
    rw[hm2,hm1]at hd'
    repeat first|rw[if_neg om]at hd'|rw[if_pos rfl]at hd'
    try simp only[sV]at hd'
    have HPA:=lI (fun W=>ue op 100 s W hop om om om)
    replace hd':d'=(if holds s a b=true then d.stop n else d):=by rw[ha,hbb];exact hd'
    have HHD:=lI (fun nd=>holds_any s a b (w1.drewN nd) HUA.out.1 (by have:=HUA.out.2;omega) HUB.out.1 (by have:=HUB.out.2;omega))
    have HST:=lI (fun W (hb:Below w1.heap.size w1 W)=>JP (HH1.out.below hb) n hn)
    have HBL:=lI (fun W (hb:Below w1.heap.size w1 W)=>HH1.out.below hb)
    generalize holds s a b=ok at *
    have HD:=lI hd'
    clear hd' H1 ha hbb hm1 hm2 hop c1
    go_enter Tryz.func121,Tryz.ntmps121
    go_upto_region 1 with(fail)
    rw[←HW1.out]
    go_wp2_with fail
    refine(HPA.out _).mono ?_
    rintro e w2 ⟨rfl,hww2⟩
    obtain rfl:=hww2.symm
    go_upto_region 13 with(fail)
    go_quiet (first|(go_at_call 149;with_reducible exact jA (HGA.out _))|(go_at_call 149;with_reducible exact jA (HGB.out _))|(go_at_call 115;exact jA (HHD.out _)))
    cases ok with
    | true =>
      go_wp2_with fail
      refine(HST.out _ (qB br _)).mono ?_
      rintro e w9 ⟨rfl,h9,g9⟩
      go_wp2_with fail
      go_ret
      have e:=HD.out
      simp only[if_true]at e
      subst e
      exact⟨rfl,_,h9,HG1.out.trans ((G8.below (qB br _) HCL.out).trans g9)⟩
    | false =>
      go_wp2_with fail
      go_ret
      have e:=HD.out
      simp only[Bool.false_eq_true,if_false]at e
      subst e
      refine⟨Qe ?_,_,HBL.out _ (qB br _),HG1.out.trans (G8.below (qB br _) HCL.out)⟩
      rw[hov];rfl
  · obtain⟨hm1,hm2⟩:=jG 200 s om om om
    rw[←hop]at hm1 hm2
    rw[hm2,hm1]at hd'
    repeat first|rw[if_neg om]at hd'|rw[if_pos rfl]at hd'
    try simp only[sV]at hd'
    have HPA:=lI (fun W=>ue op 200 s W hop om om om)
    clear ha hbb
    have HBY:=lI (bytes8_load H1 s op n kd ka kb hkd hka hkb hn hsl hov hs d' hd')
    exact dM
  · obtain⟨hm1,hm2⟩:=jG 300 s om om om
    rw[←hop]at hm1 hm2
    rw[hm2,hm1]at hd'
    repeat first|rw[if_neg om]at hd'|rw[if_pos rfl]at hd'
    try simp only[sV]at hd'
    have HPA:=lI (fun W=>ue op 300 s W hop om om om)
    clear ha hbb
    have HBY:=lI (bytes8_store H1 s op n kd ka kb hkd hka hkb hn hsl hov hs d' hd')
    exact dM
  · obtain⟨hm1,hm2⟩:=jG 400 s om om om
    rw[←hop]at hm1 hm2
    rw[hm2,hm1]at hd'
    repeat first|rw[if_neg om]at hd'|rw[if_pos rfl]at hd'
    try simp only[sV]at hd'
    have HPA:=lI (fun W=>ue op 400 s W hop om om om)
    rw[←ha]at hd'
    rw[←hbb]at hd'
    have HAL:=lI (fun nd=>alu_any s a b (w1.drewN nd) HUA.out.1 (by have:=HUA.out.2;omega) HUB.out.1 (by have:=HUB.out.2;omega))
    have HPT:=lI (fun W (hb:Below w1.heap.size w1 W)=>put8_any (HH1.out.below hb) kd hkd (alu s a b) (alu_lo s a b HUA.out HUB.out))
    generalize alu s a b=x at *
    have HD:=lI hd'
    clear hd' H1 ha hbb hm1 hm2 hop
    go_enter Tryz.func121,Tryz.ntmps121
    go_upto_region 1 with(fail)
    rw[←HW1.out]
    go_wp2_with fail
    refine(HPA.out _).mono ?_
    rintro e w2 ⟨rfl,hww2⟩
    obtain rfl:=hww2.symm
    go_upto_region 16 with(fail)
    refine qZ (fun W=>∃nd,W=w1.drewN nd) 13 kr kr ⟨1,rfl⟩ ?_
    simp only[List.take_succ_cons,List.take_zero,List.drop_succ_cons,List.drop_zero]
    iterate 13 quiet_step ((first|(go_at_call 149;with_reducible exact jA (HGA.out _))|(go_at_call 149;with_reducible exact jA (HGB.out _))|(go_at_call 117;exact quiet_more8 (HAL.out _))))
    refine wpQuiet_nil ?_
    exact dO
  · obtain⟨hm1,hm2⟩:=jG 500 s om om om
    rw[←hop]at hm1 hm2
    rw[hm2,hm1]at hd'
    repeat first|rw[if_neg om]at hd'|rw[if_pos rfl]at hd'
    try simp only[sV]at hd'
    have HPA:=lI (fun W=>ue op 500 s W hop om om om)
    rw[←ha]at hd'
    have HAL:=lI (fun nd=>alu_any s a n (w1.drewN nd) HUA.out.1 (by have:=HUA.out.2;omega) hn.1 (by have:=hn.2;omega))
    have HPT:=lI (fun W (hb:Below w1.heap.size w1 W)=>put8_any (HH1.out.below hb) kd hkd (alu s a n) (alu_lo s a n HUA.out hn))
    generalize alu s a n=x at *
    have HD:=lI hd'
    clear hd' H1 ha hbb hm1 hm2 hop
    go_enter Tryz.func121,Tryz.ntmps121
    go_upto_region 1 with(fail)
    rw[←HW1.out]
    go_wp2_with fail
    refine(HPA.out _).mono ?_
    rintro e w2 ⟨rfl,hww2⟩
    obtain rfl:=hww2.symm
    go_upto_region 18 with(fail)
    refine qZ (fun W=>∃nd,W=w1.drewN nd) 11 kr kr ⟨1,rfl⟩ ?_
    simp only[List.take_succ_cons,List.take_zero,List.drop_succ_cons,List.drop_zero]
    iterate 11 quiet_step ((first|(go_at_call 149;with_reducible exact jA (HGA.out _))|(go_at_call 149;with_reducible exact jA (HGB.out _))|(go_at_call 117;exact quiet_more8 (HAL.out _))))
    refine wpQuiet_nil ?_
    exact dO
  · obtain⟨hm1,hm2⟩:=jG 600 s om om om
    rw[←hop]at hm1 hm2
    rw[hm2,hm1]at hd'
    repeat first|rw[if_neg om]at hd'|rw[if_pos rfl]at hd'
    try simp only[sV]at hd'
    have HPA:=lI (fun W=>ue op 600 s W hop om om om)
    clear ha hbb
    have HBY:=lI (bytes8_atom H1 s op n kd ka kb hkd hka hkb hn hsl hov hs d' hd')
    exact dM
end
end Go.Proofs.YtlfnddmncbkjaabGreatDoor.W
