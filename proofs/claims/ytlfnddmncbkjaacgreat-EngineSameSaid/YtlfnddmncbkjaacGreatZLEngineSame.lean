import Derived.Test.YtlfnddmncbkjaacGreatZWEng8
import Derived.Test.YtlfnddmncbkjaacGreatZWPlay
import Derived.Test.YtlfnddmncbkjaacGreatZHG
import Derived.Test.YtlfnddmncbkjaacGreatZWRef9a
set_option linter.unusedVariables false
set_option linter.unusedSimpArgs false
set_option maxRecDepth 100000
set_option maxHeartbeats 4000000
namespace Go.Proofs.YtlfnddmncbkjaacGreat.EngineSameLaw
open Go.RowKit Fb W
theorem blks_nil(w:World):Blks w (.slice none 0 0) []:=⟨Sl.nil _ _,yZ⟩
theorem walk(vm vh vs:Value)(m:Mach)(l:List (Int × Int))(room:Int)(w:World)(hm:jp w vm vh m)(wf:m.Wf)(hs:Picks w vs l)(hp:∀p∈l,QW p.1∧QW p.2)(hr:QW room):
    Calls Tryz.prog 3 #[.agg #[vm,vh],vs,.int .i64 room] w fun e w'=>e=.returned (.bool true)∧Below w.heap.size w w':=by
  obtain⟨aom,capm,rfl,hcm,hmm,-,-⟩:=hm.1.open
  obtain⟨aoh,caph,rfl,hch,hmh,-,-⟩:=hm.2.open (fun h hh=>qO (wf.harts h hh)) om
  obtain⟨aos,caps,rfl,hcs,hms,-,hos⟩:=hs.open (fun _ _=>rfl) om
  unfold maxLen at hmm hmh hms
  obtain⟨w1,hw1⟩:∃w1,w1=w.alloc (.cells #[.slice aom m.mem.length capm,.slice aoh m.harts.length caph] 25):=⟨_,rfl⟩
  have hb1:Below w.heap.size w w1:=zK
  have hs1:w.heap.size<w1.heap.size:=yD
  have c0:w1.cell? ⟨w.heap.size,0,none⟩=some (.slice aom m.mem.length capm):=zA
  have c1:w1.cell? ⟨w.heap.size,1,none⟩=some (.slice aoh m.harts.length caph):=zA
  have HM:=lI (hm.below hb1)
  have HS:=lI (hs.below hb1)
  have HWR:=lI (wrong_any _ _ _ m wf l w1 HM.out HS.out hp)
  have HWK:=lI (fun W hW=>work_any _ l W (HS.out.below hW))
  have HE:=lI (fun W hW=>erun_open _ _ _ m wf l room W (HM.out.below hW) (HS.out.below hW) hp hr)
  have HPL:Hid (QQ m l=0→∀W,Below w1.heap.size w1 W→_):=lI (fun hq W hW=>play_any _ _ _ m wf l W (HM.out.below hW) (HS.out.below hW) hq)
  have HGD:Hid (QQ m l=0→(QL l (qo m)).Good):=lI (fun h=>playM_good l (startM_good wf h))
  have HW1:=lI hw1
  have HB1:=lI hb1
  obtain⟨g,hg⟩:∃x,x=QQ m l:=⟨_,rfl⟩
  obtain⟨Q,hQ⟩:∃x,x=engQ m l room:=⟨_,rfl⟩
  rw[←hg]at HWR HPL HGD
  rw[←hQ]at HE
  have HG:=lI hg
  have HQ:Hid ((g≠0→Q=g)∧(g=0→(room<0∨64<room)→Q=3)∧(g=0→¬(room<0∨64<room)→Q=0)):=lI (by
    rw[hQ,hg]
    unfold engQ
    exact⟨fun h=>if_neg h,fun h h2=>by rw[if_pos h,if_pos h2],fun h h2=>by rw[if_pos h,if_neg h2]⟩)
  have HZ:Hid (∀W,Calls Tryz.prog 7 #[.agg #[.slice none 0 0,.slice none 0 0,.slice none 0 0,.int .i64 0],.agg #[.slice none 0 0,.slice none 0 0,.slice none 0 0,.int .i64 0]] W fun e w'=>e=.returned (.bool true)∧Below W.heap.size W w'):=lI (fun W=>by
    have hz:=shown_nil W 0
    exact same5 _ _ _ _ _ _ ⟨[],[]⟩ [] 0 W ⟨yZ,yZ⟩ hz.mach hz.mach hz.out hz.out)
  have HZ9:Hid (∀W,Calls Tryz.prog 8 #[.agg #[.int .i64 0,.slice none 0 0,.int .i64 0,.int .i64 0],.agg #[.int .i64 0,.slice none 0 0,.int .i64 0,.int .i64 0]] W fun e w'=>e=.returned (.bool true)∧Below W.heap.size W w'):=lI (fun W=>same9_any 0 0 0 _ _ [] [] W (blks_nil W) (blks_nil W) rfl)
  clear hw1 hm hs hos hp hg hQ hb1
  go_enter Tryz.func3,Tryz.ntmps3
  go_upto_region 1 with(fail)
  rw[←HW1.out]
  go_wp2_with fail
  refine HWR.out.mono ?_
  rintro e w2 ⟨rfl,hb2⟩
  have hs2:=hb2.size
  have d0:=(hb2.cell (p:=⟨w.heap.size,0,none⟩) hs1).trans c0
  have d1:=(hb2.cell (p:=⟨w.heap.size,1,none⟩) hs1).trans c1
  have HB12:=lI hb2
  have HB2:=lI (HB1.out.trans (hb2.mono HB1.out.size))
  have HE2:=lI (HE.out w2 hb2)
  clear hb2 c0 c1 HE HWR
  by_cases hg0:g=0
  · subst hg0
    go_wp2_with fail
    refine(HWK.out w2 HB12.out).mono ?_
    rintro e wx ⟨⟨nw,rfl⟩,hwx⟩
    rw[hwx]
    clear hwx
    by_cases hn:3000<nw
    · have hn':(3000:Int)<(nw:Int):=om
      go_wp2_with fail
      go_ret
      exact⟨rfl,HB2.out⟩
    have hn':¬(3000:Int)<(nw:Int):=om
    clear hn
    by_cases hbad:room<0∨64<room
    · have hq3:=HQ.out.2.1 yO hbad
      subst hq3
      by_cases hr0:room<0
      · clear hbad
        go_wp2_with fail
        refine HE2.out.mono ?_
        rintro e w3 ⟨⟨a1,n1,k1,a2,n2,k2,a3,n3,k3,a4,n4,k4,rm,pu,st,steps,rfl,HX⟩,hb3⟩
        obtain⟨e1,e2,e3,e4,rfl,rfl,rfl,rfl⟩:=HX.out.2 (by first|decide|assumption)
        cases e1
        cases e2
        cases e3
        cases e4
        have hs3:=hb3.size
        obtain⟨w4,hw4⟩:∃w4,w4=(w3.alloc (.cells #[.slice none 0 0,.slice none 0 0,.slice none 0 0,.int .i64 0] 32)).alloc (.cells #[.int .i64 0,.slice none 0 0,.int .i64 0,.int .i64 0] 35):=⟨_,rfl⟩
        have hb4:Below w3.heap.size w3 w4:=by rw[hw4];exact Fb.blw
        have hs4:w3.heap.size+1<w4.heap.size:=wJ
        have s0:(w4).cell? ⟨w3.heap.size,0,none⟩=some (.slice none 0 0):=zD
        have s1:(w4).cell? ⟨w3.heap.size,1,none⟩=some (.slice none 0 0):=zD
        have s2:(w4).cell? ⟨w3.heap.size,2,none⟩=some (.slice none 0 0):=zD
        have s3:(w4).cell? ⟨w3.heap.size,3,none⟩=some (.int .i64 0):=zD
        have t0:(w4).cell? ⟨w3.heap.size+1,0,none⟩=some (.int .i64 0):=zD
        have t1:(w4).cell? ⟨w3.heap.size+1,1,none⟩=some (.slice none 0 0):=zD
        have t2:(w4).cell? ⟨w3.heap.size+1,2,none⟩=some (.int .i64 0):=zD
        have t3:(w4).cell? ⟨w3.heap.size+1,3,none⟩=some (.int .i64 0):=zD
        have hb24:Below w2.heap.size w2 w4:=hb3.trans (hb4.mono hs3)
        have HB4:=lI (HB2.out.trans (hb24.mono HB2.out.size))
        have HW4:=lI hw4
        clear HX hb3 hb4 hb24 hw4 d0 d1 HE2 HPL HGD
        go_upto_region 7 with(fail)
        rw[←HW4.out]
        go_wp2_with fail
        refine(HZ.out w4).mono ?_
        rintro e w5 ⟨rfl,hb5⟩
        have u0:(w5).cell? ⟨w3.heap.size+1,0,none⟩=some (.int .i64 0):=(hb5.cell (p:=⟨w3.heap.size+1,0,none⟩) (hs4)).trans t0
        have u1:(w5).cell? ⟨w3.heap.size+1,1,none⟩=some (.slice none 0 0):=(hb5.cell (p:=⟨w3.heap.size+1,1,none⟩) (hs4)).trans t1
        have u2:(w5).cell? ⟨w3.heap.size+1,2,none⟩=some (.int .i64 0):=(hb5.cell (p:=⟨w3.heap.size+1,2,none⟩) (hs4)).trans t2
        have u3:(w5).cell? ⟨w3.heap.size+1,3,none⟩=some (.int .i64 0):=(hb5.cell (p:=⟨w3.heap.size+1,3,none⟩) (hs4)).trans t3
        have HB5:=lI (HB4.out.trans (hb5.mono HB4.out.size))
        clear s0 s1 s2 s3 t0 t1 t2 t3 hb5
        go_wp2_with fail
        refine(HZ9.out w5).mono ?_
        rintro e w6 ⟨rfl,hb6⟩
        go_wp2_with fail
        go_ret
        exact⟨rfl,HB5.out.trans (hb6.mono HB5.out.size)⟩
      · have hr1:64<room:=om
        clear hbad
        go_wp2_with fail
        refine HE2.out.mono ?_
        rintro e w3 ⟨⟨a1,n1,k1,a2,n2,k2,a3,n3,k3,a4,n4,k4,rm,pu,st,steps,rfl,HX⟩,hb3⟩
        obtain⟨e1,e2,e3,e4,rfl,rfl,rfl,rfl⟩:=HX.out.2 (by first|decide|assumption)
        cases e1
        cases e2
        cases e3
        cases e4
        have hs3:=hb3.size
        obtain⟨w4,hw4⟩:∃w4,w4=(w3.alloc (.cells #[.slice none 0 0,.slice none 0 0,.slice none 0 0,.int .i64 0] 32)).alloc (.cells #[.int .i64 0,.slice none 0 0,.int .i64 0,.int .i64 0] 35):=⟨_,rfl⟩
        have hb4:Below w3.heap.size w3 w4:=by rw[hw4];exact Fb.blw
        have hs4:w3.heap.size+1<w4.heap.size:=wJ
        have s0:(w4).cell? ⟨w3.heap.size,0,none⟩=some (.slice none 0 0):=zD
        have s1:(w4).cell? ⟨w3.heap.size,1,none⟩=some (.slice none 0 0):=zD
        have s2:(w4).cell? ⟨w3.heap.size,2,none⟩=some (.slice none 0 0):=zD
        have s3:(w4).cell? ⟨w3.heap.size,3,none⟩=some (.int .i64 0):=zD
        have t0:(w4).cell? ⟨w3.heap.size+1,0,none⟩=some (.int .i64 0):=zD
        have t1:(w4).cell? ⟨w3.heap.size+1,1,none⟩=some (.slice none 0 0):=zD
        have t2:(w4).cell? ⟨w3.heap.size+1,2,none⟩=some (.int .i64 0):=zD
        have t3:(w4).cell? ⟨w3.heap.size+1,3,none⟩=some (.int .i64 0):=zD
        have hb24:Below w2.heap.size w2 w4:=hb3.trans (hb4.mono hs3)
        have HB4:=lI (HB2.out.trans (hb24.mono HB2.out.size))
        have HW4:=lI hw4
        clear HX hb3 hb4 hb24 hw4 d0 d1 HE2 HPL HGD
        go_upto_region 7 with(fail)
        rw[←HW4.out]
        go_wp2_with fail
        refine(HZ.out w4).mono ?_
        rintro e w5 ⟨rfl,hb5⟩
        have u0:(w5).cell? ⟨w3.heap.size+1,0,none⟩=some (.int .i64 0):=(hb5.cell (p:=⟨w3.heap.size+1,0,none⟩) (hs4)).trans t0
        have u1:(w5).cell? ⟨w3.heap.size+1,1,none⟩=some (.slice none 0 0):=(hb5.cell (p:=⟨w3.heap.size+1,1,none⟩) (hs4)).trans t1
        have u2:(w5).cell? ⟨w3.heap.size+1,2,none⟩=some (.int .i64 0):=(hb5.cell (p:=⟨w3.heap.size+1,2,none⟩) (hs4)).trans t2
        have u3:(w5).cell? ⟨w3.heap.size+1,3,none⟩=some (.int .i64 0):=(hb5.cell (p:=⟨w3.heap.size+1,3,none⟩) (hs4)).trans t3
        have HB5:=lI (HB4.out.trans (hb5.mono HB4.out.size))
        clear s0 s1 s2 s3 t0 t1 t2 t3 hb5
        go_wp2_with fail
        refine(HZ9.out w5).mono ?_
        rintro e w6 ⟨rfl,hb6⟩
        go_wp2_with fail
        go_ret
        exact⟨rfl,HB5.out.trans (hb6.mono HB5.out.size)⟩
    · have hq0:=HQ.out.2.2 yO hbad
      subst hq0
      have hr0:¬room<0:=om
      have hr1:¬64<room:=om
      clear hbad
      go_wp2_with fail
      refine HE2.out.mono ?_
      rintro e w3 ⟨⟨a1,n1,k1,a2,n2,k2,a3,n3,k3,a4,n4,k4,rm,pu,st,steps,rfl,HX⟩,hb3⟩
      have hs3:=hb3.size
      obtain⟨-,hst,zs,hX⟩:=HX.out.1 yO
      have hgd:=HGD.out yO
      have hpl:=HPL.out yO
      obtain⟨sF,hsF⟩:∃s,s=QL l (qo m):=⟨_,rfl⟩
      have hsh:=hX.shown
      rw[←hsF]at hgd hsh hpl hst
      obtain⟨w4,hw4⟩:∃w4,w4=(w3.alloc (.cells #[.slice a1 n1 k1,.slice a2 n2 k2,.slice a3 n3 k3,.int .i64 steps] 32)).alloc (.cells #[.int .i64 rm,.slice a4 n4 k4,.int .i64 pu,.int .i64 st] 35):=⟨_,rfl⟩
      have hb4:Below w3.heap.size w3 w4:=by rw[hw4];exact Fb.blw
      have hs4:w3.heap.size+1<w4.heap.size:=wJ
      have s0:(w4).cell? ⟨w3.heap.size,0,none⟩=some (.slice a1 n1 k1):=zD
      have s1:(w4).cell? ⟨w3.heap.size,1,none⟩=some (.slice a2 n2 k2):=zD
      have s2:(w4).cell? ⟨w3.heap.size,2,none⟩=some (.slice a3 n3 k3):=zD
      have s3:(w4).cell? ⟨w3.heap.size,3,none⟩=some (.int .i64 steps):=zD
      have hb24:Below w2.heap.size w2 w4:=hb3.trans (hb4.mono hs3)
      have e0:=(hb24.cell (p:=⟨w.heap.size,0,none⟩) zT).trans d0
      have e1:=(hb24.cell (p:=⟨w.heap.size,1,none⟩) zT).trans d1
      have HP4:=lI (hpl w4 (HB12.out.trans (hb24.mono hs2)))
      have HB4:=lI (HB2.out.trans (hb24.mono HB2.out.size))
      have HSH:=lI (And.intro (hsh.mach.below hb4) (hsh.out.below hb4))
      have HGD2:=lI hgd
      have HST:=lI hst
      have HW4:=lI hw4
      clear hX HX hgd hpl hsF hsh hst hb3 hb4 hb24 hw4 d0 d1 HE2 HPL HGD hr0 hr1
      go_upto_region 7 with(fail)
      rw[←HW4.out]
      go_wp2_with fail
      refine HP4.out.mono ?_
      rintro e w5 ⟨⟨vm5,vh5,vo5,rfl,hsh5⟩,hb5⟩
      obtain⟨am5,cm5,rfl,-⟩:=hsh5.mach.1.open
      obtain⟨ah5,ch5,rfl,-⟩:=hsh5.mach.2.open (fun h hh=>qO (HGD2.out.wf.harts h hh)) om
      obtain⟨ao5,co5,rfl,-⟩:=hsh5.out.open
      have hs5:=hb5.size
      obtain⟨w6,hw6⟩:∃w6,w6=w5.alloc (.cells #[.slice am5 sF.mach.mem.length cm5,.slice ah5 sF.mach.harts.length ch5,.slice ao5 sF.out.length co5,.int .i64 sF.steps] 32):=⟨_,rfl⟩
      have hb6:Below w5.heap.size w5 w6:=by rw[hw6];exact Fb.blw
      have hb46:Below w4.heap.size w4 w6:=hb5.trans (hb6.mono hs5)
      have t0:(w6).cell? ⟨w3.heap.size,0,none⟩=some (.slice a1 n1 k1):=(hb46.cell (p:=⟨w3.heap.size,0,none⟩) ((show w3.heap.size<w4.heap.size by omega))).trans s0
      have t1:(w6).cell? ⟨w3.heap.size,1,none⟩=some (.slice a2 n2 k2):=(hb46.cell (p:=⟨w3.heap.size,1,none⟩) ((show w3.heap.size<w4.heap.size by omega))).trans s1
      have t2:(w6).cell? ⟨w3.heap.size,2,none⟩=some (.slice a3 n3 k3):=(hb46.cell (p:=⟨w3.heap.size,2,none⟩) ((show w3.heap.size<w4.heap.size by omega))).trans s2
      have t3:(w6).cell? ⟨w3.heap.size,3,none⟩=some (.int .i64 steps):=(hb46.cell (p:=⟨w3.heap.size,3,none⟩) ((show w3.heap.size<w4.heap.size by omega))).trans s3
      have z0:(w6).cell? ⟨w5.heap.size,0,none⟩=some (.slice am5 sF.mach.mem.length cm5):=by rw[hw6];go_cell
      have z1:(w6).cell? ⟨w5.heap.size,1,none⟩=some (.slice ah5 sF.mach.harts.length ch5):=by rw[hw6];go_cell
      have z2:(w6).cell? ⟨w5.heap.size,2,none⟩=some (.slice ao5 sF.out.length co5):=by rw[hw6];go_cell
      have z3:(w6).cell? ⟨w5.heap.size,3,none⟩=some (.int .i64 sF.steps):=by rw[hw6];go_cell
      have hst:=HST.out
      have HS6:=lI (same5 (.slice a1 n1 k1) (.slice a2 n2 k2) (.slice a3 n3 k3) (.slice am5 sF.mach.mem.length cm5) (.slice ah5 sF.mach.harts.length ch5) (.slice ao5 sF.out.length co5) sF.mach sF.out sF.steps w6 ⟨HGD2.out.wf.mem,HGD2.out.wf.harts⟩ (HSH.out.1.below hb46) (hsh5.mach.below hb6) (HSH.out.2.below hb46) (hsh5.out.below hb6))
      rw[hst]at t3
      have HB6:=lI (HB4.out.trans (hb46.mono HB4.out.size))
      have HW6:=lI hw6
      clear e0 e1 s0 s1 s2 s3 hsh5 hb5 hb6 hb46 hw6 hst HP4
      go_upto_region 10 with(fail)
      rw[←HW6.out]
      go_wp2_with fail
      refine HS6.out.mono ?_
      rintro e w7 ⟨rfl,hb7⟩
      go_wp2_with fail
      go_ret
      exact⟨rfl,HB6.out.trans (hb7.mono HB6.out.size)⟩
  · have hqg:=HQ.out.1 hg0
    subst hqg
    go_wp2_with fail
    refine HE2.out.mono ?_
    rintro e w3 ⟨⟨a1,n1,k1,a2,n2,k2,a3,n3,k3,a4,n4,k4,rm,pu,st,steps,rfl,HX⟩,hb3⟩
    obtain⟨e1,e2,e3,e4,rfl,rfl,rfl,rfl⟩:=HX.out.2 (by first|decide|assumption)
    cases e1
    cases e2
    cases e3
    cases e4
    have hs3:=hb3.size
    obtain⟨w4,hw4⟩:∃w4,w4=(w3.alloc (.cells #[.slice none 0 0,.slice none 0 0,.slice none 0 0,.int .i64 0] 32)).alloc (.cells #[.int .i64 0,.slice none 0 0,.int .i64 0,.int .i64 0] 35):=⟨_,rfl⟩
    have hb4:Below w3.heap.size w3 w4:=by rw[hw4];exact Fb.blw
    have hs4:w3.heap.size+1<w4.heap.size:=wJ
    have s0:(w4).cell? ⟨w3.heap.size,0,none⟩=some (.slice none 0 0):=zD
    have s1:(w4).cell? ⟨w3.heap.size,1,none⟩=some (.slice none 0 0):=zD
    have s2:(w4).cell? ⟨w3.heap.size,2,none⟩=some (.slice none 0 0):=zD
    have s3:(w4).cell? ⟨w3.heap.size,3,none⟩=some (.int .i64 0):=zD
    have t0:(w4).cell? ⟨w3.heap.size+1,0,none⟩=some (.int .i64 0):=zD
    have t1:(w4).cell? ⟨w3.heap.size+1,1,none⟩=some (.slice none 0 0):=zD
    have t2:(w4).cell? ⟨w3.heap.size+1,2,none⟩=some (.int .i64 0):=zD
    have t3:(w4).cell? ⟨w3.heap.size+1,3,none⟩=some (.int .i64 0):=zD
    have hb24:Below w2.heap.size w2 w4:=hb3.trans (hb4.mono hs3)
    have HB4:=lI (HB2.out.trans (hb24.mono HB2.out.size))
    have HW4:=lI hw4
    clear HX hb3 hb4 hb24 hw4 d0 d1 HE2 HPL HGD
    go_upto_region 7 with(fail)
    rw[←HW4.out]
    go_wp2_with fail
    refine(HZ.out w4).mono ?_
    rintro e w5 ⟨rfl,hb5⟩
    have u0:(w5).cell? ⟨w3.heap.size+1,0,none⟩=some (.int .i64 0):=(hb5.cell (p:=⟨w3.heap.size+1,0,none⟩) (hs4)).trans t0
    have u1:(w5).cell? ⟨w3.heap.size+1,1,none⟩=some (.slice none 0 0):=(hb5.cell (p:=⟨w3.heap.size+1,1,none⟩) (hs4)).trans t1
    have u2:(w5).cell? ⟨w3.heap.size+1,2,none⟩=some (.int .i64 0):=(hb5.cell (p:=⟨w3.heap.size+1,2,none⟩) (hs4)).trans t2
    have u3:(w5).cell? ⟨w3.heap.size+1,3,none⟩=some (.int .i64 0):=(hb5.cell (p:=⟨w3.heap.size+1,3,none⟩) (hs4)).trans t3
    have HB5:=lI (HB4.out.trans (hb5.mono HB4.out.size))
    clear s0 s1 s2 s3 t0 t1 t2 t3 hb5
    go_wp2_with fail
    refine(HZ9.out w5).mono ?_
    rintro e w6 ⟨rfl,hb6⟩
    go_wp2_with fail
    go_ret
    exact⟨rfl,HB5.out.trans (hb6.mono HB5.out.size)⟩
open RowB in
theorem lifted(os:Os)(started:os.Started)(H:Type)(enc:TypeId × Value→H):
    ReturnsInHanded {} Tryz.checked os 3 .any (Rows.engineSameSpec.pre6 enc Tryz.prog Tryz.f3 Rows.engineSameRow.domain false) (Rows.engineSameSpec.post enc Tryz.prog Tryz.f3 false true false false):=by
  refine RowB.law_lifted (C:=Tryz.checked) (tb:=4) kr started kr kr
    (ChangeSpec.witness6 (enc:=enc) (C:=Tryz.checked) false ⟨#[],#[.agg #[.slice none 0 0,.slice none 0 0],.slice none 0 0,.int .i64 0],[]⟩ 8 kr kr kr kr)
    rfl (fun ds h=>by match ds,h with|[_,_,_],_=>rfl) kr kr kr (of_decide_eq_true kr) ?_
  intro W base args ds ps hval hA _ hz
  have hp:(Tryz.f3).params.toList=[25,26,3]:=xJ
  rw[hp]at hA hz
  obtain⟨v0,vs0,d0,ds0,p0,q0,hargs,rfl,rfl,h0,r0⟩:=ChangeShapes.trodAll_cons hA
  obtain⟨v1,vs1,d1,ds1,p1,q1,rfl,rfl,rfl,h1,r1⟩:=ChangeShapes.trodAll_cons r0
  obtain⟨v2,vs2,d2,ds2,p2,q2,rfl,rfl,rfl,h2,r2⟩:=ChangeShapes.trodAll_cons r1
  obtain⟨rfl,rfl,rfl⟩:=ChangeShapes.trodAll_nil r2
  obtain rfl:args=#[v0,v1,v2]:=by cases args;simp_all
  obtain⟨z0,y0⟩:=UD hz
  obtain⟨z1,y1⟩:=UD y0
  obtain⟨z2,y2⟩:=UD y1
  have k0:=hval 0 25 v0 kr rfl
  have k1:=hval 1 26 v1 kr rfl
  have k2:=hval 2 3 v2 kr rfl
  obtain⟨⟨vm,vh,m⟩,rfl,hm,wf,_,_⟩:=opens_machine.arg Tryz.underlying25 k0 h0 z0
  obtain⟨⟨vs,l⟩,rfl,hs,hp,_⟩:=opens_picks.argSlice (g:=fun p:Value × List (Int × Int)=>p.1) Tryz.underlying26 k1 h1 z1
  obtain⟨a,rfl,rfl,rfl,wa⟩:=ChangeShapes.open_int Tryz.underlying3 k2 h2
  exact walk vm vh v1 m l a W hm wf hs hp (Fb.wf_i64 wa)
theorem proved:Rows.EngineSameSaid:=
  OpenClaim.holds_of_wide 3 Tryz.f3 rfl rfl rfl rfl rfl rfl rfl ⟨rfl,rfl,rfl,rfl,rfl⟩ rfl rfl rfl rfl rfl kr Tryz.func3 kr
    (of_decide_eq_true kr) (by unfold Func.isWrapper;first|(rw[if_pos (by decide+kernel)];kernel_rfl)|(rw[if_neg (by decide+kernel)];exact⟨rfl,rfl⟩))
    (fun os started H enc _=>lifted os started H enc)
#print axioms proved
end Go.Proofs.YtlfnddmncbkjaacGreat.EngineSameLaw
