import Derived.Test.YtlfnddmncbkjaabGreatDoorZGR
set_option linter.unusedVariables false
set_option linter.unusedSimpArgs false
set_option maxRecDepth 100000
set_option maxHeartbeats 4000000
namespace Go.Proofs.YtlfnddmncbkjaabGreatDoor.W
open Go.RowKit Fb
theorem dE{p:Prop}(h:p:=by
 refine wpAnyH_ready (rs:=[5]) kr zC ?_
 refine sS rfl (fun K hK=> ?_) AllReadyH.nil
 refine Qs zK _ _ _ zK w1.heap.size 62 ib _ 2 32 Tryz.underlying51 hib hib0 hib1 hib2 rfl om (.slice aX zs.length cX) zs.length (zs.flatMap qo) zK HCP8.out.own (.slice (some ⟨w7.heap.size,0,none⟩) 1 1) 1 [.int .u32 z.pc,.slice az z.ins.length cz] zK HSL8.out HONE8.out om zZ om ?_
 intro v9 w9 hown9 hgrow9
 obtain⟨a9,c9,rfl⟩:=qE hown9
 have hpb:=put_below HB68.out HCP8.out.own hgrow9 om
 have hown9b:w9.ownsRow w1.heap.size 62 2 (.slice a9 (zs.length+1) c9) (zs.length+1) (zs.flatMap qo++qo z):=by unfold qo;rw[HZV.out];exact hown9
 have HR:=lI (put_tail hne om om HCP8.out HB6.out HF6.out HZ6.out (show At w6 w.heap.size 0 [.int .i64 room,.slice aX zs.length cX,.int .i64 pu,.int .i64 st]from qg g0 (qg g1 (qg g2 (qg g3 uR)))) HB68.out HZP.out HZR8.out HZA.out hown9b hgrow9)
 have k9:=(hpb.cell (p:=⟨w.heap.size,1,none⟩) zN).trans g1
 have kf9:=(hpb.frozen (p:=⟨w.heap.size,1,none⟩) zN).trans (HF6.out 1)
 have h9:w9.cell? ⟨w.heap.size+1,0,none⟩=some (.int .u32 y.pc)∧w9.cell? ⟨w.heap.size+1,1,none⟩=some (.slice ay n cy):=⟨(hpb.cell (p:=⟨w.heap.size+1,0,none⟩) zV).trans b0,(hpb.cell (p:=⟨w.heap.size+1,1,none⟩) zV).trans b1⟩
 have hs9:=hpb.size
 clear hown9 hown9b hgrow9 hpb g0 g1 g2 g3 b0 b1 gd1 h1w hHeld hHeld3 hHeld4 HCL HB1C HG1
 refine hK.out _ _ h9 (fun hHeld9=> ?_)
 clear hK K
 refine wpAnyH_ready (rs:=[6]) kr zC ?_
 refine sS rfl (fun K hK=> ?_) AllReadyH.nil
 go_simp
 refine hK.out _ _ h9 (fun hHeld10=> ?_)
 clear hK K
 refine wpAnyH_ready (rs:=[7]) kr zC ?_
 refine sS rfl (fun K hK=> ?_) AllReadyH.nil
 go_simp
 have h10:(w9.setCell ⟨w.heap.size,1,none⟩ (.slice a9 (zs.length+1) c9)).cell? ⟨w.heap.size+1,0,none⟩=some (.int .u32 y.pc)∧(w9.setCell ⟨w.heap.size,1,none⟩ (.slice a9 (zs.length+1) c9)).cell? ⟨w.heap.size+1,1,none⟩=some (.slice ay n cy):=⟨(sJ _ _ _ _ zS).trans h9.1,(sJ _ _ _ _ zS).trans h9.2⟩
 refine hK.out _ _ h10 (fun hHeld11=> ?_)
 clear hK K
 refine wpAnyH_done kr ?_ _
 clear hHeld9 hHeld10 hHeld11 h9 h10
 go_wp2_with fail
 go_meet
 case rel=>exact⟨_,_,_,HR⟩):p:=h
theorem dF{p:Prop}(h:p:=by
 refine wpAnyH_ready (rs:=[4]) kr zC ?_
 refine sS rfl (fun K hK=> ?_) AllReadyH.nil
 go_simp
 obtain⟨w8,hw8⟩:∃w8,w8=w7.alloc (.cells #[.int .u32 z.pc,.slice az z.ins.length cz] 62):=⟨_,rfl⟩
 have hb78:Below w7.heap.size w7 w8:=xF
 have hb68:Below w6.heap.size w6 w8:=hb67.trans (hb78.mono hb67.size)
 have HW8:=lI hw8
 have hs7:=hb67.size
 have hs8:=hb78.size
 have HSL8:Hid (Sl w8 (.slice (some ⟨w7.heap.size,0,none⟩) 1 1) 2 1 [.int .u32 z.pc,.slice az z.ins.length cz]):=lI (by rw[hw8];exact at_new2 _ _ _ _)
 have HONE8:Hid (∀u∈[Value.int .u32 z.pc,.slice az z.ins.length cz],u.oneCell'=true):=lI yT
 have HCP8:=lI (HCP6.out.below hb68)
 have HZR8:Hid (w8.ownsRow w1.heap.size 91 5 z.vi z.ins.length (z.ins.flatMap jJ)):=lI (qe (qP hzr hb78) (by have:w6.drew.heap.size=w6.heap.size:=rfl;omega))
 have HZP:=lI hzo.pc
 have HZV:=lI hzv
 have HB68:=lI hb68
 have h1w:=HB1C.out _ hb68
 rw[←hw8]
 refine hK.out _ _ h1w (fun hHeld4=> ?_)
 clear hK K hw8 hb78 hb67 hb68 hb7 hzo hzr hzv
 exact dE):p:=h
theorem cput_far(room:Int)(v:Value)(pu st:Int)(l:List BlkD)(y:BlkD)(w:World)(hv:Blks w v l)(hy:uO w y)(hok1:1≤y.ins.length)(hok2:y.ins.length≤16)(hins:∀x∈l,x.ins.length≤3518437208883)(hl:l.length*32≤140737488351232):
    Calls Tryz.prog 84 #[.agg #[.int .i64 room,v,.int .i64 pu,.int .i64 st],.agg #[.int .u32 y.pc,y.vi]] w fun e w'=>(∃v' zs,e=.returned (.tuple #[.agg #[.int .i64 room,v',.int .i64 (putP room pu l y),.int .i64 st],.int .i64 0])∧Blks w' v' zs∧zs.map BlkD.abs=(putL room l y).map BlkD.abs∧Far w.heap.size v' zs∧Typ 62 91 w' v' zs)∧Below w.heap.size w w':=by
  obtain⟨ao,cap,rfl,-⟩:=hv.1.open (fun _ _=>rfl) om
  obtain⟨ay,cy,hyv,-⟩:=hy.at_.open (fun _ _=>rfl) om
  rw[hyv]
  obtain⟨n,hn⟩:∃n,n=y.ins.length:=⟨_,rfl⟩
  rw[←hn]at hok1 hok2 ⊢
  obtain⟨w1,hw1⟩:∃w1,w1=((w.alloc (.cells #[.int .i64 room,.slice ao l.length cap,.int .i64 pu,.int .i64 st] 53)).alloc (.cells #[.int .u32 y.pc,.slice ay n cy] 62)).alloc (.cells #[.int .i64 0,.slice none 0 0,.int .i64 0,.int .i64 0] 53):=⟨_,rfl⟩
  have hb1:Below w.heap.size w w1:=zI
  have hs1:w1.heap.size=w.heap.size+3:=zO
  have c0:(w1).cell? ⟨w.heap.size,0,none⟩=some (.int .i64 room):=zA
  have c1:(w1).cell? ⟨w.heap.size,1,none⟩=some (.slice ao l.length cap):=zA
  have c2:(w1).cell? ⟨w.heap.size,2,none⟩=some (.int .i64 pu):=zA
  have c3:(w1).cell? ⟨w.heap.size,3,none⟩=some (.int .i64 st):=zA
  have r0:(w1).cell? ⟨w.heap.size+1,0,none⟩=some (.int .u32 y.pc):=zA
  have r1:(w1).cell? ⟨w.heap.size+1,1,none⟩=some (.slice ay n cy):=zA
  have hZ:w1.heap[w.heap.size+1+1]? =some (.cells #[.int .i64 0,.slice none 0 0,.int .i64 0,.int .i64 0] 53 (0,0)):=by
    have:=sP ((w.alloc (.cells #[.int .i64 room,.slice ao l.length cap,.int .i64 pu,.int .i64 st] 53)).alloc (.cells #[.int .u32 y.pc,.slice ay n cy] 62)) (.cells #[.int .i64 0,.slice none 0 0,.int .i64 0,.int .i64 0] 53)
    rw[World.size_alloc,World.size_alloc]at this
    rw[hw1];exact this
  have hA:w1.heap[w.heap.size]? =some (.cells #[.int .i64 room,.slice ao l.length cap,.int .i64 pu,.int .i64 st] 53 (0,0)):=by
    have:=sP w (.cells #[.int .i64 room,.slice ao l.length cap,.int .i64 pu,.int .i64 st] 53)
    rw[hw1,heap_alloc_old _ _ zL,heap_alloc_old _ _ zC];exact this
  have HCO:=lI (ccopied_any room (.slice ao l.length cap) pu st l w1 (hv.below hb1) hins hl)
  have HY0:=lI hy
  have HYV:=lI (And.intro hyv hn)
  have HA:=lI hA
  have HZ:=lI hZ
  have HW1:=lI hw1
  have HB1:=lI hb1
  have hln:l.length≤4398046510976:=om
  have k1:¬(n:Int)<1:=om
  have k2:¬(16:Int)<(n:Int):=om
  obtain⟨zl,hzl⟩:∃z,z=putL room l y:=⟨_,rfl⟩
  obtain⟨zp,hzp⟩:∃z,z=putP room pu l y:=⟨_,rfl⟩
  rw[←hzl,←hzp]
  have HZL:=lI hzl
  have HZP:=lI hzp
  clear hw1 hb1 hv hy hins hl hZ hA hyv hn hzl hzp
  obtain⟨ib,hib,hib0,hib1,hib2⟩:=info_parts info_block5
  have hne:62≠91:=zF
  go_enter Tryz.func84,Tryz.ntmps84
  go_upto_region 1 with(fail)
  rw[←HW1.out]
  go_upto_region 3 with(fail)
  go_wp2_with fail
  refine HCO.out.mono ?_
  rintro e w2 ⟨⟨v2,ys,rfl,hcp,habs⟩,hb2⟩
  have hyl:ys.length=l.length:=by have:=congrArg List.length habs;simpa using this
  obtain⟨a2,c2',rfl⟩:=qE hcp.own
  have l1:w.heap.size<w1.heap.size:=om
  have l2:w.heap.size+1<w1.heap.size:=om
  have q0:(w2).cell? ⟨w.heap.size+1,0,none⟩=some (.int .u32 y.pc):=(hb2.cell (p:=⟨w.heap.size+1,0,none⟩) (l2)).trans r0
  have q1:(w2).cell? ⟨w.heap.size+1,1,none⟩=some (.slice ay n cy):=(hb2.cell (p:=⟨w.heap.size+1,1,none⟩) (l2)).trans r1
  have hs2:=hb2.size
  have hth:w2.there w.heap.size 0 4:=qt ((hb2.block _ l1).trans HA.out) rfl
  have hsz:(Tryz.prog.info? 53).map (·.size)=some (#[.int .i64 room,.slice a2 ys.length c2',.int .i64 pu,.int .i64 st]:Array Value).size:=yD
  have hall:(#[.int .i64 room,.slice a2 ys.length c2',.int .i64 pu,.int .i64 st]:Array Value).all (·.oneCell')=true:=zT
  obtain⟨w3,hw3⟩:∃w3,w3=w2.setCells w.heap.size 0 (#[.int .i64 room,.slice a2 ys.length c2',.int .i64 pu,.int .i64 st]:Array Value).toList:=⟨_,rfl⟩
  have hbk:∀k,k≠w.heap.size→w3.heap[k]? =w2.heap[k]? :=fun k hk=>by rw[hw3];exact qT hk _ _ _
  have hat3:At w3 w.heap.size 0 [.int .i64 room,.slice a2 ys.length c2',.int .i64 pu,.int .i64 st]:=by rw[hw3];exact qv hth
  have hs3:w3.heap.size=w2.heap.size:=by rw[hw3];simp[QK]
  have hfz:∀o,w3.frozen? ⟨w.heap.size,o,none⟩=false:=fun o=>by rw[hw3,World.frozen?_setCells];exact Qz.frozen (n:=4) ⟨_,(hb2.block _ l1).trans HA.out,rfl⟩ o
  have m0:=(qA (hbk (w.heap.size+1) om) 0).trans q0
  have m1:=(qA (hbk (w.heap.size+1) om) 1).trans q1
  have p0:(w3).cell? ⟨w.heap.size,0,none⟩=some (.int .i64 room):=by have:=hat3 0 zC;simpa using this
  have p1:(w3).cell? ⟨w.heap.size,1,none⟩=some (.slice a2 ys.length c2'):=by have:=hat3 1 zC;simpa using this
  have p2:(w3).cell? ⟨w.heap.size,2,none⟩=some (.int .i64 pu):=by have:=hat3 2 zC;simpa using this
  have p3:(w3).cell? ⟨w.heap.size,3,none⟩=some (.int .i64 st):=by have:=hat3 3 zC;simpa using this
  have HCP3:Hid (Cp w1.heap.size 62 91 w3 (.slice a2 ys.length c2') ys):=lI (by rw[hw3];exact(hcp.mono om).sets om _ _)
  have HZ3:Hid (w3.heap[w.heap.size+1+1]? =_):=lI ((hbk _ om).trans ((hb2.block _ om).trans HZ.out))
  have HAB:=lI habs
  have HF3:=lI hfz
  have HYL:=lI hyl
  have HB3:Hid (Below w.heap.size w w3):=lI (by rw[hw3];exact qL (sN _) _ _ _ (HB1.out.trans (hb2.mono HB1.out.size)))
  have HY3:Hid (uO w3 y):=lI (HY0.out.below HB3.out)
  obtain⟨q,hq⟩:∃q,q=qu ys y.pc:=⟨_,rfl⟩
  have hqc:(∃k:Nat,q=(k:Int)∧k<ys.length)∨q= -1:=by
    rw[hq];unfold qu;split
    · exact .inl ⟨_,rfl,by assumption⟩
    · exact .inr rfl
  have HQ:=lI hq
  have HCA:Hid (Calls Tryz.prog 111 #[.agg #[.int .i64 room,.slice a2 ys.length c2',.int .i64 pu,.int .i64 st],.int .u32 y.pc] w3 fun e w'=>e=.returned (.int .i64 q)∧Below w3.heap.size w3 w'):=lI (by rw[hq];exact cat_any room _ pu st ys y.pc w3 HCP3.out.blks)
  clear hq
  have HW3:=lI hw3
  have hsp:ys.length≤4398046510976:=om
  clear c0 c1 c2 c3 r0 r1 hb2 hcp habs hyl hw3 hbk hat3 hfz q0 q1
  go_upto_region 4 with(first|(refine wpList_store_mid rfl 53 _ _ rfl w.heap.size 0 #[.int .i64 room,.slice a2 ys.length c2',.int .i64 pu,.int .i64 st] rfl rfl hth hsz hall ?_))
  rw[←HW3.out]
  clear hth hsz hall
  go_wp2_with fail
  refine HCA.out.mono ?_
  rintro e w4 ⟨rfl,hb4⟩
  have l4:w.heap.size<w3.heap.size:=om
  have l5:w.heap.size+1<w3.heap.size:=om
  have d0:(w4).cell? ⟨w.heap.size,0,none⟩=some (.int .i64 room):=(hb4.cell (p:=⟨w.heap.size,0,none⟩) (l4)).trans p0
  have d1:(w4).cell? ⟨w.heap.size,1,none⟩=some (.slice a2 ys.length c2'):=(hb4.cell (p:=⟨w.heap.size,1,none⟩) (l4)).trans p1
  have d2:(w4).cell? ⟨w.heap.size,2,none⟩=some (.int .i64 pu):=(hb4.cell (p:=⟨w.heap.size,2,none⟩) (l4)).trans p2
  have d3:(w4).cell? ⟨w.heap.size,3,none⟩=some (.int .i64 st):=(hb4.cell (p:=⟨w.heap.size,3,none⟩) (l4)).trans p3
  have t0:(w4).cell? ⟨w.heap.size+1,0,none⟩=some (.int .u32 y.pc):=(hb4.cell (p:=⟨w.heap.size+1,0,none⟩) (l5)).trans m0
  have t1:(w4).cell? ⟨w.heap.size+1,1,none⟩=some (.slice ay n cy):=(hb4.cell (p:=⟨w.heap.size+1,1,none⟩) (l5)).trans m1
  have hf4:w4.frozen? ⟨w.heap.size,1,none⟩=false:=(hb4.frozen (p:=⟨w.heap.size,1,none⟩) l4).trans (HF3.out 1)
  have hs4:=hb4.size
  have HCP4:=lI (HCP3.out.below hb4)
  have HB34:=lI hb4
  clear p0 p1 p2 p3 m0 m1 hb4
  go_upto_if 25 with(fail)
  go_cut []from 25 to 32 (fun wx=>∃(aX:Option Addr) (cX:Nat) (zs:List BlkD),Hid (Cp w1.heap.size 62 91 wx (.slice aX zs.length cX) zs∧zs=dq (qu ys y.pc) ys∧Below w.heap.size w wx∧(∀o,wx.frozen? ⟨w.heap.size,o,none⟩=false)∧wx.heap[w.heap.size+1+1]? =some (.cells #[.int .i64 0,.slice none 0 0,.int .i64 0,.int .i64 0] 53 (0,0))∧At wx w.heap.size 0 [.int .i64 room,.slice aX zs.length cX,.int .i64 pu,.int .i64 st]∧At wx (w.heap.size+1) 0 [.int .u32 y.pc,.slice ay n cy]∧w.heap.size+3≤wx.heap.size))
  case first=>
    rcases hqc with⟨k,hqk,hkl⟩|rfl
    · have k3:(0:Int)≤q:=om
      have k4:wrap64 (q+1)=q+1:=yU
      have HDE:=lI (delete_any w1.heap.size (.slice a2 ys.length c2') ys k w4 HCP4.out om hkl)
      rw[←hqk]at HDE
      have HQK:=lI hqk
      clear hqk
      rw[show decide ((0:Int)≤q)=true from decide_eq_true k3]
      go_upto_region 6 with(fail)
      go_wp2_with fail
      refine HDE.out.mono ?_
      rintro e w5 ⟨⟨v5,rfl,hcp5⟩,hb5⟩
      obtain⟨zs,hzs⟩:∃zs,zs=ys.eraseIdx k:=⟨_,rfl⟩
      rw[←hzs]at hcp5
      obtain⟨a5,c5,rfl⟩:=qE hcp5.own
      have e1:=(hb5.cell (p:=⟨w.heap.size,1,none⟩) zN).trans d1
      have ef:=(hb5.frozen (p:=⟨w.heap.size,1,none⟩) zN).trans hf4
      obtain⟨w6,hw6⟩:∃w6,w6=w5.setCell ⟨w.heap.size,1,none⟩ (.slice a5 zs.length c5):=⟨_,rfl⟩
      have HW6:=lI hw6
      have hb6:Below w.heap.size w4 w6:=by rw[hw6];exact(hb5.mono (show w.heap.size≤w1.heap.size by omega)).setCell (p:=⟨w.heap.size,1,none⟩) (sN _) _
      have hk6:∀b,b<w1.heap.size→b≠w.heap.size→w6.heap[b]? =w4.heap[b]? :=fun b hb hne=>by rw[hw6,sT _ _ _ _ hne];exact hb5.block b hb
      have hj:∀o,o≠1→w6.cell? ⟨w.heap.size,o,none⟩=w4.cell? ⟨w.heap.size,o,none⟩:=fun o ho=>by
        rw[hw6,sJ _ _ _ _ zD];exact hb5.cell (p:=⟨w.heap.size,o,none⟩) zN
      have hf6:∀o,w6.frozen? ⟨w.heap.size,o,none⟩=false:=fun o=>by
        rw[hw6,sL,hb5.frozen (p:=⟨w.heap.size,o,none⟩) zN,HB34.out.frozen (p:=⟨w.heap.size,o,none⟩) l4];exact HF3.out o
      have HCP6:Cp w1.heap.size 62 91 w6 (.slice a5 zs.length c5) zs:=by rw[hw6];exact hcp5.set yV _
      have HZS:zs=dq (qu ys y.pc) ys:=by rw[←HQ.out,hzs];unfold dq;rw[if_pos k3,HQK.out];simp
      have HB6:Below w.heap.size w w6:=(HB3.out.trans (HB34.out.mono om)).trans hb6
      have g0:=(hj 0 om).trans d0
      have g1:w6.cell? ⟨w.heap.size,1,none⟩=some (.slice a5 zs.length c5):=by rw[hw6];exact sK _ _ _ e1
      have g2:=(hj 2 om).trans d2
      have g3:=(hj 3 om).trans d3
      have b0:=(qA (hk6 (w.heap.size+1) om om) 0).trans t0
      have b1:=(qA (hk6 (w.heap.size+1) om om) 1).trans t1
      have HZ6:=(hk6 (w.heap.size+1+1) om om).trans ((HB34.out.block _ om).trans HZ3.out)
      have hs6:w.heap.size+3≤w6.heap.size:=by have:=hb6.size;omega
      have HR:=lI (And.intro HCP6 (And.intro HZS (And.intro HB6 (And.intro hf6 (And.intro HZ6 (And.intro (show At w6 w.heap.size 0 [.int .i64 room,.slice a5 zs.length c5,.int .i64 pu,.int .i64 st]from qg g0 (qg g1 (qg g2 (qg g3 uR)))) (And.intro (show At w6 (w.heap.size+1) 0 [.int .u32 y.pc,.slice ay n cy]from qg b0 (qg b1 uR)) hs6)))))))
      clear d0 d1 d2 d3 t0 t1 hf4 hb5 hb6 hk6 hj hcp5 hw6 hzs HCP3 HCP4 hf6 HCP6 HZS HB6 g0 g1 g2 g3 b0 b1 HZ6 hs6
      go_wp2_with fail
      go_meet
      case rel=>
        rw[←HW6.out]
        exact⟨_,_,_,HR⟩
    · have HR:=lI (And.intro HCP4.out (And.intro (show ys=dq (qu ys y.pc) ys by rw[←HQ.out];unfold dq;rw[if_neg om]) (And.intro (HB3.out.trans (HB34.out.mono (show w.heap.size≤w3.heap.size by omega))) (And.intro (show ∀o,w4.frozen? ⟨w.heap.size,o,none⟩=false from fun o=>by
        rw[HB34.out.frozen (p:=⟨w.heap.size,o,none⟩) l4];exact HF3.out o) (And.intro ((HB34.out.block (w.heap.size+1+1) om).trans HZ3.out) (And.intro (show At w4 w.heap.size 0 [.int .i64 room,.slice a2 ys.length c2',.int .i64 pu,.int .i64 st]from qg d0 (qg d1 (qg d2 (qg d3 uR)))) (And.intro (show At w4 (w.heap.size+1) 0 [.int .u32 y.pc,.slice ay n cy]from qg t0 (qg t1 uR)) (show w.heap.size+3≤w4.heap.size by omega))))))))
      clear d0 d1 d2 d3 t0 t1 hf4 HCP3 HCP4
      go_wp2_with fail
      go_meet
      case rel=>exact⟨_,_,_,HR⟩
  case rest=>
    obtain⟨aX,cX,zs,HX⟩:=hcut
    have HZS:=lI HX.out.2.1
    obtain⟨w6,hw6⟩:∃w6,w6=wc:=⟨_,rfl⟩
    have hlz:zs.length≤ys.length:=by rw[HZS.out];exact dq_len _ _
    have HCP6:=lI HX.out.1
    have HB6:=lI HX.out.2.2.1
    have HF6:=lI HX.out.2.2.2.1
    have HZ6:=lI HX.out.2.2.2.2.1
    have g0:=HX.out.2.2.2.2.2.1.get (j:=0) rfl
    have g1:=HX.out.2.2.2.2.2.1.get (j:=1) rfl
    have g2:=HX.out.2.2.2.2.2.1.get (j:=2) rfl
    have g3:=HX.out.2.2.2.2.2.1.get (j:=3) rfl
    have b0:=HX.out.2.2.2.2.2.2.1.get (j:=0) rfl
    have b1:=HX.out.2.2.2.2.2.2.1.get (j:=1) rfl
    have hs6:=HX.out.2.2.2.2.2.2.2
    simp only[Nat.add_zero,sM]at g0 g1 g2 g3 b0 b1
    rw[←hw6]at HCP6 HB6 HF6 HZ6 g0 g1 g2 g3 b0 b1 hs6 ⊢
    clear hw6 HX d0 d1 d2 d3 t0 t1 hf4 HCP3 HCP4 hqc
    go_upto_region 7 with(fail)
    have HCL:Hid (∀W,Below w6.heap.size w6 W→Calls Tryz.prog 113 #[.agg #[.int .u32 y.pc,.slice ay n cy]] W fun e w'=>(∃z:BlkD,e=.returned (.agg #[.int .u32 z.pc,z.vi])∧z.pc=y.pc∧z.ins=y.ins∧uO w' z∧w'.ownsRow (W.heap.size+2) 91 5 z.vi z.ins.length (z.ins.flatMap jJ))∧Below W.heap.size W w'):=lI (fun W hW=>by
      have:=cclone_any y W (HY0.out.below (HB6.out.trans (hW.mono om))) (by have:=HYV.out.2;omega)
      rw[HYV.out.1,←HYV.out.2]at this
      exact this)
    have HB1C:Hid (∀W,Below w6.heap.size w6 W→W.cell? ⟨w.heap.size+1,0,none⟩=some (.int .u32 y.pc)∧W.cell? ⟨w.heap.size+1,1,none⟩=some (.slice ay n cy)):=lI (fun W hW=>⟨(hW.cell (p:=⟨w.heap.size+1,0,none⟩) zV).trans b0,(hW.cell (p:=⟨w.heap.size+1,1,none⟩) zV).trans b1⟩)
    have HG1:Hid (∀W,Below w6.heap.size w6 W→W.cell? ⟨w.heap.size,1,none⟩=some (.slice aX zs.length cX)):=lI (fun W hW=>(hW.cell (p:=⟨w.heap.size,1,none⟩) zN).trans g1)
    have hbd:Below w6.heap.size w6 w6.drew:=Below.drew br
    have gd1:=HG1.out _ hbd
    go_cut []from 33 to 39 (fun wx=>∃(aY:Option Addr) (cY:Nat) (z:BlkD),Hid (Cp w1.heap.size 62 91 wx (.slice aY (zs.length+1) cY) (zs++[z])∧z.abs=y.abs∧Below w.heap.size w wx∧(∀o,wx.frozen? ⟨w.heap.size,o,none⟩=false)∧wx.heap[w.heap.size+1+1]? =some (.cells #[.int .i64 0,.slice none 0 0,.int .i64 0,.int .i64 0] 53 (0,0))∧At wx w.heap.size 0 [.int .i64 room,.slice aY (zs.length+1) cY,.int .i64 pu,.int .i64 st]∧w6.heap.size≤wx.heap.size))
    case first=>
      refine wp_region_held_drew (S:=fun W=>W.cell? ⟨w.heap.size+1,0,none⟩=some (.int .u32 y.pc)∧W.cell? ⟨w.heap.size+1,1,none⟩=some (.slice ay n cy)) kr (HB1C.out _ hbd) (fun hHeld=> ?_)
      refine tak 0 (.pointer (some ⟨w.heap.size,1,none⟩)) ?_
      try simp only[sA,sB,sC,Act.put,sD,sE,sG]
      refine tak 2 (.agg #[.int .u32 y.pc,.slice ay n cy]) ?_
      try simp only[sA,sB,sC,Act.put,sD,sE,sG]
      refine wpAnyH_ready (rs:=[1,3]) kr zC ?_
      refine sS rfl (fun K hK=> ?_) (sS rfl (fun K hK=> ?_) AllReadyH.nil)
      · go_simp
        refine hK.out _ _ hHeld (fun hHeld2=> ?_)
        clear hK K
        refine wpAnyH_ready (rs:=[3]) kr zC ?_
        refine sS rfl (fun K hK=> ?_) AllReadyH.nil
        go_simp
        refine(HCL.out _ hbd).mono ?_
        rintro e w7 ⟨⟨z,rfl,hz1,hz2,hzo,hzr⟩,hb7⟩
        obtain⟨az,cz,hzv⟩:=qE hzr
        rw[hzv]
        have hb67:Below w6.heap.size w6 w7:=hbd.trans hb7
        have HZA:Hid (z.abs=y.abs):=lI (by unfold BlkD.abs;rw[hz1,hz2])
        clear hz1 hz2
        refine hK.out _ _ (HB1C.out _ hb67) (fun hHeld3=> ?_)
        clear hK K
        exact dF
      · go_simp
        refine(HCL.out _ hbd).mono ?_
        rintro e w7 ⟨⟨z,rfl,hz1,hz2,hzo,hzr⟩,hb7⟩
        obtain⟨az,cz,hzv⟩:=qE hzr
        rw[hzv]
        have hb67:Below w6.heap.size w6 w7:=hbd.trans hb7
        have HZA:Hid (z.abs=y.abs):=lI (by unfold BlkD.abs;rw[hz1,hz2])
        clear hz1 hz2
        refine hK.out _ _ (HB1C.out _ hb67) (fun hHeld3=> ?_)
        clear hK K
        refine wpAnyH_ready (rs:=[1,4]) kr zC ?_
        refine sS rfl (fun K hK=> ?_) (sS rfl (fun K hK=> ?_) AllReadyH.nil)
        · have gd7:=HG1.out _ hb67
          go_simp
          refine hK.out _ _ (HB1C.out _ hb67) (fun hHeld37=> ?_)
          clear hK K gd7
          exact dF
        · go_simp
          obtain⟨w8,hw8⟩:∃w8,w8=w7.alloc (.cells #[.int .u32 z.pc,.slice az z.ins.length cz] 62):=⟨_,rfl⟩
          have hb78:Below w7.heap.size w7 w8:=xF
          have hb68:Below w6.heap.size w6 w8:=hb67.trans (hb78.mono hb67.size)
          have HW8:=lI hw8
          have hs7:=hb67.size
          have hs8:=hb78.size
          have HSL8:Hid (Sl w8 (.slice (some ⟨w7.heap.size,0,none⟩) 1 1) 2 1 [.int .u32 z.pc,.slice az z.ins.length cz]):=lI (by rw[hw8];exact at_new2 _ _ _ _)
          have HONE8:Hid (∀u∈[Value.int .u32 z.pc,.slice az z.ins.length cz],u.oneCell'=true):=lI yT
          have HCP8:=lI (HCP6.out.below hb68)
          have HZR8:Hid (w8.ownsRow w1.heap.size 91 5 z.vi z.ins.length (z.ins.flatMap jJ)):=lI (qe (qP hzr hb78) (by have:w6.drew.heap.size=w6.heap.size:=rfl;omega))
          have HZP:=lI hzo.pc
          have HZV:=lI hzv
          have HB68:=lI hb68
          have h1w:=HB1C.out _ hb68
          rw[←hw8]
          refine hK.out _ _ h1w (fun hHeld4=> ?_)
          clear hK K hw8 hb78 hb67 hb68 hb7 hzo hzr hzv
          refine wpAnyH_ready (rs:=[1]) kr zC ?_
          refine sS rfl (fun K hK=> ?_) AllReadyH.nil
          have gd8:=HG1.out _ HB68.out
          go_simp
          refine hK.out _ _ h1w (fun hHeld38=> ?_)
          clear hK K gd8
          exact dE
    case rest=>
      obtain⟨aY,cY,z,HX2⟩:=hcut
      obtain⟨w8,hw8⟩:∃w8,w8=wc:=⟨_,rfl⟩
      rw[←hw8]at HX2 ⊢
      obtain⟨m,hm⟩:∃m,m=zs.length+1:=⟨_,rfl⟩
      rw[←hm]at HX2
      have HM:=lI hm
      have hm1:1≤m:=om
      have hm2:m≤4398046510977:=om
      clear hm
      clear hw8 g0 g1 g2 g3 b0 b1 HCL HB1C HG1 hbd gd1
      have q0:=HX2.out.2.2.2.2.2.1.get (j:=0) rfl
      have q1:=HX2.out.2.2.2.2.2.1.get (j:=1) rfl
      have q2:=HX2.out.2.2.2.2.2.1.get (j:=2) rfl
      have q3:=HX2.out.2.2.2.2.2.1.get (j:=3) rfl
      simp only[Nat.add_zero,sM]at q0 q1 q2 q3
      have f1:=HX2.out.2.2.2.1 1
      have f2:=HX2.out.2.2.2.1 2
      have hs8:=HX2.out.2.2.2.2.2.2
      have HB8:=lI HX2.out.2.2.1
      have HCP8:=lI HX2.out.1
      have htz:w8.there (w.heap.size+1+1) 0 4:=qt HX2.out.2.2.2.2.1 rfl
      have HFI:=lI (put_fin (room:=room) HAB.out HX2.out.2.1 HZS.out pu)
      rw[←HZL.out,←HZP.out,←HM.out]at HFI
      clear HX2
      go_upto_if 45 with(fail)
      by_cases hgt:room<(m:Int)
      · obtain⟨hf1,hf2⟩:=HFI.out.1 hgt
        have HF1:=lI hf1
        have HF2:=lI hf2
        clear hf1 hf2
        obtain⟨g,hga,hcl,hcm⟩:∃g,aY=some ⟨g,0,none⟩∧m≤cY∧cY≤maxLen:=by
          have hno:=HCP8.out.own
          rw[show(zs++[z]).length=m by rw[HM.out];simp]at hno
          rcases jF hno with⟨e,_⟩|⟨g,cap',e,_,_,h1,h2,_⟩
          · cases e;omega
          · cases e;exact⟨g,rfl,h1,h2⟩
        subst hga
        unfold maxLen at hcm
        obtain⟨pn,hpn⟩:∃p,p=wrap64 (pu+1):=⟨_,rfl⟩
        have HPN:=lI hpn
        clear hpn
        have j0:(1:Int)≤(m:Int):=om
        have j1:(m:Int)≤(cY:Int):=om
        have j2:(1:Int)≤(cY:Int):=om
        by_cases hc1:cY=1
        · have hm3:m=1:=om
          have hk0:zs=[]:=List.eq_nil_of_length_eq_zero (by have:=HM.out;omega)
          subst hm3
          subst hc1
          have HK0:=lI hk0
          clear hk0
          obtain⟨w9,hw9⟩:∃w9,w9=(w8.setCell ⟨w.heap.size,1,none⟩ (.slice (some ⟨g,0,none⟩) 0 0)).setCell ⟨w.heap.size,2,none⟩ (.int .i64 pn):=⟨_,rfl⟩
          have p0:w9.cell? ⟨w.heap.size,0,none⟩=some (.int .i64 room):=by rw[hw9];exact(sJ _ _ _ _ zD).trans ((sJ _ _ _ _ zD).trans q0)
          have p1:w9.cell? ⟨w.heap.size,1,none⟩=some (.slice (some ⟨g,0,none⟩) 0 0):=by rw[hw9];exact(sJ _ _ _ _ zD).trans (sK _ _ _ q1)
          have p2:w9.cell? ⟨w.heap.size,2,none⟩=some (.int .i64 pn):=by rw[hw9];exact sK _ _ _ ((sJ _ _ _ _ zD).trans q2)
          have p3:w9.cell? ⟨w.heap.size,3,none⟩=some (.int .i64 st):=by rw[hw9];exact(sJ _ _ _ _ zD).trans ((sJ _ _ _ _ zD).trans q3)
          have ht9:w9.there (w.heap.size+1+1) 0 4:=by rw[hw9];exact Qa (Qa htz _ rfl _) _ rfl _
          have hsz5:(Tryz.prog.info? 53).map (·.size)=some (#[.int .i64 room,.slice (some ⟨g,0,none⟩) 0 0,.int .i64 pn,.int .i64 st]:Array Value).size:=yD
          have hall:(#[.int .i64 room,.slice (some ⟨g,0,none⟩) 0 0,.int .i64 pn,.int .i64 st]:Array Value).all (·.oneCell')=true:=zT
          have hld:=QQ (P:=Tryz.prog) ht9 Tryz.underlying53 rfl hsz5
          have hb9:Below w.heap.size w w9:=by rw[hw9];exact(HB8.out.setCell (p:=⟨w.heap.size,1,none⟩) (sN _) _).setCell (p:=⟨w.heap.size,2,none⟩) (sN _) _
          have hbw:Below w.heap.size w (w9.setCells (w.heap.size+1+1) 0 (#[.int .i64 room,.slice (some ⟨g,0,none⟩) 0 0,.int .i64 pn,.int .i64 st]:Array Value).toList):=qL om _ _ _ hb9
          have HBW:=lI hbw
          have HCP9:Hid (Cp w1.heap.size 62 91 (w9.setCells (w.heap.size+1+1) 0 (#[.int .i64 room,.slice (some ⟨g,0,none⟩) 0 0,.int .i64 pn,.int .i64 st]:Array Value).toList) (.slice (some ⟨g,0,none⟩) 1 1) (zs++[z])):=lI (by rw[hw9];exact Cp.sets om _ _ ((HCP8.out.set (show w.heap.size<w1.heap.size by omega) _).set (show w.heap.size<w1.heap.size by omega) _))
          have HFAR:Hid (Far w.heap.size (.slice (some ⟨g,0,none⟩) 0 0) ((zs++[z]).drop 1)):=lI ⟨fun q e=>by have h1:=HCP9.out.far.1 q e;omega,fun x hx q e=>by have h1:=HCP9.out.far.2 x (List.mem_of_mem_drop hx) q e;omega⟩
          have HW9:=lI hw9
          clear hw9 hbw hb9
          go_upto_region 11 with(fail)
          rw[←HPN.out,←HW9.out]
          clear q0 q1 q2 q3 f1 f2 htz
          go_wp2_with (first|(refine wpList_store_mid rfl 53 _ _ rfl (w.heap.size+1+1) 0 #[.int .i64 room,.slice (some ⟨g,0,none⟩) 0 0,.int .i64 pn,.int .i64 st] rfl rfl ht9 hsz5 hall ?_))
          refine sO (QI zK _ zK hld) rfl ?_
          rw[HF2.out,←HPN.out]
          refine⟨⟨_,rfl,(zs++[z]).drop 1,⟨by rw[HK0.out];exact sl_none zF xH,fun x hx=>HCP9.out.ok x (List.mem_of_mem_drop hx)⟩,HF1.out,HFAR.out,HCP9.out.typ.drop rfl 1⟩,HBW.out⟩
        · have hc2:¬cY-1=0:=om
          have hc3:¬(cY:Int)=1:=om
          obtain⟨w9,hw9⟩:∃w9,w9=(w8.setCell ⟨w.heap.size,1,none⟩ (.slice (some ⟨g,2,none⟩) (m-1) (cY-1))).setCell ⟨w.heap.size,2,none⟩ (.int .i64 pn):=⟨_,rfl⟩
          have p0:w9.cell? ⟨w.heap.size,0,none⟩=some (.int .i64 room):=by rw[hw9];exact(sJ _ _ _ _ zD).trans ((sJ _ _ _ _ zD).trans q0)
          have p1:w9.cell? ⟨w.heap.size,1,none⟩=some (.slice (some ⟨g,2,none⟩) (m-1) (cY-1)):=by rw[hw9];exact(sJ _ _ _ _ zD).trans (sK _ _ _ q1)
          have p2:w9.cell? ⟨w.heap.size,2,none⟩=some (.int .i64 pn):=by rw[hw9];exact sK _ _ _ ((sJ _ _ _ _ zD).trans q2)
          have p3:w9.cell? ⟨w.heap.size,3,none⟩=some (.int .i64 st):=by rw[hw9];exact(sJ _ _ _ _ zD).trans ((sJ _ _ _ _ zD).trans q3)
          have ht9:w9.there (w.heap.size+1+1) 0 4:=by rw[hw9];exact Qa (Qa htz _ rfl _) _ rfl _
          have hsz5:(Tryz.prog.info? 53).map (·.size)=some (#[.int .i64 room,.slice (some ⟨g,2,none⟩) (m-1) (cY-1),.int .i64 pn,.int .i64 st]:Array Value).size:=yD
          have hall:(#[.int .i64 room,.slice (some ⟨g,2,none⟩) (m-1) (cY-1),.int .i64 pn,.int .i64 st]:Array Value).all (·.oneCell')=true:=zT
          have hld:=QQ (P:=Tryz.prog) ht9 Tryz.underlying53 rfl hsz5
          have hb9:Below w.heap.size w w9:=by rw[hw9];exact(HB8.out.setCell (p:=⟨w.heap.size,1,none⟩) (sN _) _).setCell (p:=⟨w.heap.size,2,none⟩) (sN _) _
          have hbw:Below w.heap.size w (w9.setCells (w.heap.size+1+1) 0 (#[.int .i64 room,.slice (some ⟨g,2,none⟩) (m-1) (cY-1),.int .i64 pn,.int .i64 st]:Array Value).toList):=qL om _ _ _ hb9
          have HBW:=lI hbw
          have HCP9:Hid (Cp w1.heap.size 62 91 (w9.setCells (w.heap.size+1+1) 0 (#[.int .i64 room,.slice (some ⟨g,2,none⟩) (m-1) (cY-1),.int .i64 pn,.int .i64 st]:Array Value).toList) (.slice (some ⟨g,0,none⟩) m cY) (zs++[z])):=lI (by rw[hw9];exact Cp.sets om _ _ ((HCP8.out.set (show w.heap.size<w1.heap.size by omega) _).set (show w.heap.size<w1.heap.size by omega) _))
          have HFAR:Hid (Far w.heap.size (.slice (some ⟨g,2,none⟩) (m-1) (cY-1)) ((zs++[z]).drop 1)):=lI ⟨fun q e=>by have h1:=HCP9.out.far.1 q e;omega,fun x hx q e=>by have h1:=HCP9.out.far.2 x (List.mem_of_mem_drop hx) q e;omega⟩
          have HW9:=lI hw9
          clear hw9 hbw hb9
          go_upto_region 11 with(fail)
          rw[←HPN.out,←HW9.out]
          clear q0 q1 q2 q3 f1 f2 htz
          go_wp2_with (first|(refine wpList_store_mid rfl 53 _ _ rfl (w.heap.size+1+1) 0 #[.int .i64 room,.slice (some ⟨g,2,none⟩) (m-1) (cY-1),.int .i64 pn,.int .i64 st] rfl rfl ht9 hsz5 hall ?_))
          refine sO (QI zK _ zK hld) rfl ?_
          rw[HF2.out,←HPN.out]
          refine⟨⟨_,rfl,(zs++[z]).drop 1,⟨?_,fun x hx=>HCP9.out.ok x (List.mem_of_mem_drop hx)⟩,HF1.out,HFAR.out,HCP9.out.typ.drop rfl 1⟩,HBW.out⟩
          have hsl:=ql HCP9.out.own
          have hm4:=HM.out
          clear HM
          subst hm4
          rw[show(zs++[z]).length=zs.length+1 by simp]at hsl
          rw[flat_drop,show((zs++[z]).drop 1).length=zs.length by simp];exact sl_drop hsl
      · obtain⟨hf1,hf2⟩:=HFI.out.2 hgt
        have HF1:=lI hf1
        have HF2:=lI hf2
        clear hf1 hf2
        have hsz5:(Tryz.prog.info? 53).map (·.size)=some (#[.int .i64 room,.slice aY m cY,.int .i64 pu,.int .i64 st]:Array Value).size:=yD
        have hall:(#[.int .i64 room,.slice aY m cY,.int .i64 pu,.int .i64 st]:Array Value).all (·.oneCell')=true:=zT
        have hld:=QQ (P:=Tryz.prog) htz Tryz.underlying53 rfl hsz5
        go_wp2_with (first|(refine wpList_store_mid rfl 53 _ _ rfl (w.heap.size+1+1) 0 #[.int .i64 room,.slice aY m cY,.int .i64 pu,.int .i64 st] rfl rfl htz hsz5 hall ?_))
        refine sO (QI zK _ zK hld) rfl ?_
        rw[HF2.out]
        have hbw:=qL (b:=w.heap.size+1+1) om (#[.int .i64 room,.slice aY m cY,.int .i64 pu,.int .i64 st]:Array Value).toList 0 _ HB8.out
        have hcp:=Cp.sets (b:=w.heap.size+1+1) om (#[.int .i64 room,.slice aY m cY,.int .i64 pu,.int .i64 st]:Array Value).toList 0 HCP8.out
        exact⟨⟨_,rfl,zs++[z],hcp.blks,HF1.out,hcp.far.mono om,hcp.typ⟩,hbw⟩
end Go.Proofs.YtlfnddmncbkjaabGreatDoor.W
