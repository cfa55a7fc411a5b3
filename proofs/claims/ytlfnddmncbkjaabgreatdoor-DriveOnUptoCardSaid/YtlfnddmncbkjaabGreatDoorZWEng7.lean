import Derived.Test.YtlfnddmncbkjaabGreatDoorZWEng6
import Derived.Test.YtlfnddmncbkjaabGreatDoorZGO
set_option linter.unusedVariables false
set_option linter.unusedSimpArgs false
set_option maxRecDepth 100000
set_option maxHeartbeats 4000000
namespace Go.Proofs.YtlfnddmncbkjaabGreatDoor.Fb
open Go.RowKit
theorem results_cc{P:Program}{fn:Func}{a b x:Tmp}{t u:TypeId}(h:fn.results=#[.cell a t,.cell b u,.tmp x])(tmps:Array Value){p q:Addr}{w:World}{v v':Value}(hp:tmps.getD a undef=.pointer (some p))(hl:(loadVar t p).run P w=.ok v w)(hq:tmps.getD b undef=.pointer (some q))(hl':(loadVar u q).run P w=.ok v' w):
    (results fn tmps).run P w=.ok (.tuple #[v,v',tmps.getD x undef]) w:=by
  have hp':tmps[a]?.getD undef=.pointer (some p):=by rw[←hp];simp
  have hq':tmps[b]?.getD undef=.pointer (some q):=by rw[←hq];simp
  simp[results,h,hp',hl,hq',hl',Sem.run_bind,asAddr]
def firstDid(m:Mach)(l:List (Int × Int)):Prop:=∃p r,l=p::r∧0<p.2∧((qN m).hart p.1.toNat).state=0∧(QS m.mem ((qN m).hart p.1.toNat).pc).2≠[]
structure ERun (w':World) (vm vh vo v:Value) (m:Mach) (l:List (Int × Int)) (room pu st:Int) (zs:List BlkD):Prop where
  shown:jd w' vm vh vo (qw l (qN m))
  blks:Blks w' v zs
  ok:jU (qw l (qN m)).mem room zs
  good:(qw l (qN m)).Good
  tot:0≤pu∧0≤st∧(zs.length:Int)+pu+st≤130000
  did:firstDid m l→1≤(zs.length:Int)+pu+st
end Go.Proofs.YtlfnddmncbkjaabGreatDoor.Fb
namespace Go.Proofs.YtlfnddmncbkjaabGreatDoor.W
open Go.RowKit Fb
theorem Ee.begin{mp bp bh hc:Nat}{vm:Value}{room:Int}{w w':World}{m:Mach}(hbd:Bd bp bh hc vm (.slice none 0 0) 40 w (qN m))(hmap:w.ownsMap Tryz.prog 40 heldR mp 0 (.map []))(hw:w'=w.alloc (.cells #[.pointer (some ⟨bp,0,none⟩),.int .i64 room,.slice none 0 0,.int .i64 0,.int .i64 0,.map (some mp)] 84))(hr0:0≤room)(hr1:room≤64)(hg:(qN m).Good)(g:mp≠bp∧mp≠bh∧vm.ownBlock≠some mp):Ee w.heap.size mp bp bh hc vm (.slice none 0 0) room w' (qN m) 0 0 (.slice none 0 0) [] 0:=by
  have hb:Below w.heap.size w w':=by rw[hw];exact Below.alloc br (sN _) _
  have hl:=hmap.lt
  obtain⟨es,clock,h1,F,h2,h3⟩:=hmap
  refine⟨hbd.below hb,⟨⟨_,_,by rw[hw];exact sP _ _⟩,by rw[hw];exact QN w [.pointer (some ⟨bp,0,none⟩),.int .i64 room,.slice none 0 0,.int .i64 0,.int .i64 0,.map (some mp)] _ (0,0),fun o=> ?_,⟨Sl.nil _ _,zW⟩,⟨(by intro q e;cases e),zW⟩,⟨(by intro q e;cases e),zW⟩⟩,⟨hl,.map [],⟨es,clock,(hb.block mp hl).trans h1,F,h2,h3⟩,zW⟩,⟨rfl,Int.le_refl _,Int.le_refl _⟩,⟨hr0,hr1,hr0,List.nodup_nil,zW⟩,hg,hbd.lt,g.1,g.2.1,g.2.2⟩
  rw[hw];unfold World.frozen?;rw[sP];simp
theorem erun_ok(vm0 vh0 vs:Value)(m:Mach)(wf:m.Wf)(l:List (Int × Int))(room:Int)(w:World)(hm:jw w vm0 vh0 m)(hs:Picks w vs l)(hp:∀p∈l,QY p.1∧QY p.2)(hr0:0≤room)(hr1:room≤64)(hq:qj m l=0):
    Calls Tryz.prog 13 #[.agg #[vm0,vh0],vs,.int .i64 room] w fun e w'=>(∃vm vh vo v pu st zs,e=.returned (.tuple #[.agg #[vm,vh,vo,.int .i64 (qw l (qN m)).steps],.agg #[.int .i64 room,v,.int .i64 pu,.int .i64 st],.int .i64 0])∧ERun w' vm vh vo v m l room pu st zs∧w'.ownsRow w.heap.size 5 1 vm (qw l (qN m)).mem.length ((qw l (qN m)).mem.map (Value.int .u8))∧w'.ownsRow w.heap.size 43 37 vh (qw l (qN m)).harts.length ((qw l (qN m)).harts.flatMap qJ)∧∀q,vo.ownBlock=some q→w.heap.size≤q)∧Below w.heap.size w w':=by
  obtain⟨aom,capm,rfl,hcm,hmm,_,_⟩:=hm.1.open
  obtain⟨aoh,caph,rfl,hch,hmh,_,_⟩:=hm.2.open (fun h hh=>qG (wf.harts h hh)) om
  obtain⟨aos,caps,rfl,hcs,hms,_,hos⟩:=hs.open (fun _ _=>rfl) om
  unfold maxLen at hmm hmh hms
  obtain⟨w1,hw1⟩:∃w1,w1=((w.alloc (.cells #[.slice aom m.mem.length capm,.slice aoh m.harts.length caph] 30)).alloc (.cells #[.slice none 0 0,.slice none 0 0,.slice none 0 0,.int .i64 0] 50)).alloc (.cells #[.int .i64 0,.slice none 0 0,.int .i64 0,.int .i64 0] 53):=⟨_,rfl⟩
  have hb1:Below w.heap.size w w1:=zI
  have hs1:w1.heap.size=w.heap.size+3:=zO
  have c0:w1.cell? ⟨w.heap.size,0,none⟩=some (.slice aom m.mem.length capm):=zA
  have c1:w1.cell? ⟨w.heap.size,1,none⟩=some (.slice aoh m.harts.length caph):=zA
  have HZ:Hid (w1.heap[w.heap.size+1]? =some (.cells #[.slice none 0 0,.slice none 0 0,.slice none 0 0,.int .i64 0] 50 (0,0))∧w1.heap[w.heap.size+2]? =some (.cells #[.int .i64 0,.slice none 0 0,.int .i64 0,.int .i64 0] 53 (0,0))):=lI ⟨by
    have:=sP (w.alloc (.cells #[.slice aom m.mem.length capm,.slice aoh m.harts.length caph] 30)) (.cells #[.slice none 0 0,.slice none 0 0,.slice none 0 0,.int .i64 0] 50)
    rw[World.size_alloc]at this
    rw[hw1];exact(heap_alloc_old _ _ zC).trans this,by
    have:=sP ((w.alloc (.cells #[.slice aom m.mem.length capm,.slice aoh m.harts.length caph] 30)).alloc (.cells #[.slice none 0 0,.slice none 0 0,.slice none 0 0,.int .i64 0] 50)) (.cells #[.int .i64 0,.slice none 0 0,.int .i64 0,.int .i64 0] 53)
    rw[World.size_alloc,World.size_alloc]at this
    rw[hw1];exact this⟩
  have HM:=lI (hm.below hb1)
  have HS:=lI (hs.below hb1)
  have HOS:=lI hos
  have HMAY:=lI (uD _ _ _ m wf l w1 (hm.below hb1) (hs.below hb1) hp)
  have HW1:=lI hw1
  have HB1:=lI hb1
  have hpt:=jx hq
  rw[hq]at HMAY
  have HBG:=lI (fun W hW=>begin_own (.slice aom m.mem.length capm) (.slice aoh m.harts.length caph) m wf W hW om om om)
  have HG:=lI (Jw wf hq)
  obtain⟨p1,p2,p3,p4,p5,p6⟩:=hpt
  have HP6:=lI p6
  obtain⟨sF,hsF⟩:∃s,s=qw l (qN m):=⟨_,rfl⟩
  rw[←hsF]
  have HSF:=lI hsF
  have HNEW:=lI (fun W=>cnew_any room W ⟨om,om⟩)
  rw[if_neg om,if_neg om]at HNEW
  have hmm:=@run_makeMap Tryz.prog
  clear hw1 hm hs hos hp hq p4 p6 hsF hb1
  go_enter Tryz.func13,Tryz.ntmps13
  go_upto_region 1 with(fail)
  rw[←HW1.out]
  go_wp2_with fail
  refine HMAY.out.mono ?_
  rintro e w2 ⟨rfl,hb2⟩
  have hs2:=hb2.size
  have HB2:=lI hb2
  clear hb2
  go_wp2_with fail
  refine(HNEW.out _).mono ?_
  rintro e w3 ⟨rfl,hb3⟩
  have hs3:=hb3.size
  obtain⟨w4,hw4⟩:∃w4,w4=w3.alloc (.cells #[.int .i64 room,.slice none 0 0,.int .i64 0,.int .i64 0] 53):=⟨_,rfl⟩
  have hb4:Below w3.heap.size w3 w4:=by rw[hw4];exact Below.alloc br (sN _) _
  have hs4:w3.heap.size<w4.heap.size:=by rw[hw4];simp
  have hb14:Below w1.heap.size w1 w4:=(HB2.out.trans (hb3.mono hs2)).trans (hb4.mono om)
  have d0:=(hb14.cell (p:=⟨w.heap.size,0,none⟩) (qD c0)).trans c0
  have d1:=(hb14.cell (p:=⟨w.heap.size,1,none⟩) (qD c1)).trans c1
  have k0:(w4).cell? ⟨w3.heap.size,0,none⟩=some (.int .i64 room):=zJ
  have k1:(w4).cell? ⟨w3.heap.size,1,none⟩=some (.slice none 0 0):=zJ
  have k2:(w4).cell? ⟨w3.heap.size,2,none⟩=some (.int .i64 0):=zJ
  have k3:(w4).cell? ⟨w3.heap.size,3,none⟩=some (.int .i64 0):=zJ
  have HZ4:Hid (w4.heap[w.heap.size+1]? =some (.cells #[.slice none 0 0,.slice none 0 0,.slice none 0 0,.int .i64 0] 50 (0,0))∧w4.heap[w.heap.size+2]? =some (.cells #[.int .i64 0,.slice none 0 0,.int .i64 0,.int .i64 0] 53 (0,0))):=lI ⟨(hb14.block _ om).trans HZ.out.1,(hb14.block _ om).trans HZ.out.2⟩
  have HM4:=lI (HM.out.below hb14)
  have HB4:=lI (HB1.out.trans (hb14.mono om))
  have HS4:=lI (HS.out.below hb14)
  have HW4:=lI hw4
  have HKP:Hid (∀W,Below w4.heap.size w4 W→W.cell? ⟨w.heap.size,0,none⟩=some (.slice aom m.mem.length capm)∧W.cell? ⟨w.heap.size,1,none⟩=some (.slice aoh m.harts.length caph)∧W.cell? ⟨w3.heap.size,0,none⟩=some (.int .i64 room)∧W.cell? ⟨w3.heap.size,1,none⟩=some (.slice none 0 0)∧W.cell? ⟨w3.heap.size,2,none⟩=some (.int .i64 0)∧W.cell? ⟨w3.heap.size,3,none⟩=some (.int .i64 0)):=lI (fun W hW=>⟨(hW.cell (p:=⟨w.heap.size,0,none⟩) (qD d0)).trans d0,(hW.cell (p:=⟨w.heap.size,1,none⟩) (qD d1)).trans d1,(hW.cell (p:=⟨w3.heap.size,0,none⟩) (qD k0)).trans k0,(hW.cell (p:=⟨w3.heap.size,1,none⟩) (qD k1)).trans k1,(hW.cell (p:=⟨w3.heap.size,2,none⟩) (qD k2)).trans k2,(hW.cell (p:=⟨w3.heap.size,3,none⟩) (qD k3)).trans k3⟩)
  clear hw4 hb3 hb4 hb14 HM HS HZ HB1 HB2 c0 c1 d0 d1 k0 k1 k2 k3 HMAY HNEW
  go_upto_region 5 with(fail)
  rw[←HW4.out]
  go_wp2_with fail
  go_cut [12]from 33 to 38 (fun t12 wx=>∃(ep mp bp bh hc:Nat) (vm:Value),t12=.pointer (some ⟨ep,0,none⟩)∧w4.heap.size≤bh∧w4.heap.size≤mp∧(∀q,vm.ownBlock=some q→w4.heap.size≤q)∧Hid (Ee ep mp bp bh hc vm (.slice none 0 0) room wx (qN m) 0 0 (.slice none 0 0) [] 0∧Below w4.heap.size w4 wx)∧Hid (Beg w.heap.size 5 43 bh hc vm wx))
  case first=>
    have hbd:Below w4.heap.size w4 w4.drew:=Below.drew br
    refine wp_region_held_drew (S:=fun W=>W.cell? ⟨w.heap.size,0,none⟩=some (.slice aom m.mem.length capm)∧W.cell? ⟨w.heap.size,1,none⟩=some (.slice aoh m.harts.length caph)∧W.cell? ⟨w3.heap.size,0,none⟩=some (.int .i64 room)∧W.cell? ⟨w3.heap.size,1,none⟩=some (.slice none 0 0)∧W.cell? ⟨w3.heap.size,2,none⟩=some (.int .i64 0)∧W.cell? ⟨w3.heap.size,3,none⟩=some (.int .i64 0)) kr (HKP.out _ hbd) (fun hHeld=> ?_)
    refine tak 0 (.agg #[.slice aom m.mem.length capm,.slice aoh m.harts.length caph]) ?_
    try simp only[sA,sB,sC,Act.put,sD,sE,sG]
    refine tak 2 (.agg #[.int .i64 room,.slice none 0 0,.int .i64 0,.int .i64 0]) ?_
    try simp only[sA,sB,sC,Act.put,sD,sE,sG]
    refine wpAnyH_ready (rs:=[1,3]) kr zC ?_
    refine sS rfl (fun K hK=> ?_) (sS rfl (fun K hK=> ?_) AllReadyH.nil)
    · go_simp
      refine(HBG.out _ (HM4.out.below hbd)).mono ?_
      rintro e w5 ⟨⟨bp,bh,hc,vm,rfl,hbd5,hbh,hvm,hob,hoh⟩,hb5⟩
      have hB5:Below w4.heap.size w4 w5:=hbd.trans hb5
      refine hK.out _ _ (HKP.out _ hB5) (fun hHeld2=> ?_)
      clear hK K
      refine wpAnyH_ready (rs:=[3]) kr zC ?_
      refine sS rfl (fun K hK=> ?_) AllReadyH.nil
      go_simp
      obtain⟨w6,hw6⟩:∃w6,w6=w5.alloc (.map #[] 0):=⟨_,rfl⟩
      have hb6:Below w5.heap.size w5 w6:=by rw[hw6];exact Below.alloc br (sN _) _
      have hB6:=hB5.trans (hb6.mono hB5.size)
      have hmap:w6.ownsMap Tryz.prog 40 heldR w5.heap.size 0 (.map []):=by rw[hw6];exact World.ownsMap_made _ _ _ _
      rw[←hw6]
      clear hw6
      refine hK.out _ _ (HKP.out _ hB6) (fun hHeld3=> ?_)
      clear hK K
      refine tak 4 (.agg #[.pointer (some ⟨bp,0,none⟩),.int .i64 room,.slice none 0 0,.int .i64 0,.int .i64 0,.map (some w5.heap.size)]) ?_
      try simp only[sA,sB,sC,Act.put,sD,sE,sG]
      refine wpAnyH_ready (rs:=[5]) kr zC ?_
      refine sS rfl (fun K hK=> ?_) AllReadyH.nil
      go_simp
      obtain⟨w7,hw7⟩:∃w7,w7=w6.alloc (.cells #[.pointer (some ⟨bp,0,none⟩),.int .i64 room,.slice none 0 0,.int .i64 0,.int .i64 0,.map (some w5.heap.size)] 84):=⟨_,rfl⟩
      have hb7:Below w6.heap.size w6 w7:=by rw[hw7];exact Below.alloc br (sN _) _
      have hB7:=hB6.trans (hb7.mono hB6.size)
      have HBG5:Hid (Beg w.heap.size 5 43 bh hc vm w7):=lI ((Beg.below ⟨w5,_,_,_,_,qe hob (by show _≤w4.heap.size;omega),qe hoh (by show _≤w4.heap.size;omega),fun _ _=>QH.refl _⟩ hb6).below hb7)
      clear hob hoh
      have hE:=Ee.begin (room:=room) (hbd5.below hb6) hmap hw7 hr0 hr1 HG.out ⟨by have:=hbd5.lt;omega,by have:=hbd5.hlt;omega,fun e=>by have:=hbd5.mfz;have:=hbd5.mlt _ e;have:=hbd5.lt;omega⟩
      rw[←hw7]
      refine hK.out _ _ (HKP.out _ hB7) (fun hHeld4=> ?_)
      clear hK K
      refine tak 6 (.pointer (some ⟨w6.heap.size,0,none⟩)) ?_
      try simp only[sA,sB,sC,Act.put,sD,sE,sG]
      refine wpAnyH_done kr ?_ _
      go_wp2_with fail
      go_meet
      case rel=>exact⟨w6.heap.size,w5.heap.size,bp,bh,hc,vm,rfl,hbh,hB5.size,hvm,lI ⟨hE,hB7⟩,HBG5⟩
    · go_simp
      obtain⟨w5,hw5⟩:∃w5,w5=(w4.alloc (.map #[] 0)).drew:=⟨_,rfl⟩
      have hB5:Below w4.heap.size w4 w5:=by rw[hw5];exact Below.drew (Below.alloc br (sN _) _)
      have hs5:w4.heap.size<w5.heap.size:=by rw[hw5];show _<(World.alloc _ _).heap.size;simp
      have hmap5:w5.ownsMap Tryz.prog 40 heldR w4.heap.size 0 (.map []):=by rw[hw5];exact World.ownsMap_made _ _ _ _
      rw[←hw5]
      clear hw5
      refine hK.out _ _ (HKP.out _ hB5) (fun hHeld2=> ?_)
      clear hK K
      refine wpAnyH_ready (rs:=[1]) kr zC ?_
      refine sS rfl (fun K hK=> ?_) AllReadyH.nil
      go_simp
      refine(HBG.out _ (HM4.out.below hB5)).mono ?_
      rintro e w6 ⟨⟨bp,bh,hc,vm,rfl,hbd6,hbh,hvm,hob,hoh⟩,hb6⟩
      have hB6:Below w4.heap.size w4 w6:=hB5.trans (hb6.mono om)
      have hmap:w6.ownsMap Tryz.prog 40 heldR w4.heap.size 0 (.map []):=by
        obtain⟨es,clock,q1,q2,q3,q4⟩:=hmap5
        exact⟨es,clock,(hb6.block _ om).trans q1,q2,q3,q4⟩
      refine hK.out _ _ (HKP.out _ hB6) (fun hHeld3=> ?_)
      clear hK K
      refine tak 4 (.agg #[.pointer (some ⟨bp,0,none⟩),.int .i64 room,.slice none 0 0,.int .i64 0,.int .i64 0,.map (some w4.heap.size)]) ?_
      try simp only[sA,sB,sC,Act.put,sD,sE,sG]
      refine wpAnyH_ready (rs:=[5]) kr zC ?_
      refine sS rfl (fun K hK=> ?_) AllReadyH.nil
      go_simp
      obtain⟨w7,hw7⟩:∃w7,w7=w6.alloc (.cells #[.pointer (some ⟨bp,0,none⟩),.int .i64 room,.slice none 0 0,.int .i64 0,.int .i64 0,.map (some w4.heap.size)] 84):=⟨_,rfl⟩
      have hb7:Below w6.heap.size w6 w7:=by rw[hw7];exact Below.alloc br (sN _) _
      have hB7:=hB6.trans (hb7.mono hB6.size)
      have HBG6:Hid (Beg w.heap.size 5 43 bh hc vm w7):=lI (Beg.below ⟨w6,_,_,_,_,qe hob om,qe hoh om,fun _ _=>QH.refl _⟩ hb7)
      clear hob hoh
      have hE:=Ee.begin (room:=room) hbd6 hmap hw7 hr0 hr1 HG.out ⟨by have:=hbd6.b1;omega,om,fun e=>by have:=hvm _ e;omega⟩
      rw[←hw7]
      refine hK.out _ _ (HKP.out _ hB7) (fun hHeld4=> ?_)
      clear hK K
      refine tak 6 (.pointer (some ⟨w6.heap.size,0,none⟩)) ?_
      try simp only[sA,sB,sC,Act.put,sD,sE,sG]
      refine wpAnyH_done kr ?_ _
      go_wp2_with fail
      go_meet
      case rel=>exact⟨w6.heap.size,w4.heap.size,bp,bh,hc,vm,rfl,om,sN _,fun q e=>by have:=hvm q e;omega,lI ⟨hE,hB7⟩,HBG6⟩
  case rest=>
    obtain⟨ep,mp,bp,bh,hc,vm,rfl,hbh,hmp,hvm,HC,HCG⟩:=hcut
    have HVM:=lI hvm
    have HCE:=lI HC.out.1
    have HCB:=lI HC.out.2
    have hsc:=HC.out.2.size
    have HZC:Hid (wc.heap[w.heap.size+1]? =some (.cells #[.slice none 0 0,.slice none 0 0,.slice none 0 0,.int .i64 0] 50 (0,0))∧wc.heap[w.heap.size+2]? =some (.cells #[.int .i64 0,.slice none 0 0,.int .i64 0,.int .i64 0] 53 (0,0))):=lI ⟨(HC.out.2.block _ om).trans HZ4.out.1,(HC.out.2.block _ om).trans HZ4.out.2⟩
    have HBC:=lI (HB4.out.trans (HC.out.2.mono om))
    have hmpep:=HC.out.1.c.1
    have hgeo:=HC.out.1.geo
    obtain⟨g1,g2,g3,g4⟩:=hgeo
    have hbb:=HC.out.1.bd.b1
    clear hvm HC HM4 HKP HBG hmm HZ4
    go_wp2_with fail
    go_loopw [41] (fun i wr=>∃q:Nat,i=.int .i64 q∧q≤l.length∧wc.heap.size≤wr.heap.size∧∃(vo v:Value) (zs:List BlkD) (pu st:Int) (n:Nat),Hid (Ee ep mp bp bh hc vm vo room wr (qw (l.take q) (qN m)) pu st v zs n∧n≤400*q∧(0<q→firstDid m l→1≤n)∧(∀g,vo.ownBlock=some g→bp<g)∧Below w.heap.size w wr∧wr.heap[w.heap.size+1]? =some (.cells #[.slice none 0 0,.slice none 0 0,.slice none 0 0,.int .i64 0] 50 (0,0))∧wr.heap[w.heap.size+2]? =some (.cells #[.int .i64 0,.slice none 0 0,.int .i64 0,.int .i64 0] 53 (0,0)))∧Hid (Beg w.heap.size 5 43 bh hc vm wr)) (fun i _=>l.length-(intOf i).toNat)
    case atStart=>exact⟨0,rfl,om,om,.slice none 0 0,.slice none 0 0,[],0,0,0,lI ⟨HCE.out,om,fun h=>absurd h om,(by intro g e;cases e),HBC.out,HZC.out.1,HZC.out.2⟩,HCG⟩
    case round=>
      obtain⟨q,rfl,hq,hsz,vo,v,zs,pu,st,n,HR,HRG⟩:=hrel
      have HL0:Hid ((qw (l.take q) (qN m)).harts.length=m.harts.length):=lI (playM_len _ _)
      have HT0:Hid ((qw (l.take q) (qN m)).steps≤400*q):=lI (by
        have:=uC (l.take q) (qN m) (fun p hp=>(HP6.out p (List.mem_of_mem_take hp)).2.2.2)
        rw[List.length_take,Nat.min_eq_left hq]at this
        have e:(qN m).steps=0:=rfl
        omega)
      by_cases hlt:q<l.length
      · obtain⟨b,off,rfl,hbl,hel⟩:=HOS.out zQ
        have hat:=(hel q hlt).below HR.out.2.2.2.2.1
        have d0:=hat.get (j:=0) (v:=.int .i64 l[q].1) rfl
        have d1:=hat.get (j:=1) (v:=.int .i64 l[q].2) rfl
        simp only[Nat.add_zero]at d0
        have HNX:Hid (qw (l.take (q+1)) (qN m)=qk l[q].1.toNat l[q].2.toNat (qw (l.take q) (qN m))):=lI (by
          rw[List.take_succ_eq_append_getElem hlt,UQ];rfl)
        have HFD:Hid (q=0→firstDid m l→0<l[q].2.toNat∧((qw (l.take q) (qN m)).hart l[q].1.toNat).state=0∧(QS (qw (l.take q) (qN m)).mem ((qw (l.take q) (qN m)).hart l[q].1.toNat).pc).2≠[]):=lI (fun e hf=>by
          subst e
          obtain⟨p,r,e2,h1,h2,h3⟩:=hf
          subst e2
          exact⟨by show 0<p.2.toNat;omega,h2,h3⟩)
        obtain⟨q1,q2,q3,q4⟩:=HP6.out _ (sR hlt)
        obtain⟨x,hx⟩:∃x,x=l[q].1:=⟨_,rfl⟩
        obtain⟨y,hy⟩:∃y,y=l[q].2:=⟨_,rfl⟩
        rw[←hx]at d0 HNX HFD q1 q2
        rw[←hy]at d1 HNX HFD q3 q4
        clear hx hy hel hat
        obtain⟨k,rfl⟩:=sQ q1
        obtain⟨N,rfl⟩:=sQ q3
        rw[sV,sV]at HNX HFD
        have hk:k<m.harts.length:=om
        have hN:N≤400:=om
        clear q1 q2 q3 q4
        obtain⟨w5,hw5⟩:∃w5,w5=wr.alloc (.cells #[.int .i64 k,.int .i64 N] 47):=⟨_,rfl⟩
        have hb5:Below wr.heap.size wr w5:=by rw[hw5];exact Below.alloc br (sN _) _
        have hs5:wr.heap.size≤w5.heap.size:=hb5.size
        have t0:(w5).cell? ⟨wr.heap.size,0,none⟩=some (.int .i64 k):=by rw[hw5];go_cell
        have t1:(w5).cell? ⟨wr.heap.size,1,none⟩=some (.int .i64 N):=by rw[hw5];go_cell
        have hE5:Ee ep mp bp bh hc vm vo room w5 (qw (l.take q) (qN m)) pu st v zs n:=⟨HR.out.1.bd.below hb5,HR.out.1.b.below hb5,HR.out.1.c.below hb5,HR.out.1.tot,HR.out.1.ok,HR.out.1.good,HR.out.1.geo⟩
        have hn400:=HR.out.2.1
        have HTU:=lI (eturn_any hE5 k N (by rw[HL0.out];exact hk) (by rw[HL0.out];omega) hN om (by have:=HT0.out;omega))
        have HE5:=lI hE5
        have HDD:=lI HR.out.2.2.1
        have HVO:=lI HR.out.2.2.2.1
        have HB5:=lI (HR.out.2.2.2.2.1.trans (hb5.mono om))
        have HZ5:Hid (w5.heap[w.heap.size+1]? =some (.cells #[.slice none 0 0,.slice none 0 0,.slice none 0 0,.int .i64 0] 50 (0,0))∧w5.heap[w.heap.size+2]? =some (.cells #[.int .i64 0,.slice none 0 0,.int .i64 0,.int .i64 0] 53 (0,0))):=lI ⟨(hb5.block _ om).trans HR.out.2.2.2.2.2.1,(hb5.block _ om).trans HR.out.2.2.2.2.2.2⟩
        have HG5:=lI (HRG.out.below hb5)
        have HW5:=lI hw5
        clear hw5 hb5 HR hE5
        go_upto_region 11 with(fail)
        rw[←HW5.out]
        clear d0 d1
        go_wp2_with fail
        refine HTU.out.mono ?_
        rintro e w6 ⟨rfl,vo6,v6,zs6,pu6,st6,n6,hE6,hn1,hn2,hd6,hF6,hS6⟩
        have hs6:=hF6.size
        have hnS:∀j,j<w4.heap.size→¬EngT ep mp bp bh vm vo j:=fun j hj h=>by
          rcases h with h|h|h|h|h|h
          · omega
          · omega
          · omega
          · omega
          · have:=HVM.out j h;omega
          · have:=HVO.out j h;omega
        have hB6:Below w.heap.size w w6:=HB5.out.trans (hF6.below (fun j hj=>hnS j om) om)
        have HN:Hid (Ee ep mp bp bh hc vm vo6 room w6 (qw (l.take (q+1)) (qN m)) pu6 st6 v6 zs6 n6∧n6≤400*(q+1)∧(0<q+1→firstDid m l→1≤n6)∧(∀g,vo6.ownBlock=some g→bp<g)∧Below w.heap.size w w6∧w6.heap[w.heap.size+1]? =some (.cells #[.slice none 0 0,.slice none 0 0,.slice none 0 0,.int .i64 0] 50 (0,0))∧w6.heap[w.heap.size+2]? =some (.cells #[.int .i64 0,.slice none 0 0,.int .i64 0,.int .i64 0] 53 (0,0))):=lI ⟨by rw[HNX.out];exact hE6,om,fun _ hf=>by
            by_cases e:q=0
            · obtain⟨f1,f2,f3⟩:=HFD.out e hf
              exact hd6 f1 f2 f3
            · have:=HDD.out om hf
              omega,fun g hg=>by have:=(hE6.bd.own.lt g hg).1;omega,hB6,(hF6.block _ om (hnS _ om)).trans HZ5.out.1,(hF6.block _ om (hnS _ om)).trans HZ5.out.2⟩
        have HG6:=lI (HG5.out.on hS6)
        clear hS6 hE6 hd6 hF6 hnS hB6 hn1 hn2 HTU HE5 HDD HVO HB5 HZ5 HNX HFD
        go_wp2_with fail
        go_roundw
        case rel=>exact⟨q+1,by simp,om,om,vo6,v6,zs6,pu6,st6,n6,HN,HG6⟩
        case measure=>simp[intOf];omega
      · obtain rfl:q=l.length:=om
        rw[List.take_length]at HR HL0
        rw[←HSF.out]at HL0
        have hE:=HR.out.1
        have e0:=hE.b.at_.get (j:=0) rfl
        have e1:=hE.b.at_.get (j:=1) rfl
        have e2:=hE.b.at_.get (j:=2) rfl
        have e3:=hE.b.at_.get (j:=3) rfl
        have e4:=hE.b.at_.get (j:=4) rfl
        simp only[sM]at e0 e1 e2 e3 e4
        rw[←HSF.out]at hE
        have b0:=hE.bd.c0
        have b1:=hE.bd.c1
        have b2:=hE.bd.c2
        have b3:=hE.bd.c3
        have z1:=HR.out.2.2.2.2.2.1
        have z2:=HR.out.2.2.2.2.2.2
        obtain⟨ax,cx,rfl⟩:∃ao c,vm=.slice ao sF.mem.length c:=by obtain⟨ao,c,e,_⟩:=hE.bd.bytes.open;exact⟨ao,c,e⟩
        obtain⟨ay,cy,rfl⟩:=qE hE.bd.own
        obtain⟨av,cv,rfl,-⟩:=hE.b.blks.1.open (fun _ _=>rfl) om
        obtain⟨hl,hhl⟩:∃x,x=sF.harts.length:=⟨_,rfl⟩
        rw[←hhl]at b1
        have HHL:=lI hhl
        have ht1:wr.there (w.heap.size+1) 0 4:=qt z1 rfl
        have ht2:wr.there (w.heap.size+2) 0 4:=qt z2 rfl
        have y0:=qh (o:=0) z1 rfl
        have y1:=qh (o:=1) z1 rfl
        have y2:=qh (o:=2) z1 rfl
        have y3:=qh (o:=3) z1 rfl
        have x0:=qh (o:=0) z2 rfl
        have x1:=qh (o:=1) z2 rfl
        have x2:=qh (o:=2) z2 rfl
        have x3:=qh (o:=3) z2 rfl
        have fy:∀o,wr.frozen? ⟨w.heap.size+1,o,none⟩=false:=fun o=>by simp[World.frozen?,z1]
        have fx:∀o,wr.frozen? ⟨w.heap.size+2,o,none⟩=false:=fun o=>by simp[World.frozen?,z2]
        have fy0:=fy 0
        have fy1:=fy 1
        have fy2:=fy 2
        have fy3:=fy 3
        have fx0:=fx 0
        have fx1:=fx 1
        have fx2:=fx 2
        have fx3:=fx 3
        have HE:=lI hE
        have HT12:=lI (And.intro ht1 ht2)
        have HZ2:=lI z2
        have HDD:=lI HR.out.2.2.1
        have HN4:=lI HR.out.2.1
        have HVO:=lI HR.out.2.2.2.1
        have HB9:=lI HR.out.2.2.2.2.1
        clear HR hE z1 z2 fy fx ht1 ht2 hhl HS4 HB4 HCE HCB HZC HBC hq hlt
        go_wp2_with fail
        go_region
        go_wp2_with fail
        obtain⟨wz,hwz0⟩:∃wz,wz=((((((((wr.setCell ⟨w.heap.size+1,0,none⟩ (.slice ax sF.mem.length cx)).setCell ⟨w.heap.size+1,1,none⟩ (.slice (some ⟨bh,0,none⟩) hl hc)).setCell ⟨w.heap.size+1,2,none⟩ (.slice ay sF.out.length cy)).setCell ⟨w.heap.size+1,3,none⟩ (.int .i64 sF.steps)).setCell ⟨w.heap.size+1+1,0,none⟩ (.int .i64 room)).setCell ⟨w.heap.size+1+1,1,none⟩ (.slice av zs.length cv)).setCell ⟨w.heap.size+1+1,2,none⟩ (.int .i64 pu)).setCell ⟨w.heap.size+1+1,3,none⟩ (.int .i64 st)).drew:=⟨_,rfl⟩
        rw[←hwz0]
        obtain⟨A,hA⟩:∃A:Array Value,A=#[.slice ax sF.mem.length cx,.slice (some ⟨bh,0,none⟩) hl hc,.slice ay sF.out.length cy,.int .i64 sF.steps]:=⟨_,rfl⟩
        obtain⟨C,hC⟩:∃C:Array Value,C=#[.int .i64 room,.slice av zs.length cv,.int .i64 pu,.int .i64 st]:=⟨_,rfl⟩
        have hA4:A.size=4:=by rw[hA];rfl
        have hC4:C.size=4:=by rw[hC];rfl
        obtain⟨wy,hwy⟩:∃wy,wy=wr.setCells (w.heap.size+1) 0 A.toList:=⟨_,rfl⟩
        have hwz:wz=(wy.setCells (w.heap.size+2) 0 C.toList).drew:=by rw[hwz0,hwy,hA,hC];rfl
        clear hwz0
        have hat1:At wz (w.heap.size+1) 0 A.toList:=by rw[hwz];refine At.below ?_ (Below.drew br);exact uN om _ _ _ (by rw[hwy];exact qv (by rw[Array.length_toList,hA4];exact HT12.out.1))
        have hy2:wy.heap[w.heap.size+2]? =wr.heap[w.heap.size+2]? :=by rw[hwy];exact qT om _ _ _
        have hat2:At wz (w.heap.size+2) 0 C.toList:=by rw[hwz];refine At.below ?_ (Below.drew br);exact qv (by rw[Array.length_toList,hC4];exact qt (hy2.trans HZ2.out) rfl)
        have hi1:(Tryz.prog.info? 50).map (·.size)=some A.size:=by rw[hA4];kernel_rfl
        have hi2:(Tryz.prog.info? 53).map (·.size)=some C.size:=by rw[hC4];kernel_rfl
        have hle:=HE.out.b.lt
        have hsh:jd wz (.slice ax sF.mem.length cx) (.slice (some ⟨bh,0,none⟩) sF.harts.length hc) (.slice ay sF.out.length cy) sF:=by
          rw[hwz,hwy]
          have hdr:∀W:World,jd W (.slice ax sF.mem.length cx) (.slice (some ⟨bh,0,none⟩) sF.harts.length hc) (.slice ay sF.out.length cy) sF→jd W.drew (.slice ax sF.mem.length cx) (.slice (some ⟨bh,0,none⟩) sF.harts.length hc) (.slice ay sF.out.length cy) sF:=fun W h=>⟨h.mach.below (Below.drew br),h.out.below (Below.drew br)⟩
          refine hdr _ (((HE.out.bd.shown HE.out.good.wf.harts).setCells (fun k e=> ?_) (fun k e=> ?_) (fun k e=> ?_) _ _).setCells (fun k e=> ?_) (fun k e=> ?_) (fun k e=> ?_) _ _)
          · have:=HVM.out k e;omega
          · have e2:bh=k:=by cases e;rfl
            omega
          · have:=HVO.out k e;omega
          · have:=HVM.out k e;omega
          · have e2:bh=k:=by cases e;rfl
            omega
          · have:=HVO.out k e;omega
        have hown:=(HRG.out.on (w':=wz) (fun q hq=>QH.of_eq (by
          have hne:q≠w.heap.size+1∧q≠w.heap.size+2:=by
            rcases hq with rfl|e
            · omega
            · have:=HVM.out q e;omega
          rw[hwz,hwy]
          show((wr.setCells (w.heap.size+1) 0 A.toList).setCells (w.heap.size+2) 0 C.toList).heap[q]? =_
          exact(qT hne.2 _ _ _).trans (qT hne.1 _ _ _)))).own hsh.mach.1 hsh.mach.2
        have hfar:Far (ep+1) (.slice av zs.length cv) zs:=⟨fun q e=>HE.out.b.far.1 q e,fun x hx q e=>HE.out.b.far.2 x hx q e⟩
        have hbl:Blks wz (.slice av zs.length cv) zs:=by rw[hwz,hwy];exact Blks.below (blks_sets (blks_sets HE.out.b.blks hfar om _ _) hfar om _ _) (Below.drew br)
        have hbw:Below w.heap.size w wz:=by rw[hwz,hwy];exact Below.drew (qL om _ _ _ (qL om _ _ _ HB9.out))
        have ht:=HE.out.tot
        have hn4:=HN4.out
        have hrun:ERun wz (.slice ax sF.mem.length cx) (.slice (some ⟨bh,0,none⟩) sF.harts.length hc) (.slice ay sF.out.length cy) (.slice av zs.length cv) m l room pu st zs:=⟨by rw[←HSF.out];exact hsh,hbl,by rw[←HSF.out];exact HE.out.ok,by rw[←HSF.out];exact HE.out.good,⟨ht.2.1,ht.2.2,om⟩,fun hf=>by
          have h0:0<l.length:=by
            obtain⟨p,r,e,_⟩:=hf
            rw[e];simp
          have:=HDD.out h0 hf
          omega⟩
        rw[←HHL.out]at hrun
        have hl1:=QL (P:=Tryz.prog) wz (w.heap.size+1) 0 50 A _ hat1 Tryz.underlying50 rfl hi1
        have hl2:=QL (P:=Tryz.prog) wz (w.heap.size+2) 0 53 C _ hat2 Tryz.underlying53 rfl hi2
        rw[hA]at hl1
        rw[hC]at hl2
        clear hat1 hat2 hwz hwy hy2 hsh hfar hbl hi1 hi2 hA4 hC4 hA hC
        refine sO (results_cc zK _ zK hl1 zK hl2) rfl ?_
        exact⟨⟨_,_,_,_,_,_,zs,rfl,hrun,hown.1,by rw[HHL.out];exact hown.2,fun q e=>by have:=HVO.out q e;omega⟩,hbw⟩
end Go.Proofs.YtlfnddmncbkjaabGreatDoor.W
