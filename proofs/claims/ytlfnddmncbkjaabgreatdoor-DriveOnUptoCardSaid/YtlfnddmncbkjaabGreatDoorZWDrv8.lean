import Derived.Test.YtlfnddmncbkjaabGreatDoorZWUndo2
set_option linter.unusedVariables false
set_option linter.unusedSimpArgs false
set_option maxRecDepth 100000
set_option maxHeartbeats 4000000
namespace Go.Proofs.YtlfnddmncbkjaabGreatDoor.W
open Go.RowKit Fb Go.Lib
structure JU (B:Nat) (w:World) (vm vh vo v:Value) (us:List UndD) (m:Mach) (l:List (Int × Int)):Prop where
  up:Up B 136 5 142 w v us
  eq:us.map (·.d)=undoM m l
  run:qj m l=0→JM B w vm vh vo (runM m l)
theorem JU.below{B:Nat}{w w':World}{vm vh vo v:Value}{us:List UndD}{m:Mach}{l:List (Int × Int)}(h:JU B w vm vh vo v us m l)(hb:Below w.heap.size w w'):JU B w' vm vh vo v us m l:=⟨h.up.below hb,h.eq,fun e=>(h.run e).below hb⟩
theorem JU.keep{B:Nat}{w w':World}{vm vh vo v:Value}{us:List UndD}{m:Mach}{l:List (Int × Int)}(h:JU B w vm vh vo v us m l)(hk:∀q,B≤q→w'.heap[q]? =w.heap[q]?):JU B w' vm vh vo v us m l:=⟨h.up.keep (fun q _ h2 _=>hk q h2),h.eq,fun e=>(h.run e).keep hk⟩
theorem JU.mono{B B':Nat}{w:World}{vm vh vo v:Value}{us:List UndD}{m:Mach}{l:List (Int × Int)}(h:JU B w vm vh vo v us m l)(hB:B'≤B):JU B' w vm vh vo v us m l:=⟨h.up.mono hB,h.eq,fun e=>(h.run e).mono hB⟩
theorem prs_ok{l:List (Int × Int)}(h:∀q∈l,U32 q.1∧U32 q.2):∀q∈l,QY q.1∧QY q.2:=fun q hq=>by
  have:=h q hq
  unfold U32 at this
  unfold QY
  omega
theorem runM_lim{m:Mach}{l:List (Int × Int)}(wf:m.Wf)(h:qj m l=0):(runM m l).Wf∧(∀x∈(runM m l).harts,x.ok=true)∧(runM m l).harts.length≤4∧(runM m l).out.length≤1000000∧(runM m l).steps≤1000000:=by
  obtain⟨p1,p2,p3,p4,p5,p6⟩:=jx h
  have hr:runM m l=qw l (qN m):=if_pos h
  rw[hr]
  have hg:=playM_good l (Jw wf h)
  have hs:=uC l (qN m) (fun p hp=>(p6 p hp).2.2.2)
  have e0:(qN m).steps=0:=rfl
  have hl:(qw l (qN m)).harts.length=m.harts.length:=playM_len _ _
  have hl2:(qN m).harts.length=m.harts.length:=rfl
  have:=hg.ol
  exact⟨hg.wf,hg.ok,om,om,om⟩
theorem wrong_rng(m:Mach)(l:List (Int × Int)):0≤qj m l∧qj m l≤3:=by
  unfold qj
  (repeat' split)<;>omega
theorem urun_at{pb:Nat}{vm vh vp vd:Value}{us:List UndD}{w0 W:World}{p:PlD}(hp:PAt pb vm vh vp vd us w0 p)(hb:Below w0.heap.size w0 W):
    Calls Tryz.prog 26 #[.agg #[vm,vh],vp] W fun e w'=>(∃a1 n1 c1 a2 n2 c2 a3 n3 c3 a4 n4 c4 us2,e=.returned (.tuple #[.agg #[.slice a1 n1 c1,.slice a2 n2 c2,.slice a3 n3 c3,.int .i64 (runM p.m p.ps).steps],.slice a4 n4 c4,.int .i64 (qj p.m p.ps)])∧Hid (JU W.heap.size w' (.slice a1 n1 c1) (.slice a2 n2 c2) (.slice a3 n3 c3) (.slice a4 n4 c4) us2 p.m p.ps))∧Below W.heap.size W w':=by
  have h:=hp.below hb
  have hlt:=h.lt
  refine(urun_own vm vh vp p.m h.wf p.ps W ⟨ql h.oy,ql h.oh⟩ (ql h.op) (prs_ok h.prs)).mono ?_
  rintro e w' ⟨⟨vm2,vh2,vo2,v2,us2,rfl,hsh,hup,heq,hown⟩,hb2⟩
  obtain⟨_,a1,c1,rfl,-⟩:=hsh.mach.1
  obtain⟨_,a2,c2,rfl,-⟩:=hsh.mach.2
  obtain⟨_,a3,c3,rfl,-⟩:=hsh.out
  obtain⟨a4,c4,rfl⟩:=qE hup.own
  refine⟨⟨_,_,_,_,_,_,_,_,_,_,_,_,us2,rfl,lI ⟨hup,heq,fun h0=> ?_⟩⟩,hb2⟩
  obtain⟨o1,o2,o3⟩:=hown h0
  obtain⟨l1,l2,l3,l4,l5⟩:=runM_lim h.wf h0
  exact⟨o1,o2,hsh.out,o3,l1,l2,l3,l4,l5⟩
theorem PAt.done{pb:Nat}{vm vh vp vd v2:Value}{us us2:List UndD}{w:World}{p:PlD}{ud:List JD}(h:PAt pb vm vh vp vd us w p)(hu:Up (pb+1) 136 5 142 w v2 us2)(he:us2.map (·.d)=ud)(hr:∀d∈ud,URng d)(hl:ud.length≤120000):
    PAt pb vm vh vp v2 us2 ((w.setCell ⟨pb,3,none⟩ v2).setCell ⟨pb,4,none⟩ (.bool true)) {p with us:=ud,ran:=true}∧Below pb w ((w.setCell ⟨pb,3,none⟩ v2).setCell ⟨pb,4,none⟩ (.bool true)):=by
  have hk:∀q,pb+1≤q→((w.setCell ⟨pb,3,none⟩ v2).setCell ⟨pb,4,none⟩ (.bool true)).heap[q]? =w.heap[q]? :=fun q hq=>(sT _ _ _ _ yP).trans (sT _ _ _ _ yP)
  obtain⟨a,c,e⟩:=qE hu.own
  exact⟨⟨by simpa using (h.at_.set 3 zC v2).set 4 zC (.bool true),fun o=>(sL _ _ _ _).trans ((sL _ _ _ _).trans (h.frz o)),qI h.oy (fun g e=>hk g (h.oy.lt g e).1),qI h.oh (fun g e=>hk g (h.oh.lt g e).1),qI h.op (fun g e=>hk g (h.op.lt g e).1),fun _=>⟨hu.keep (fun q _ h2 _=>hk q h2),he,hr,hl⟩,⟨a,_,c,e⟩,h.wf,h.oks,h.lim,h.prs⟩,
    ((Below.refl pb w).setCell (p:=⟨pb,3,none⟩) (sN _) _).setCell (p:=⟨pb,4,none⟩) (sN _) _⟩
def runS(p:PlD):List UInt8 × PlD:=if qj p.m p.ps=0 then ranS {p with us:=QC p.ps (qN p.m),ran:=true} (runM p.m p.ps) 0 else ranS p (runM p.m p.ps) (qj p.m p.ps)
theorem dD{p:Prop}(h:p:=by
 simp only[Act.put,sD,sE,sG]
 rw[←HWC.out]
 refine hK.out _ _ (KP.out _ hbc).2 (fun hHeld4=> ?_)
 clear hK K
 refine tak 15 (.slice a4 n4 c4) ?_
 try simp only[sA,sB,sC,Act.put,sD,sE,sG]
 refine tak 16 (.int .i64 (qj p.m p.ps)) ?_
 try simp only[sA,sB,sC,Act.put,sD,sE,sG]
 refine wpAnyH_done kr ?_ _
 clear hHeld4 hHeld3 hHeld2 hHeld
 go_wp2_with fail
 go_meet
 case rel=>exact⟨_,_,_,_,_,_,_,_,_,_,_,_,_,us2,rfl,rfl,rfl,HREL⟩):p:=h
theorem prun_any{pb:Nat}{vm vh vp vd:Value}{us:List UndD}{w:World}{p:PlD}(hp:PAt pb vm vh vp vd us w p)(HE:Hid (Env pb w)):
    Calls Tryz.prog 12 #[.pointer (some ⟨pb,0,none⟩)] w fun e w'=>e=.returned (.string (bs (runS p).1))∧PlAt pb w' (runS p).2∧Below pb w w':=by
  obtain⟨am,cm,rfl⟩:=qE hp.oy
  obtain⟨ah,ch,rfl⟩:=qE hp.oh
  obtain⟨ap,cp,rfl⟩:=qE hp.op
  have c0:=hp.at_.get (j:=0) rfl
  have c1:=hp.at_.get (j:=1) rfl
  have c2:=hp.at_.get (j:=2) rfl
  simp only[sM]at c0 c1 c2
  have hlt:=hp.lt
  have HP:=lI hp
  have HU:=lI (fun W hW=>urun_at hp (W:=W) hW)
  have KP:Hid (∀w',Below w.heap.size w w'→Below w.heap.size w w'∧w'.cell? ⟨pb,0,none⟩=some (.slice am p.m.mem.length cm)∧w'.cell? ⟨pb,1,none⟩=some (.slice ah p.m.harts.length ch)∧w'.cell? ⟨pb,2,none⟩=some (.slice ap p.ps.length cp)):=
    lI (fun w' h=>⟨h,(h.cell (p:=⟨pb,0,none⟩) hlt).trans c0,(h.cell (p:=⟨pb,1,none⟩) hlt).trans c1,(h.cell (p:=⟨pb,2,none⟩) hlt).trans c2⟩)
  clear hp
  go_enter Tryz.func12,Tryz.ntmps12
  go_upto_region 1 with(fail)
  go_cut [3,4,5]from 6 to 19 (fun t3 t4 t5 wx=>∃(sb:Nat) (a1:Option Addr) (n1 c1:Nat) (a2:Option Addr) (n2 c2:Nat) (a3:Option Addr) (n3 c3:Nat) (a4:Option Addr) (n4 c4:Nat) (us2:List UndD),t3=.pointer (some ⟨sb,0,none⟩)∧t4=.slice a4 n4 c4∧t5=.int .i64 (qj p.m p.ps)∧Hid (Below w.heap.size w wx∧At wx sb 0 [.slice a1 n1 c1,.slice a2 n2 c2,.slice a3 n3 c3,.int .i64 (runM p.m p.ps).steps]∧w.heap.size≤sb∧JU (pb+1) wx (.slice a1 n1 c1) (.slice a2 n2 c2) (.slice a3 n3 c3) (.slice a4 n4 c4) us2 p.m p.ps))
  case first=>
    have hsz:∀a b c:Value,∀n:Int,(Tryz.prog.info? 50).map (·.size)=some (#[a,b,c,.int .i64 n]:Array Value).size:=fun _ _ _ _=>by show _=some 4;kernel_rfl
    refine wp_region_held_drew (S:=fun w'=>w'.cell? ⟨pb,0,none⟩=some (.slice am p.m.mem.length cm)∧w'.cell? ⟨pb,1,none⟩=some (.slice ah p.m.harts.length ch)∧w'.cell? ⟨pb,2,none⟩=some (.slice ap p.ps.length cp)) kr (KP.out _ (Below.drew br)).2 (fun hHeld=> ?_)
    refine tak 0 (.pointer (some ⟨pb,0,none⟩)) ?_
    try simp only[sA,sB,sC,Act.put,sD,sE,sG]
    refine tak 1 (.pointer (some ⟨pb,0,none⟩)) ?_
    try simp only[sA,sB,sC,Act.put,sD,sE,sG]
    refine tak 2 (.pointer (some ⟨pb,0,none⟩)) ?_
    try simp only[sA,sB,sC,Act.put,sD,sE,sG]
    refine tak 3 (.agg #[.slice am p.m.mem.length cm,.slice ah p.m.harts.length ch]) ?_
    try simp only[sA,sB,sC,Act.put,sD,sE,sG]
    refine tak 4 (.pointer (some ⟨pb,0,none⟩)) ?_
    try simp only[sA,sB,sC,Act.put,sD,sE,sG]
    refine tak 5 (.pointer (some ⟨pb,0,none⟩)) ?_
    try simp only[sA,sB,sC,Act.put,sD,sE,sG]
    refine tak 6 (.pointer (some ⟨pb,2,none⟩)) ?_
    try simp only[sA,sB,sC,Act.put,sD,sE,sG]
    refine tak 7 (.slice ap p.ps.length cp) ?_
    try simp only[sA,sB,sC,Act.put,sD,sE,sG]
    refine wpAnyH_ready (rs:=[8,13]) kr zC ?_
    refine sS rfl (fun K hK=> ?_) (sS rfl (fun K hK=> ?_) AllReadyH.nil)
    · go_simp
      refine(HU.out _ (Below.drew br)).mono ?_
      rintro e wa ⟨⟨a1,n1,c1,a2,n2,c2,a3,n3,c3,a4,n4,c4,us2,rfl,HRU⟩,hbm⟩
      have hba:Below w.heap.size w wa:=(Below.drew br).trans hbm
      refine hK.out _ _ (KP.out _ hba).2 (fun hHeld2=> ?_)
      clear hK K
      refine tak 9 (.tuple #[.agg #[.slice a1 n1 c1,.slice a2 n2 c2,.slice a3 n3 c3,.int .i64 (runM p.m p.ps).steps],.slice a4 n4 c4,.int .i64 (qj p.m p.ps)]) ?_
      try simp only[sA,sB,sC,Act.put,sD,sE,sG]
      refine tak 10 (.agg #[.slice a1 n1 c1,.slice a2 n2 c2,.slice a3 n3 c3,.int .i64 (runM p.m p.ps).steps]) ?_
      try simp only[sA,sB,sC,Act.put,sD,sE,sG]
      refine tak 11 (.slice a4 n4 c4) ?_
      try simp only[sA,sB,sC,Act.put,sD,sE,sG]
      refine tak 12 (.int .i64 (qj p.m p.ps)) ?_
      try simp only[sA,sB,sC,Act.put,sD,sE,sG]
      refine wpAnyH_ready (rs:=[13]) kr zC ?_
      refine sS rfl (fun K hK=> ?_) AllReadyH.nil
      go_simp
      obtain⟨wb,hwb⟩:∃wb,wb=wa.alloc (.cells #[.slice none 0 0,.slice none 0 0,.slice none 0 0,.int .i64 0] 50):=⟨_,rfl⟩
      rw[←hwb]
      have hbb:Below wa.heap.size wa wb:=by rw[hwb];exact Below.alloc br (sN _) _
      have hth:wb.there wa.heap.size 0 4:=by rw[hwb];exact qt (sP _ _) rfl
      refine hK.out _ _ (KP.out _ (hba.trans (hbb.mono hba.size))).2 (fun hHeld3=> ?_)
      clear hK K
      obtain⟨wc,hwc⟩:∃wc,wc=wb.setCells wa.heap.size 0 (#[.slice a1 n1 c1,.slice a2 n2 c2,.slice a3 n3 c3,.int .i64 (runM p.m p.ps).steps]:Array Value).toList:=⟨_,rfl⟩
      have hac:Below wa.heap.size wa wc:=by rw[hwc];exact qL (sN _) _ _ _ hbb
      have hbc:Below w.heap.size w wc:=hba.trans (hac.mono hba.size)
      have HREL:Hid (Below w.heap.size w wc∧At wc wa.heap.size 0 [.slice a1 n1 c1,.slice a2 n2 c2,.slice a3 n3 c3,.int .i64 (runM p.m p.ps).steps]∧w.heap.size≤wa.heap.size∧JU (pb+1) wc (.slice a1 n1 c1) (.slice a2 n2 c2) (.slice a3 n3 c3) (.slice a4 n4 c4) us2 p.m p.ps):=lI ⟨hbc,by rw[hwc];exact qv hth,hba.size,(HRU.out.below hac).mono (by show pb+1≤w.heap.size;omega)⟩
      have HWC:=lI hwc
      clear hwb hwc hbb
      have hsz:=hsz (.slice a1 n1 c1) (.slice a2 n2 c2) (.slice a3 n3 c3) (runM p.m p.ps).steps
      have hall:(#[.slice a1 n1 c1,.slice a2 n2 c2,.slice a3 n3 c3,.int .i64 (runM p.m p.ps).steps]:Array Value).all (·.oneCell')=true:=zT
      refine wpAnyH_ready (rs:=[14]) kr zC ?_
      refine sS rfl (fun K hK=> ?_) AllReadyH.nil
      rw[if_pos zK]
      refine wp_store_mid 50 _ _ rfl wa.heap.size 0 (#[.slice a1 n1 c1,.slice a2 n2 c2,.slice a3 n3 c3,.int .i64 (runM p.m p.ps).steps]) rfl rfl hth hsz hall ?_
      exact dD
    · go_simp
      obtain⟨wb,hwb⟩:∃wb,wb=(w.alloc (.cells #[.slice none 0 0,.slice none 0 0,.slice none 0 0,.int .i64 0] 50)).drew:=⟨_,rfl⟩
      rw[←hwb]
      have hbb:Below w.heap.size w wb:=by rw[hwb];exact Below.drew (Below.alloc br (sN _) _)
      have hnew:wb.heap[w.heap.size]? =some (.cells #[.slice none 0 0,.slice none 0 0,.slice none 0 0,.int .i64 0] 50 (0,0)):=by rw[hwb];exact sP w _
      refine hK.out _ _ (KP.out _ hbb).2 (fun hHeld2=> ?_)
      clear hK K hwb
      refine wpAnyH_ready (rs:=[8]) kr zC ?_
      refine sS rfl (fun K hK=> ?_) AllReadyH.nil
      go_simp
      refine(HU.out _ hbb).mono ?_
      rintro e wa ⟨⟨a1,n1,c1,a2,n2,c2,a3,n3,c3,a4,n4,c4,us2,rfl,HRU⟩,hbm⟩
      have hba:Below w.heap.size w wa:=hbb.trans (hbm.mono hbb.size)
      have hth:wa.there w.heap.size 0 4:=qt ((hbm.block _ (qR hnew)).trans hnew) rfl
      refine hK.out _ _ (KP.out _ hba).2 (fun hHeld3=> ?_)
      clear hK K
      refine tak 9 (.tuple #[.agg #[.slice a1 n1 c1,.slice a2 n2 c2,.slice a3 n3 c3,.int .i64 (runM p.m p.ps).steps],.slice a4 n4 c4,.int .i64 (qj p.m p.ps)]) ?_
      try simp only[sA,sB,sC,Act.put,sD,sE,sG]
      refine tak 10 (.agg #[.slice a1 n1 c1,.slice a2 n2 c2,.slice a3 n3 c3,.int .i64 (runM p.m p.ps).steps]) ?_
      try simp only[sA,sB,sC,Act.put,sD,sE,sG]
      refine tak 11 (.slice a4 n4 c4) ?_
      try simp only[sA,sB,sC,Act.put,sD,sE,sG]
      refine tak 12 (.int .i64 (qj p.m p.ps)) ?_
      try simp only[sA,sB,sC,Act.put,sD,sE,sG]
      obtain⟨wc,hwc⟩:∃wc,wc=wa.setCells w.heap.size 0 (#[.slice a1 n1 c1,.slice a2 n2 c2,.slice a3 n3 c3,.int .i64 (runM p.m p.ps).steps]:Array Value).toList:=⟨_,rfl⟩
      have hbc:Below w.heap.size w wc:=by rw[hwc];exact qL (sN _) _ _ _ hba
      have HREL:Hid (Below w.heap.size w wc∧At wc w.heap.size 0 [.slice a1 n1 c1,.slice a2 n2 c2,.slice a3 n3 c3,.int .i64 (runM p.m p.ps).steps]∧w.heap.size≤w.heap.size∧JU (pb+1) wc (.slice a1 n1 c1) (.slice a2 n2 c2) (.slice a3 n3 c3) (.slice a4 n4 c4) us2 p.m p.ps):=lI ⟨hbc,by rw[hwc];exact qv hth,sN _,(HRU.out.keep (fun q hq=>by rw[hwc];exact qT (by have:=qR hnew;omega) _ _ _)).mono (by have:=hbb.size;omega)⟩
      have HWC:=lI hwc
      clear hwc
      have hsz:=hsz (.slice a1 n1 c1) (.slice a2 n2 c2) (.slice a3 n3 c3) (runM p.m p.ps).steps
      have hall:(#[.slice a1 n1 c1,.slice a2 n2 c2,.slice a3 n3 c3,.int .i64 (runM p.m p.ps).steps]:Array Value).all (·.oneCell')=true:=zT
      refine wpAnyH_ready (rs:=[14]) kr zC ?_
      refine sS rfl (fun K hK=> ?_) AllReadyH.nil
      rw[if_pos zK]
      refine wp_store_mid 50 _ _ rfl w.heap.size 0 (#[.slice a1 n1 c1,.slice a2 n2 c2,.slice a3 n3 c3,.int .i64 (runM p.m p.ps).steps]) rfl rfl hth hsz hall ?_
      exact dD
  case rest=>
    obtain⟨sb,a1,n1,c1',a2,n2,c2',a3,n3,c3',a4,n4,c4',us2,rfl,rfl,rfl,HC⟩:=hcut
    obtain⟨hb,hat,hsb,hru⟩:=HC.out
    have hpc:=HP.out.below hb
    have hne:¬sb=pb:=om
    have HRU:=lI hru
    have HPC:=lI hpc
    have HBC:=lI hb
    by_cases h0:qj p.m p.ps=0
    · have HRS:Hid (runS p=ranS {p with us:=QC p.ps (qN p.m),ran:=true} (runM p.m p.ps) 0):=lI (if_pos h0)
      have hun:undoM p.m p.ps=QC p.ps (qN p.m):=if_pos h0
      obtain⟨p1,p2,p3,p4,p5,p6⟩:=jx h0
      have hul:=UC p.ps (qN p.m) (fun q hq=>(p6 q hq).2.2.2)
      have HDN:=lI (hpc.done hru.up (hru.eq.trans hun) (undoPlay_rng p.ps (Jw hpc.wf h0) (fun q hq=>⟨(p6 q hq).1,(p6 q hq).2.1⟩) p3) om)
      have HRN:=lI (hru.run h0)
      obtain⟨wz,hwz⟩:∃wz,wz=(wc.setCell ⟨pb,3,none⟩ (.slice a4 n4 c4')).setCell ⟨pb,4,none⟩ (.bool true):=⟨_,rfl⟩
      have hkz:∀q,q≠pb→wz.heap[q]? =wc.heap[q]? :=fun q hq=>by rw[hwz];exact(sT _ _ _ _ xU).trans (sT _ _ _ _ xU)
      rw[←hwz]at HDN
      have HRZ:=lI (HRN.out.keep (fun q hq=>hkz q om))
      have hatz:At wz sb 0 _:=fun j hj=>(qA (hkz sb hne) _).trans (hat j hj)
      have z0:=hatz.get (j:=0) rfl
      have z1:=hatz.get (j:=1) rfl
      have z2:=hatz.get (j:=2) rfl
      have z3:=hatz.get (j:=3) rfl
      have d3:=hpc.at_.get (j:=3) rfl
      have d4:=hpc.at_.get (j:=4) rfl
      simp only[sM]at z0 z1 z2 z3 d3 d4
      have f3:=hpc.frz 3
      have f4:=hpc.frz 4
      have HSH:=lI (pshown_any HDN.out.1 _ _ _ (runM p.m p.ps) (runM p.m p.ps).steps 0 (lI (HE.out.keep ((hb.mono (Nat.le_of_lt hlt)).trans HDN.out.2))) ⟨om,om⟩ ⟨⟨_,_,_,rfl⟩,⟨_,_,_,rfl⟩,⟨_,_,_,rfl⟩⟩ (fun _=>⟨rfl,HRZ.out⟩))
      have HWZ:=lI hwz
      rw[h0]
      clear HC hb hat hru hpc p1 p2 p3 p4 p5 p6 hul hun hwz hkz hatz HRU HRN HRZ c0 c1 c2 h0
      go_upto_region 4 with(fail)
      rw[←HWZ.out]
      clear d3 d4 f3 f4
      go_wp2_with fail
      refine HSH.out.mono ?_
      rintro e wy ⟨rfl,hpl,hby⟩
      have HY:=lI (And.intro hpl hby)
      clear hpl hby
      go_wp2_with fail
      go_ret
      rw[HRS.out]
      exact⟨rfl,HY.out.1,((HBC.out.mono (Nat.le_of_lt hlt)).trans HDN.out.2).trans HY.out.2⟩
    · have HRS:Hid (runS p=ranS p (runM p.m p.ps) (qj p.m p.ps)):=lI (if_neg h0)
      have z0:=hat.get (j:=0) rfl
      have z1:=hat.get (j:=1) rfl
      have z2:=hat.get (j:=2) rfl
      have z3:=hat.get (j:=3) rfl
      simp only[sM]at z0 z1 z2 z3
      have hwr:=wrong_rng p.m p.ps
      have HSH:=lI (pshown_any hpc (.slice a1 n1 c1') (.slice a2 n2 c2') (.slice a3 n3 c3') (runM p.m p.ps) (runM p.m p.ps).steps (qj p.m p.ps) (lI (HE.out.keep (hb.mono (Nat.le_of_lt hlt)))) ⟨om,om⟩ ⟨⟨_,_,_,rfl⟩,⟨_,_,_,rfl⟩,⟨_,_,_,rfl⟩⟩ (fun e=>absurd e h0))
      obtain⟨q,hq⟩:∃q,q=qj p.m p.ps:=⟨_,rfl⟩
      rw[←hq]at h0 HSH HRS ⊢
      clear HC hb hat hru hpc hq HRU c0 c1 c2 hwr
      go_wp2_with fail
      refine HSH.out.mono ?_
      rintro e wy ⟨rfl,hpl,hby⟩
      have HY:=lI (And.intro hpl hby)
      clear hpl hby
      go_wp2_with fail
      go_ret
      rw[HRS.out]
      exact⟨rfl,HY.out.1,(HBC.out.mono (Nat.le_of_lt hlt)).trans HY.out.2⟩
end Go.Proofs.YtlfnddmncbkjaabGreatDoor.W
