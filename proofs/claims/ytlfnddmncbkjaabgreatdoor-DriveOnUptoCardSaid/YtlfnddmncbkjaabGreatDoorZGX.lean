import Derived.Test.YtlfnddmncbkjaabGreatDoorZWEng3
set_option linter.unusedVariables false
set_option linter.unusedSimpArgs false
set_option maxRecDepth 100000
set_option maxHeartbeats 4000000
namespace Go.Proofs.YtlfnddmncbkjaabGreatDoor.Fb
open Go.RowKit
theorem stale_all{fr tw:Int}:∀{zs:List BlkD},zs.any (qp fr tw)=false→zs.filter (fun x=> !qp fr tw x)=zs:=fun h=>
  List.filter_eq_self.2 (fun x hx=>by
    rw[List.any_eq_false]at h
    have:=h x hx
    simpa using this)
end Go.Proofs.YtlfnddmncbkjaabGreatDoor.Fb
namespace Go.Proofs.YtlfnddmncbkjaabGreatDoor.W
open Go.RowKit Fb
theorem efind_any{A:Nat→Prop}{ep mp bp:Nat}{w:World}{room pu st:Int}{v:Value}{zs:List BlkD}{n:Nat}(hA:∀q,A q→ep<q)(hN:∀q,w.heap.size≤q→A q)(vm:Value)(mem:List Int)(hB:EnB A 84 62 91 ep mp bp w room pu st v zs)(hC:EnC A Tryz.prog 40 211 ep mp w zs n)(htot:(zs.length:Int)+pu+st=n∧0≤pu∧0≤st)(hok:jU mem room zs)(pc:Int)(hpc:U32 pc)
    (hvm:w.cell? ⟨bp,0,none⟩=some vm) (hbp:bp<ep) (hm:Ints .u8 w vm mem) (hby:jC mem) (hml:mem.length≤4096) (hn:n≤1000000):
    Calls Tryz.prog 51 #[.pointer (some ⟨ep,0,none⟩),.int .u32 pc] w fun e w'=>FindPost A Tryz.prog 40 84 62 91 211 ep mp bp w room st mem pc n e w':=by
  by_cases hlt:Qo zs pc<zs.length
  · refine(efind_yes hA hN hB hC pc hpc hlt).mono ?_
    rintro e w' ⟨⟨vi,vc,l,hmem,rfl,h1,h2,h3⟩,hb⟩
    have h0:0<zs.length:=List.length_pos_of_mem hmem
    exact⟨vi,vc,l,rfl,h1,Fr.of_below hb (fun j h4 h5=>om),.inr ⟨hok.kept _ hmem,h2,h3,v,zs,pu,n,hB.below hb,hC.below hb,htot,hok,sN _,om,om⟩⟩
  · exact efind_no hA hN vm mem hB hC htot hok pc hpc hlt hvm hbp hm hby hml hn
theorem estored_any{A:Nat→Prop}{ep mp bp bh hc:Nat}{w:World}{room pu st:Int}{v:Value}{zs:List BlkD}{n:Nat}(hA:∀q,A q→ep<q)(hN:∀q,w.heap.size≤q→A q)(hB:EnB A 84 62 91 ep mp bp w room pu st v zs)(hC:EnC A Tryz.prog 40 211 ep mp w zs n)(htot:(zs.length:Int)+pu+st=n∧0≤pu∧0≤st)(hins:∀x∈zs,x.ins.length≤16)(hzl:zs.length≤64)(hn:n≤1000000)
    (k:Nat) (fr tw:Int) (hs:List Hart) (hbp:bp<ep) (hbh:bh<bp) (hne:mp≠bh) (c1:w.cell? ⟨bp,1,none⟩=some (.slice (some ⟨bh,0,none⟩) hs.length hc)) (hat:At w bh 0 (hs.flatMap qJ)) (hfz:∀o,w.frozen? ⟨bh,o,none⟩=false)
    (wf:∀h∈hs,h.Wf) (h4:hs.length≤4) (hcap:hs.length≤hc∧hc≤maxLen) (hfr:U32 fr) (htw:U32 tw):
    Calls Tryz.prog 89 #[.pointer (some ⟨ep,0,none⟩),.int .i64 k,.agg #[.int .u32 fr,.int .u32 tw]] w fun e w'=>e=.returned (.tuple #[])∧∃w1,At w1 bh 0 ((QA k fr tw hs.length hs).flatMap qJ)∧Chg (fun p=>p.block=bh) w w1∧Fr (fun j=>j=ep) w1 w'∧
      ∃v' zs' st',EnB A 84 62 91 ep mp bp w' room pu st' v' zs'∧EnC A Tryz.prog 40 211 ep mp w' zs' n∧((zs'.length:Int)+pu+st'=n∧0≤pu∧0≤st')∧zs'.map BlkD.abs=(zs.filter (fun x=> !qp fr tw x)).map BlkD.abs:=by
  have HA:=lI hA
  have HN:=lI hN
  clear hA hN
  have hep:=hB.lt
  have hbhl:bh<w.heap.size:=om
  obtain⟨w1,hw1⟩:∃w1,w1=w.alloc (.cells #[.int .u32 fr,.int .u32 tw] 165):=⟨_,rfl⟩
  have hb1:Below w.heap.size w w1:=zI
  have hs1:w1.heap.size=w.heap.size+1:=zO
  have r0:(w1).cell? ⟨w.heap.size,0,none⟩=some (.int .u32 fr):=zA
  have r1:(w1).cell? ⟨w.heap.size,1,none⟩=some (.int .u32 tw):=zA
  have B1:=hB.below hb1
  have e0:=B1.at_.get (j:=0) rfl
  simp only[sM]at e0
  have hbd:Below w1.heap.size w1 w1.drew:=Below.drew br
  have HST:=lI (stored_any k fr tw hs w1.drew ((hb1.cell (p:=⟨bp,1,none⟩) (qD c1)).trans c1) (hat.below (Below.drew hb1)) (fun o=>(hb1.frozen (p:=⟨bh,o,none⟩) hbhl).trans (hfz o)) om wf h4 hcap hfr htw)
  have HB1:=lI B1
  have HC1:=lI (hC.below hb1)
  have HBW1:=lI hb1
  have HW1:=lI hw1
  have HTOT:=lI htot
  have HINS:=lI hins
  have HFR:=lI hfr
  have HTW:=lI htw
  clear hB hC htot hins hb1 hw1 B1 c1 hat hfz wf hcap hfr htw
  go_enter Tryz.func89,Tryz.ntmps89
  go_upto_region 1 with(fail)
  rw[←HW1.out]
  refine wp_region_held_drew (S:=fun W=>W.cell? ⟨ep,0,none⟩=some (.pointer (some ⟨bp,0,none⟩))∧W.cell? ⟨w.heap.size,0,none⟩=some (.int .u32 fr)∧W.cell? ⟨w.heap.size,1,none⟩=some (.int .u32 tw)) kr ⟨e0,r0,r1⟩ (fun hHeld=> ?_)
  refine tak 0 (.pointer (some ⟨ep,0,none⟩)) ?_
  try simp only[sA,sB,sC,Act.put,sD,sE,sG]
  refine tak 1 (.pointer (some ⟨ep,0,none⟩)) ?_
  try simp only[sA,sB,sC,Act.put,sD,sE,sG]
  refine tak 2 (.pointer (some ⟨ep,0,none⟩)) ?_
  try simp only[sA,sB,sC,Act.put,sD,sE,sG]
  refine tak 3 (.pointer (some ⟨bp,0,none⟩)) ?_
  try simp only[sA,sB,sC,Act.put,sD,sE,sG]
  refine tak 4 (.int .i64 k) ?_
  try simp only[sA,sB,sC,Act.put,sD,sE,sG]
  refine tak 5 (.pointer (some ⟨w.heap.size,0,none⟩)) ?_
  try simp only[sA,sB,sC,Act.put,sD,sE,sG]
  refine tak 6 (.int .u32 fr) ?_
  try simp only[sA,sB,sC,Act.put,sD,sE,sG]
  refine tak 7 (.pointer (some ⟨w.heap.size,1,none⟩)) ?_
  try simp only[sA,sB,sC,Act.put,sD,sE,sG]
  refine tak 8 (.int .u32 tw) ?_
  try simp only[sA,sB,sC,Act.put,sD,sE,sG]
  refine wpAnyH_ready (rs:=[9]) kr zC ?_
  refine sS rfl (fun K hK=> ?_) AllReadyH.nil
  go_simp
  refine HST.out.mono ?_
  rintro e w2 ⟨rfl,hat2,hg2⟩
  have hs2:w1.heap.size≤w2.heap.size:=hg2.size
  have e02:w2.cell? ⟨ep,0,none⟩=some (.pointer (some ⟨bp,0,none⟩)):=(hg2.cell ⟨ep,0,none⟩ (by show ep<w1.heap.size;omega) (by show ¬ep=bh;omega)).trans e0
  have r02:w2.cell? ⟨w.heap.size,0,none⟩=some (.int .u32 fr):=(hg2.cell ⟨w.heap.size,0,none⟩ yV (by show ¬w.heap.size=bh;omega)).trans r0
  have r12:w2.cell? ⟨w.heap.size,1,none⟩=some (.int .u32 tw):=(hg2.cell ⟨w.heap.size,1,none⟩ yV (by show ¬w.heap.size=bh;omega)).trans r1
  refine hK.out _ _ ⟨e02,r02,r12⟩ (fun hHeld2=> ?_)
  clear hK K
  refine wpAnyH_done kr ?_ _
  have hbk:∀j,j<w1.heap.size→j≠bh→w2.heap[j]? =w1.heap[j]? :=fun j h1 h2=>hg2.block j h1 (fun o=>h2)
  have B2:EnB A 84 62 91 ep mp bp w2 room pu st v zs:=HB1.out.keep (TM:=211) HA.out (fun q h1 h2=>hbk q h1 om)
  have C2:EnC A Tryz.prog 40 211 ep mp w2 zs n:=HC1.out.keep (TB:=62) (TI:=91) HA.out (fun q h1 h2=>hbk q h1 om)
  have HG2:Hid (Chg (fun p=>p.block=bh) w w2):=lI ((Chg.of_below HBW1.out (fun p=>p.block=bh)).trans (S':=fun p=>p.block=bh) ⟨hg2.os,hg2.tape,hg2.output,hg2.size,hg2.block,hg2.cell,hg2.frozen,hg2.shape⟩ (fun _ _ h=>h))
  have HAT2:=lI hat2
  obtain⟨av,cv,rfl,hcv,hmv,-,-⟩:=B2.blks.1.open (fun _ _=>rfl) om
  unfold maxLen at hmv
  have x1:=B2.at_.get (j:=1) rfl
  have x2:=B2.at_.get (j:=2) rfl
  have x3:=B2.at_.get (j:=3) rfl
  have x4:=B2.at_.get (j:=4) rfl
  simp only[sM]at x1 x2 x3 x4
  have HCT:=lI (econtains_any (.slice av zs.length cv) zs fr tw w.heap.size w2 B2.blks r02 r12 (fun x hx=>by have:=HINS.out x hx;omega) HFR.out HTW.out)
  have HB2:=lI B2
  have HC2:=lI C2
  clear hat2 hg2 hbk B2 C2 hHeld hHeld2 e0 r0 r1 hbd HST HB1 HC1 HBW1
  go_wp2_with fail
  refine HCT.out.mono ?_
  rintro e w3 ⟨rfl,hb3⟩
  have hs3:=hb3.size
  have hepl:ep<w2.heap.size:=om
  have y1:=(hb3.cell (p:=⟨ep,1,none⟩) hepl).trans x1
  have y2:=(hb3.cell (p:=⟨ep,2,none⟩) hepl).trans x2
  have y3:=(hb3.cell (p:=⟨ep,3,none⟩) hepl).trans x3
  have y4:=(hb3.cell (p:=⟨ep,4,none⟩) hepl).trans x4
  have q0:=(hb3.cell (p:=⟨w.heap.size,0,none⟩) (qD r02)).trans r02
  have q1:=(hb3.cell (p:=⟨w.heap.size,1,none⟩) (qD r12)).trans r12
  have HB3:=lI hb3
  have HEB3:=lI (HB2.out.below hb3)
  have HEC3:=lI (HC2.out.below hb3)
  clear hb3 x1 x2 x3 x4 e02 r02 r12 HCT
  obtain⟨an,han⟩:∃a,a=zs.any (qp fr tw):=⟨_,rfl⟩
  rw[←han]
  have HAN:=lI han
  clear han
  cases an with
  | false =>
    go_wp2_with fail
    go_end0
    exact⟨rfl,w2,HAT2.out,HG2.out,Fr.of_below HB3.out (fun j h1 h2=>om),_,zs,st,HEB3.out,HEC3.out,HTOT.out,by rw[stale_all HAN.out.symm]⟩
  | true =>
    have HBR:Hid (∀W,Below w3.heap.size w3 W→W.cell? ⟨w.heap.size,0,none⟩=some (.int .u32 fr)∧W.cell? ⟨w.heap.size,1,none⟩=some (.int .u32 tw)):=lI (fun W hW=>⟨(hW.cell (p:=⟨w.heap.size,0,none⟩) (qD q0)).trans q0,(hW.cell (p:=⟨w.heap.size,1,none⟩) (qD q1)).trans q1⟩)
    have hbd:Below w3.heap.size w3 w3.drew:=Below.drew br
    have HSTA:=lI (cstale_far room (.slice av zs.length cv) pu st zs fr tw w3.drew (HEB3.out.below hbd).blks (fun x hx=>by have:=HINS.out x hx;omega) om HFR.out HTW.out)
    go_wp2_with fail
    refine wp_region_held_drew (S:=fun W=>W.cell? ⟨w.heap.size,0,none⟩=some (.int .u32 fr)∧W.cell? ⟨w.heap.size,1,none⟩=some (.int .u32 tw)) kr (HBR.out _ hbd) (fun hHeld=> ?_)
    refine tak 0 (.pointer (some ⟨ep,0,none⟩)) ?_
    try simp only[sA,sB,sC,Act.put,sD,sE,sG]
    refine tak 1 (.pointer (some ⟨ep,0,none⟩)) ?_
    try simp only[sA,sB,sC,Act.put,sD,sE,sG]
    refine tak 2 (.pointer (some ⟨ep,0,none⟩)) ?_
    try simp only[sA,sB,sC,Act.put,sD,sE,sG]
    refine tak 3 (.pointer (some ⟨ep,1,none⟩)) ?_
    try simp only[sA,sB,sC,Act.put,sD,sE,sG]
    refine tak 5 (.agg #[.int .u32 fr,.int .u32 tw]) ?_
    try simp only[sA,sB,sC,Act.put,sD,sE,sG]
    refine wpAnyH_ready (rs:=[4]) kr zC ?_
    refine sS rfl (fun K hK=> ?_) AllReadyH.nil
    go_simp
    refine hK.out _ _ (HBR.out _ hbd) (fun hHeld2=> ?_)
    clear hK K
    refine wpAnyH_ready (rs:=[6]) kr zC ?_
    refine sS rfl (fun K hK=> ?_) AllReadyH.nil
    go_simp
    refine HSTA.out.mono ?_
    rintro e w4 ⟨⟨v4,zs4,rfl,hbl4,habs4,hfar4,htyp4⟩,hb4⟩
    obtain⟨a4,c4,rfl,-⟩:=hbl4.1.open (fun _ _=>rfl) om
    have hle:zs4.length≤zs.length:=by rw[len_abs habs4];exact List.length_filter_le _ _
    obtain⟨sn,hsn⟩:∃sn,sn=wrap64 (st+((zs.length:Int)-(zs4.length:Int))):=⟨_,rfl⟩
    have hsn2:sn=st+((zs.length:Int)-(zs4.length:Int)):=by rw[hsn];have:=HTOT.out;unfold wrap64;omega
    rw[←hsn]
    clear hsn
    have hb34:Below w3.heap.size w3 w4:=hbd.trans hb4
    have hs4:=hb34.size
    refine hK.out _ _ (HBR.out _ hb34) (fun hHeld3=> ?_)
    clear hK K
    refine tak 7 (.pointer (some ⟨ep,0,none⟩)) ?_
    try simp only[sA,sB,sC,Act.put,sD,sE,sG]
    refine tak 8 (.pointer (some ⟨ep,1,none⟩)) ?_
    try simp only[sA,sB,sC,Act.put,sD,sE,sG]
    refine wpAnyH_ready (rs:=[9]) kr zC ?_
    refine sS rfl (fun K hK=> ?_) AllReadyH.nil
    have B4:=HEB3.out.below hb34
    have hth:=B4.there
    rw[if_pos zK]
    refine wp_store_mid 53 _ _ rfl ep 1 #[.int .i64 room,.slice a4 zs4.length c4,.int .i64 pu,.int .i64 sn] rfl rfl hth yD zT ?_
    simp only[Act.put,sD,sE,sG]
    obtain⟨w5,hw5⟩:∃w5,w5=w4.setCells ep 1 (#[.int .i64 room,.slice a4 zs4.length c4,.int .i64 pu,.int .i64 sn]:Array Value).toList:=⟨_,rfl⟩
    have B5:EnB A 84 62 91 ep mp bp w5 room pu sn (.slice a4 zs4.length c4) zs4:=by rw[hw5];exact B4.store HA.out hbl4 (hfar4.toA (fun q h=>HN.out q (by have h':w3.heap.size≤q:=h;omega))) htyp4
    have F45:Fr (fun j=>j=ep) w4 w5:=by rw[hw5];exact Fr.setCells (S:=fun j=>j=ep) (Fr.refl _ _) ep rfl _ _
    have C4:=HEC3.out.below hb34
    have hmp:=C4.1
    have C5:EnC A Tryz.prog 40 211 ep mp w5 zs4 n:=(C4.keep (TB:=62) (TI:=91) HA.out (fun k hk h=>F45.block k hk om)).sub (fun x hx=>by
      obtain⟨y,hy,e2⟩:=List.mem_map.1 (show x.abs∈(zs.filter (fun x=> !qp fr tw x)).map BlkD.abs by rw[←habs4];exact List.mem_map_of_mem hx)
      have e3:y.pc=x.pc∧y.ins=x.ins:=xT
      exact⟨y,(List.mem_filter.1 hy).1,e3.1.symm,e3.2.symm⟩)
    have g0:=(qA (F45.block w.heap.size om (by show w.heap.size≠ep;omega)) 0).trans (HBR.out _ hb34).1
    have g1:=(qA (F45.block w.heap.size om (by show w.heap.size≠ep;omega)) 1).trans (HBR.out _ hb34).2
    rw[←hw5]
    refine hK.out _ _ ⟨g0,g1⟩ (fun hHeld4=> ?_)
    clear hK K
    refine wpAnyH_done kr ?_ _
    have HF:=lI (Fr.trans (S':=fun j=>j=ep) (S:=fun j=>j=ep) (Fr.of_below (HB3.out.trans (hb34.mono hs3)) (fun j h1 h2=>om)) F45 (fun j _ h=>h))
    have HB5:=lI B5
    have HC5:=lI C5
    have HAB:=lI habs4
    clear B5 C5 F45 B4 C4 hth hw5 hHeld hHeld2 hHeld3 hHeld4 hb34 hb4 hbl4 hfar4 htyp4 habs4
    go_wp2_with fail
    go_end0
    exact⟨rfl,w2,HAT2.out,HG2.out,HF.out,_,zs4,sn,HB5.out,HC5.out,by have:=HTOT.out;omega,HAB.out⟩
end Go.Proofs.YtlfnddmncbkjaabGreatDoor.W
namespace Go.Proofs.YtlfnddmncbkjaabGreatDoor.Fb
open Go.RowKit
section
variable {rp cp hb po bp bh hc k : Nat} {vm vo : Value} {TU TS TR TE TB TI TM TC : TypeId} {w w' : World} {o0 o : List Int} {fr tw steps : Int} {s : St}
theorem R8.initE{h:Hart}{m o:List Int}{bf bt:Int}(hc:qX cp hb po vm TU w ⟨h,m,o,0,0⟩)(wf:h.Wf)(hb':jC m)(hl:m.length≤4096)(ho:∀x∈o,U32 x)(hol:o.length≤50000)(h1:U32 bf)(h2:U32 bt)(hw:w'=w.alloc (.cells (QD (runE h m o bf bt) cp (.slice none 0 0) steps).toArray TR)):
    R8 w.heap.size cp hb po vm TU TS TR w' (runE h m o bf bt) (.slice none 0 0) steps 0 0:=by
  have hB:Below w.heap.size w w':=by rw[hw];exact Below.alloc br (sN _) _
  refine⟨runE_wf wf hb' hl ho h1 h2,by show o.length≤_;omega,hl,jp,jp,hc.below hB,hc.lt,by rw[hw];exact QN w _ TR (0,0),fun o=> ?_,⟨_,_,by rw[hw];exact sP _ _⟩,World.ownsRow_nil _ _ _ _⟩
  rw[hw];unfold World.frozen?;rw[sP];simp
theorem Wk.go8{d:qF}(h:Wk bp bh hc cp k vm vo TU o0 o fr tw w s)(wf:s.Wf)(hd:d.h.Wf)(hc':qX cp bh (k*37) vm TU w' d)(hg:G8 rp TU cp bh (k*37) vm w w'):
    Wk bp bh hc cp k vm vo TU o0 d.out d.fr d.tw w' ⟨s.harts.set k d.h,d.m,s.out,s.steps⟩:=by
  have b1:=h.b1
  have b2:=h.b2
  have hl:=h.clt
  have e:=hg.block bp om om (fun e=>by have:=h.mlt _ e;omega) (.inl h.b2)
  have ek:(⟨s.harts.set k d.h,d.m,s.out,s.steps⟩:St).hart k=d.h:=by
    rw[St.hart_at (by show k<(s.harts.set k d.h).length;rw[List.length_set];exact h.kl)]
    show(s.harts.set k d.h)[k]'_=_
    rw[List.getElem_set,if_pos rfl]
  refine⟨by rw[ek];exact hc',h.b1,h.b2,(qA e _).trans h.c0,(qA e _).trans (by rw[h.c1];simp),(qA e _).trans h.c2,(qA e _).trans h.c3,fun o=>(qK e o).trans (h.frz o),
    jn h.harts (fun x hx=>qG (wf.harts x hx)) (qG hd) hc'.hart hg.cell,h.mlt,qI h.own (fun g hg'=> ?_),h.vlt,by show k<(s.harts.set k d.h).length;rw[List.length_set];exact h.kl,by show(s.harts.set k d.h).length≤_∧_;rw[List.length_set];exact h.hcap⟩
  have:=h.own.lt g hg'
  exact hg.block g this.2 om (fun e=>by have:=h.mlt _ e;omega) (.inl (h.vlt g hg'))
theorem Wk.out(h:Wk bp bh hc cp k vm vo TU o0 o fr tw w s)(x:List Int):Wk bp bh hc cp k vm vo TU o0 o fr tw w {s with out:=x}:=⟨h.core,h.b1,h.b2,h.c0,h.c1,h.c2,h.c3,h.frz,h.harts,h.mlt,h.own,h.vlt,h.kl,h.hcap⟩
end
theorem loseAll_snoc(k:Nat)(a:List (Int × Int))(p:Int × Int)(hs:List Hart):qm k (a++[p]) hs=QA k p.1 p.2 (qm k a hs).length (qm k a hs):=by
  rw[Jo];rfl
theorem staleAll_append:∀(a b:List (Int × Int)) (bl:List BlkD),Qw (a++b) bl=Qw b (Qw a bl)
  |[],_,_=>rfl
  |p::r,b,bl=>by rw[List.cons_append,Qw,Qw,staleAll_append r b]
theorem staleAll_snoc(a:List (Int × Int))(p:Int × Int)(bl:List BlkD):Qw (a++[p]) bl=(Qw a bl).filter (fun x=> !qp p.1 p.2 x):=by
  rw[staleAll_append];rfl
theorem estale_abs{fr tw:Int}:∀{ys l:List BlkD},ys.map BlkD.abs=l.map BlkD.abs→(ys.filter (fun x=> !qp fr tw x)).map BlkD.abs=(l.filter (fun x=> !qp fr tw x)).map BlkD.abs
  |[],[],_=>rfl
  |[],_::_,h=>by simp at h
  |_::_,[],h=>by simp at h
  | y :: ys, x :: l, h => by
    simp only[List.map_cons,List.cons.injEq]at h
    obtain⟨h1,h2⟩:=h
    have ih:=estale_abs (fr:=fr) (tw:=tw) h2
    have e:y.pc=x.pc∧y.ins=x.ins:=by unfold BlkD.abs at h1;injection h1 with a b;exact⟨a,b⟩
    have e2:qp fr tw y=qp fr tw x:=by unfold qp;rw[e.1,e.2]
    rw[List.filter_cons,List.filter_cons,e2]
    split
    · rw[List.map_cons,List.map_cons,h1,ih]
    · exact ih
end Go.Proofs.YtlfnddmncbkjaabGreatDoor.Fb
namespace Go.Proofs.YtlfnddmncbkjaabGreatDoor.W
open Go.RowKit Fb
section
variable {rp cp hb po : Nat} {vm : Value} {w : World} {d : RunD} {vs : Value} {steps fr tw : Int}
theorem tyR:(170:TypeId)≠40:=by decide
theorem tyS:(165:TypeId)≠40:=by decide
theorem JX(h:R8 rp cp hb po vm 40 165 170 w d vs steps fr tw)(k:Nat)(hk:k<36):
    Calls Tryz.prog 149 #[.pointer (some ⟨rp,0,none⟩),.int .i64 k] w fun e w'=>e=.returned (.int .u32 (d.get k))∧w'=w:=by
  by_cases h32:k<32
  · have c0:=h.at_.get (QO 0 om)
    have p0:=h.core.ptr
    have hc:=h.core.hart.get (JB h.wf.h k h32)
    have e:d.get k=d.h.regs.getD k 0:=by unfold RunD.get;rw[if_pos h32]
    rw[e]
    clear e
    have i0:¬(32:Int)≤(k:Int):=om
    have i1:(0:Int)≤(k:Int):=om
    have i2:(k:Int)<32:=om
    simp only[sM]at hc c0
    clear h
    go_enter Tryz.func149,Tryz.ntmps149
    go_wp2_with fail
    go_ret
    exact⟨rfl,rfl⟩
  · obtain⟨j,rfl⟩:∃j,k=32+j:=⟨k-32,om⟩
    have hc:=h.at_.get (r8_temp h.wf.tlen (k:=j) om)
    have e:d.get (32+j)=d.temps.getD j 0:=by unfold RunD.get;rw[if_neg h32];simp
    rw[e]
    clear e
    have i0:(32:Int)≤((32+j:Nat):Int):=om
    have i1:wrap64 (((32+j:Nat):Int)-32)=(j:Int):=yU
    simp only[sM]at hc
    obtain⟨q,hq⟩:∃q:Int,q=((32+j:Nat):Int):=⟨_,rfl⟩
    rw[←hq]at i0 i1 ⊢
    have i2:(j:Int)<4:=om
    have i3:(0:Int)≤(j:Int):=om
    clear hq h32 hk h
    go_enter Tryz.func149,Tryz.ntmps149
    go_wp2_with fail
    go_ret
    exact⟨rfl,rfl⟩
theorem Jm(h:R8 rp cp hb po vm 40 165 170 w d vs steps fr tw)(j:Nat)(hj:j<37)(v:Value)(h':Hart)(hl:qJ h'=(qJ d.h).set j v)(wf:h'.Wf):
    R8 rp cp hb po vm 40 165 170 (w.setCell ⟨hb,po+j,none⟩ v) {d with h:=h'} vs steps fr tw∧G8 rp 40 cp hb po vm w (w.setCell ⟨hb,po+j,none⟩ v):=by
  have hc:=h.core.setHart j v h' hl (by show j<(qJ d.h).length;rw[jZ h.wf.h.len];exact hj)
  have hg:=Cgo.setHart (cp:=cp) (vm:=vm) (ty:=40) (hb:=hb) (ho:=po) w j hj v
  exact⟨h.cgo (d':={d with h:=h'}) hc hg tyR tyS {h.wf with h:=wf} h.olen h.mmax h.ufr h.utw rfl rfl rfl rfl rfl rfl rfl,G8.cgo hg h.clt⟩
theorem JP(h:R8 rp cp hb po vm 40 165 170 w d vs steps fr tw)(pc:Int)(hpc:U32 pc):
    Calls Tryz.prog 148 #[.pointer (some ⟨rp,0,none⟩),.int .u32 pc] w fun e w'=>e=.returned (.bool false)∧R8 rp cp hb po vm 40 165 170 w' (d.stop pc) vs steps fr tw∧G8 rp 40 cp hb po vm w w':=by
  have c0:=h.at_.get (QO 0 om)
  have p0:=h.core.ptr
  have hc:=h.core.hart.get (QM h.wf.h)
  have hf:=h.core.hfz (po+32)
  have H0:=Jm h 32 om (.int .u32 pc) (d.h.setPc pc) (QG h.wf.h.len pc) {h.wf.h with pc:=hpc}
  have H1:Hid (R8 rp cp hb po vm 40 165 170 (w.setCell ⟨hb,po+32,none⟩ (.int .u32 pc)) (d.stop pc) vs steps fr tw):=lI ⟨{H0.1.wf with},H0.1.olen,H0.1.mmax,H0.1.ufr,H0.1.utw,H0.1.core,H0.1.lt,H0.1.at_,H0.1.frz,H0.1.ty,H0.1.sto⟩
  have HG:=lI H0.2
  simp only[sM]at hc c0
  clear h H0
  go_enter Tryz.func148,Tryz.ntmps148
  go_wp2_with fail
  go_ret
  exact⟨rfl,H1.out,HG.out⟩
theorem put8_any(h:R8 rp cp hb po vm 40 165 170 w d vs steps fr tw)(k:Nat)(hk:k<36)(x:Int)(hx:U32 x):
    Calls Tryz.prog 147 #[.pointer (some ⟨rp,0,none⟩),.int .i64 k,.int .u32 x] w fun e w'=>e=.returned (.tuple #[])∧R8 rp cp hb po vm 40 165 170 w' (d.put k x) vs steps fr tw∧G8 rp 40 cp hb po vm w w':=by
  by_cases h32:k<32
  · by_cases hk0:k=0
    · subst hk0
      have e:d.put 0 x=d:=by unfold RunD.put Hart.setReg;simp
      rw[e]
      have H:=lI h
      clear h e
      go_enter Tryz.func147,Tryz.ntmps147
      go_wp2_with fail
      go_end0
      exact⟨rfl,H.out,G8.refl⟩
    · have c0:=h.at_.get (QO 0 om)
      have p0:=h.core.ptr
      have hc:=h.core.hart.get (JB h.wf.h k h32)
      have hf:=h.core.hfz (po+k)
      have e:d.put k x={d with h:={d.h with regs:=d.h.regs.set k x}}:=by unfold RunD.put Hart.setReg;rw[if_neg om,if_pos om];simp
      rw[e]
      have H1:=lI (Jm h k om (.int .u32 x) {d.h with regs:=d.h.regs.set k x} (UX h.wf.h.len k h32 x)
        {h.wf.h with len:=by show(d.h.regs.set k x).length=32;rw[List.length_set];exact h.wf.h.len,regs:=fun y hy=>(List.mem_or_eq_of_mem_set hy).elim (h.wf.h.regs y) (fun e=>by rw[e];exact hx)})
      clear e
      have i0:¬(32:Int)≤(k:Int):=om
      have i1:(0:Int)<(k:Int):=om
      have i2:(0:Int)≤(k:Int):=om
      have i3:(k:Int)<32:=om
      simp only[sM]at hc c0
      clear h
      go_enter Tryz.func147,Tryz.ntmps147
      go_wp2_with fail
      go_end0
      exact⟨rfl,H1.out.1,H1.out.2⟩
  · obtain⟨j,rfl⟩:∃j,k=32+j:=⟨k-32,om⟩
    have hc:=h.at_.get (r8_temp h.wf.tlen (k:=j) om)
    have hf:=h.frz (6+j)
    have e:d.put (32+j) x={d with temps:=d.temps.set j x}:=by unfold RunD.put;rw[if_pos om];simp
    rw[e]
    have H1:=lI (h.setCell (d':={d with temps:=d.temps.set j x}) tyR (6+j) om (.int .u32 x) (r8_setTemp h.wf.tlen om x) rfl rfl rfl rfl
      {h.wf with tlen:=by show(d.temps.set j x).length=4;rw[List.length_set];exact h.wf.tlen,temps:=fun y hy=>(List.mem_or_eq_of_mem_set hy).elim (h.wf.temps y) (fun e=>by rw[e];exact hx)})
    have HG:Hid (G8 rp 40 cp hb po vm w (w.setCell ⟨rp,6+j,none⟩ (.int .u32 x))):=lI (G8.set h.lts _ _)
    clear e
    have i0:(32:Int)≤((32+j:Nat):Int):=om
    have i1:wrap64 (((32+j:Nat):Int)-32)=(j:Int):=yU
    simp only[sM]at hc
    obtain⟨q,hq⟩:∃q:Int,q=((32+j:Nat):Int):=⟨_,rfl⟩
    rw[←hq]at i0 i1 ⊢
    have i2:(j:Int)<4:=om
    have i3:(0:Int)≤(j:Int):=om
    clear hq h32 hk h
    go_enter Tryz.func147,Tryz.ntmps147
    go_wp2_with fail
    go_end0
    exact⟨rfl,H1.out,HG.out⟩
theorem trap8_any(h:R8 rp cp hb po vm 40 165 170 w d vs steps fr tw)(c:Int)(hc:QY c):
    Calls Tryz.prog 150 #[.pointer (some ⟨rp,0,none⟩),.int .i64 c] w fun e w'=>e=.returned (.bool false)∧R8 rp cp hb po vm 40 165 170 w' (d.trap c) vs steps fr tw∧G8 rp 40 cp hb po vm w w':=by
  have c0:=h.at_.get (QO 0 om)
  have p0:=h.core.ptr
  have c35:=h.core.hart.get (jg h.wf.h)
  have c36:=h.core.hart.get (uH h.wf.h)
  have c10:=h.at_.get (Jb h.wf.tlen 0)
  have f35:=h.core.hfz (po+35)
  have f36:=h.core.hfz (po+36)
  have hlt:=h.rlt
  have hne:hb≠rp:=by have:=h.lt;have:=h.core.hbl;omega
  simp only[sM]at c0 c35 c36 c10
  have H1:=Jm h 35 om (.int .i64 2) {d.h with state:=2} (Jr h.wf.h.len 2) {h.wf.h with state:=(show -9223372036854775808≤(2:Int)∧(2:Int)≤9223372036854775807 by omega)}
  have H2:=Jm H1.1 36 om (.int .i64 c) {d.h with state:=2,cause:=c} (hlist_setCause (h:={d.h with state:=2}) h.wf.h.len c) {h.wf.h with state:=(show -9223372036854775808≤(2:Int)∧(2:Int)≤9223372036854775807 by omega),cause:=hc}
  obtain⟨w2,hw2⟩:∃w2,w2=((w.setCell ⟨hb,po+35,none⟩ (.int .i64 2)).setCell ⟨hb,po+36,none⟩ (.int .i64 c)):=⟨_,rfl⟩
  rw[←hw2]at H2
  have HS:=lI (fun n=>JP (H2.1.below (w':=w2.drewN n) (qB br _)) d.here h.wf.here)
  have HG:=lI (fun n=>(H1.2.trans H2.2).trans (G8.below (w':=w2.drewN n) (qB br _) H2.1.clt))
  have HC10:=lI (fun n=>(H2.1.below (w':=w2.drewN n) (qB br _)).at_.get (Jb h.wf.tlen 0))
  have HW2:=lI hw2
  clear h H1 H2 hw2
  go_enter Tryz.func150,Tryz.ntmps150
  go_upto_region 1 with(fail)
  go_region
  all_goals
    go_wp2_with fail
    rw[←HW2.out]
    refine(HS.out 1).mono ?_
    rintro e w3 ⟨rfl,h3,g3⟩
    go_wp2_with fail
    go_ret
    exact⟨rfl,h3,(HG.out 1).trans g3⟩
theorem dH{p:Prop}(h:p:=by
 clear h h1 h2 hl hds' e
 go_enter Tryz.func146,Tryz.ntmps146
 go_wp2_with fail
 refine HS.out.mono ?_
 rintro e w1 ⟨rfl,h9,g9⟩
 go_wp2_with fail
 go_ret
 exact⟨_,rfl,rfl,h9,g9⟩):p:=h
theorem at8_any(h:R8 rp cp hb po vm 40 165 170 w d vs steps fr tw)(n:Int)(hn:U32 n)(hds:0≤d.steps∧d.steps≤100000)(hst:QY steps)(hle:0≤steps-d.steps)(hov:d.over=false):
    Calls Tryz.prog 146 #[.pointer (some ⟨rp,0,none⟩),.int .u32 n] w fun e w'=>∃d',d'=(if(d.steps==steps||d.own)=true then d.stop n else {d with steps:=d.steps+1,here:=n})∧e=.returned (.bool (!d'.over))∧R8 rp cp hb po vm 40 165 170 w' d' vs steps fr tw∧G8 rp 40 cp hb po vm w w':=by
  have c3:=h.at_.get (QO 3 om)
  have c4:=h.at_.get (QO 4 om)
  have c11:=h.at_.get (Jb h.wf.tlen 1)
  have c10:=h.at_.get (Jb h.wf.tlen 0)
  have f3:=h.frz 3
  have f4:=h.frz 4
  have f10:=h.frz 10
  simp only[sM,Nat.reduceAdd]at c3 c4 c10 c11
  have HS:=lI (JP h n hn)
  obtain⟨hst0,hst1⟩:=hst
  obtain⟨l,hl⟩:∃l,l=steps-d.steps:=⟨_,rfl⟩
  obtain⟨ds,hds'⟩:∃ds,ds=d.steps:=⟨_,rfl⟩
  rw[←hl]at c3
  rw[←hds']at c4
  by_cases h1:(d.steps==steps||d.own)=true
  · rw[if_pos h1]
    rw[Bool.or_eq_true]at h1
    by_cases h2:d.steps=steps
    · have e:l=0:=om
      rw[e]at c3
      exact dH
    · have e:d.own=true:=h1.resolve_left (by simpa using h2)
      rw[e]at c11
      have e0:(l==0)=false:=zL
      have e1:decide (l=0)=false:=zL
      exact dH
  · rw[if_neg h1]
    have h1':=h1
    simp only[Bool.or_eq_true,not_or]at h1'
    have h2:d.steps≠steps:=by simpa using h1'.1
    have h3:d.own=false:=by simpa using h1'.2
    rw[h3]at c11
    have e0:(l==0)=false:=zL
    have e1:decide (l=0)=false:=zL
    have e2:wrap64 (l-1)=l-1:=yU
    have e3:wrap64 (ds+1)=ds+1:=yU
    have W1:(QD d cp vs steps).set 3 (.int .i64 (l-1))=QD {d with steps:=d.steps} cp vs (steps-1):=by
      unfold QD
      rw[List.set_append_left _ _ zC]
      have:l-1=steps-1-d.steps:=om
      rw[this]
      rfl
    have H1:R8 rp cp hb po vm 40 165 170 (w.setCell ⟨rp,3,none⟩ (.int .i64 (l-1))) d vs (steps-1) fr tw:=h.setCell2 tyR 3 om _ W1 rfl rfl rfl rfl h.wf
    have W2:(QD d cp vs (steps-1)).set 4 (.int .i64 (ds+1))=QD {d with steps:=d.steps+1} cp vs steps:=by
      unfold QD
      rw[List.set_append_left _ _ zC]
      have:steps-1-d.steps=steps-(d.steps+1):=om
      rw[this,hds']
      rfl
    have H2:R8 rp cp hb po vm 40 165 170 ((w.setCell ⟨rp,3,none⟩ (.int .i64 (l-1))).setCell ⟨rp,4,none⟩ (.int .i64 (ds+1))) {d with steps:=d.steps+1} vs steps fr tw:=H1.setCell2 tyR 4 om _ W2 rfl rfl rfl rfl {h.wf with steps:=(show -9223372036854775808≤d.steps+1∧d.steps+1≤9223372036854775807 by omega)}
    have H3:=lI (H2.setCell (d':={d with steps:=d.steps+1,here:=n}) tyR 10 om (.int .u32 n) (r8_setEnd (d:={d with steps:=d.steps+1}) (j:=0) h.wf.tlen rfl rfl rfl rfl rfl) rfl rfl rfl rfl {H2.wf with here:=hn})
    have HG:Hid (G8 rp 40 cp hb po vm w (((w.setCell ⟨rp,3,none⟩ (.int .i64 (l-1))).setCell ⟨rp,4,none⟩ (.int .i64 (ds+1))).setCell ⟨rp,10,none⟩ (.int .u32 n))):=lI (((G8.set h.lts _ _).trans (G8.set h.lts _ _)).trans (G8.set h.lts _ _))
    obtain⟨d',hd'⟩:∃d':RunD,d'={d with steps:=d.steps+1,here:=n}:=⟨_,rfl⟩
    have hdo:d'.over=false:=by rw[hd'];exact hov
    rw[←hd']at H3 ⊢
    clear h h1 h1' h2 h3 hl hds' W1 W2 H1 H2 hd'
    go_enter Tryz.func146,Tryz.ntmps146
    go_wp2_with fail
    go_ret
    refine⟨_,rfl, ?_,H3.out,HG.out⟩
    rw[hdo]
    rfl
end
end Go.Proofs.YtlfnddmncbkjaabGreatDoor.W
