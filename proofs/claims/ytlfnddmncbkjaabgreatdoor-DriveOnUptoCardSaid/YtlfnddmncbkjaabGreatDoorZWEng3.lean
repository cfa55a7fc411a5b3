import Derived.Test.YtlfnddmncbkjaabGreatDoorZGV
set_option linter.unusedVariables false
set_option linter.unusedSimpArgs false
set_option maxRecDepth 100000
set_option maxHeartbeats 4000000
namespace Go.Proofs.YtlfnddmncbkjaabGreatDoor.W
open Go.RowKit Fb
theorem efind_no{A:Nat→Prop}{ep mp bp:Nat}{w:World}{room pu st:Int}{v:Value}{zs:List BlkD}{n:Nat}(hA:∀q,A q→ep<q)(hN:∀q,w.heap.size≤q→A q)(vm:Value)(mem:List Int)(hB:EnB A 84 62 91 ep mp bp w room pu st v zs)(hC:EnC A Tryz.prog 40 211 ep mp w zs n)(htot:(zs.length:Int)+pu+st=n∧0≤pu∧0≤st)(hok:jU mem room zs)(pc:Int)(hpc:U32 pc)(hlt:¬Qo zs pc<zs.length)
    (hvm:w.cell? ⟨bp,0,none⟩=some vm) (hbp:bp<ep) (hm:Ints .u8 w vm mem) (hby:jC mem) (hml:mem.length≤4096) (hn:n≤1000000):
    Calls Tryz.prog 51 #[.pointer (some ⟨ep,0,none⟩),.int .u32 pc] w fun e w'=>FindPost A Tryz.prog 40 84 62 91 211 ep mp bp w room st mem pc n e w':=by
  have hep:=hB.lt
  have HA:=lI hA
  have HN:=lI hN
  clear hA hN
  obtain⟨hk0,hno⟩:=placeI_none hlt
  obtain⟨av,cv,rfl,hcv,hmv,-,-⟩:=hB.blks.1.open (fun _ _=>rfl) om
  obtain⟨am,cm,rfl,-⟩:=hm.open
  unfold maxLen at hmv
  obtain⟨w1,hw1⟩:∃w1,w1=(w.alloc (.cells #[.int .u32 pc] 40)).alloc (.cells #[.int .u32 0,.slice none 0 0] 62):=⟨_,rfl⟩
  have hb1:Below w.heap.size w w1:=zI
  have hs1:w1.heap.size=w.heap.size+2:=zO
  have hp1:w1.cell? ⟨w.heap.size,0,none⟩=some (.int .u32 pc):=zA
  have hZ:w1.heap[w.heap.size+1]? =some (.cells #[.int .u32 0,.slice none 0 0] 62 (0,0)):=by
    have:=sP (w.alloc (.cells #[.int .u32 pc] 40)) (.cells #[.int .u32 0,.slice none 0 0] 62)
    rw[World.size_alloc]at this
    rw[hw1];exact this
  have B1:=hB.below hb1
  have e2:=B1.at_.get (j:=2) rfl
  simp only[sM]at e2
  have HIX:=lI (eindexOf_any (.slice av zs.length cv) zs pc w.heap.size w1 B1.blks hp1)
  rw[hk0]at HIX
  have HMK:=lI (fun W hW=>make_own (.slice am mem.length cm) mem pc W hW hpc (hby.getD) om)
  rw[make_pc hml pc]at HMK
  have hkm:(QS mem pc).2≠[]→Kept mem pc (QS mem pc).2:=kept_make hml hpc
  have hi32:=fun i hi=>(makeS_is mem pc i hi).2
  obtain⟨l,hl⟩:∃l,l=(QS mem pc).2:=⟨_,rfl⟩
  have HL:=lI hl
  rw[←hl]at HMK hkm hi32
  have HB1:=lI B1
  have HC1:=lI (hC.below hb1)
  have HBW1:=lI hb1
  have HW1:=lI hw1
  have HZ:=lI hZ
  have HPC:=lI hpc
  have HM1:=lI (hm.below hb1)
  have HVM1:=(hb1.cell (p:=⟨bp,0,none⟩) (qD hvm)).trans hvm
  have HOK:=lI hok
  have HTOT:=lI htot
  have HNO:=lI hno
  have HKM:=lI hkm
  have HI32:=lI hi32
  have HPI:=lI hk0
  have HUS:=lI (fun x hx=>(hB.blks.2 x hx).pc)
  clear hB hC hb1 hw1 hZ hlt hk0 hpc B1 hm hok htot hno hkm hi32 hl hby hvm
  go_enter Tryz.func51,Tryz.ntmps51
  go_upto_region 1 with(fail)
  rw[←HW1.out]
  go_wp2_with fail
  refine HIX.out.mono ?_
  rintro e w2 ⟨rfl,hb2⟩
  have hs2:=hb2.size
  have B2:=HB1.out.below hb2
  have e0:=B2.at_.get (j:=0) rfl
  simp only[sM]at e0
  have p2:=(hb2.cell (p:=⟨w.heap.size,0,none⟩) (show w.heap.size<w1.heap.size by omega)).trans hp1
  have v2:=(hb2.cell (p:=⟨bp,0,none⟩) (qD HVM1)).trans HVM1
  have HZ2:=lI ((hb2.block (w.heap.size+1) om).trans HZ.out)
  have HB2:=lI B2
  have HC2:=lI (HC1.out.below hb2)
  have HM2:=lI (HM1.out.below hb2)
  have HBW2:Hid (Below w.heap.size w w2):=lI (HBW1.out.trans (hb2.mono om))
  have HE0:Hid (∀W,Below w2.heap.size w2 W→W.cell? ⟨ep,0,none⟩=some (.pointer (some ⟨bp,0,none⟩))∧W.cell? ⟨bp,0,none⟩=some (.slice am mem.length cm)∧W.cell? ⟨w.heap.size,0,none⟩=some (.int .u32 pc)):=lI (fun W hW=>⟨(hW.cell (p:=⟨ep,0,none⟩) (qD e0)).trans e0,(hW.cell (p:=⟨bp,0,none⟩) (qD v2)).trans v2,(hW.cell (p:=⟨w.heap.size,0,none⟩) (qD p2)).trans p2⟩)
  clear B2 hb2 HM1 HC1 HB1 HBW1 HIX HVM1 hp1
  go_wp2_with fail
  go_cut [7]from 32 to 42 (fun t7 wx=>∃(pb:Nat) (ai:Option Addr) (ci:Nat),t7=.pointer (some ⟨pb,0,none⟩)∧w2.heap.size≤pb∧Hid (Below w2.heap.size w2 wx∧jS wx (.slice ai l.length ci) l∧At wx pb 0 [.int .u32 pc,.slice ai l.length ci]∧∀g,(Value.slice ai l.length ci).ownBlock=some g→w2.heap.size≤g))
  case first=>
    have hbd:Below w2.heap.size w2 w2.drew:=Below.drew br
    clear e0 p2 v2 e2
    refine wp_region_held_drew (S:=fun W=>W.cell? ⟨ep,0,none⟩=some (.pointer (some ⟨bp,0,none⟩))∧W.cell? ⟨bp,0,none⟩=some (.slice am mem.length cm)∧W.cell? ⟨w.heap.size,0,none⟩=some (.int .u32 pc)) kr (HE0.out _ hbd) (fun hHeld=> ?_)
    refine tak 0 (.pointer (some ⟨ep,0,none⟩)) ?_
    try simp only[sA,sB,sC,Act.put,sD,sE,sG]
    refine tak 1 (.pointer (some ⟨ep,0,none⟩)) ?_
    try simp only[sA,sB,sC,Act.put,sD,sE,sG]
    refine tak 2 (.pointer (some ⟨ep,0,none⟩)) ?_
    try simp only[sA,sB,sC,Act.put,sD,sE,sG]
    refine tak 3 (.pointer (some ⟨bp,0,none⟩)) ?_
    try simp only[sA,sB,sC,Act.put,sD,sE,sG]
    refine tak 4 (.pointer (some ⟨bp,0,none⟩)) ?_
    try simp only[sA,sB,sC,Act.put,sD,sE,sG]
    refine tak 5 (.pointer (some ⟨bp,0,none⟩)) ?_
    try simp only[sA,sB,sC,Act.put,sD,sE,sG]
    refine tak 6 (.pointer (some ⟨bp,0,none⟩)) ?_
    try simp only[sA,sB,sC,Act.put,sD,sE,sG]
    refine tak 7 (.pointer (some ⟨bp,0,none⟩)) ?_
    try simp only[sA,sB,sC,Act.put,sD,sE,sG]
    refine tak 8 (.slice am mem.length cm) ?_
    try simp only[sA,sB,sC,Act.put,sD,sE,sG]
    refine tak 9 (.int .u32 pc) ?_
    try simp only[sA,sB,sC,Act.put,sD,sE,sG]
    refine wpAnyH_ready (rs:=[10,11]) kr zC ?_
    refine sS rfl (fun K hK=> ?_) (sS rfl (fun K hK=> ?_) AllReadyH.nil)
    · go_simp
      refine(HMK.out _ (HM2.out.below hbd)).mono ?_
      rintro e w7 ⟨⟨vi,rfl,hbl,hfr⟩,hb7⟩
      obtain⟨ai,ci,rfl,-⟩:=hbl.open (fun _ _=>rfl) om
      have hB7:Below w2.heap.size w2 w7:=hbd.trans hb7
      have hs7:=hB7.size
      refine hK.out _ _ (HE0.out _ hB7) (fun hHeld2=> ?_)
      clear hK K
      refine wpAnyH_ready (rs:=[11]) kr zC ?_
      refine sS rfl (fun K hK=> ?_) AllReadyH.nil
      go_simp
      obtain⟨w8,hw8⟩:∃w8,w8=w7.alloc (.cells #[.int .u32 0,.slice none 0 0] 62):=⟨_,rfl⟩
      have hz8:w8.heap[w7.heap.size]? =some (.cells #[.int .u32 0,.slice none 0 0] 62 (0,0)):=by rw[hw8];exact sP _ _
      have hb78:Below w7.heap.size w7 w8:=xF
      have hB8:=hB7.trans (hb78.mono hs7)
      rw[←hw8]
      clear hw8
      refine hK.out _ _ (HE0.out _ hB8) (fun hHeld3=> ?_)
      clear hK K
      refine wpAnyH_ready (rs:=[12]) kr zC ?_
      refine sS rfl (fun K hK=> ?_) AllReadyH.nil
      have hth:w8.there w7.heap.size 0 2:=qt hz8 rfl
      try rw[if_pos zK]
      refine wp_store_mid 62 _ _ rfl w7.heap.size 0 #[.int .u32 pc,.slice ai l.length ci] rfl rfl hth yQ zT ?_
      simp only[Act.put,sD,sE,sG]
      have hB9:=qL (b:=w7.heap.size) om (#[.int .u32 pc,.slice ai l.length ci]:Array Value).toList 0 _ hB8
      have hbl9:jS (w8.setCells w7.heap.size 0 (#[.int .u32 pc,.slice ai l.length ci]:Array Value).toList) (.slice ai l.length ci) l:=UI (Sl.below hbl hb78) hz8 zF _ _
      have hat9:At (w8.setCells w7.heap.size 0 (#[.int .u32 pc,.slice ai l.length ci]:Array Value).toList) w7.heap.size 0 [.int .u32 pc,.slice ai l.length ci]:=qv hth
      refine hK.out _ _ (HE0.out _ hB9) (fun hHeld4=> ?_)
      clear hK K
      refine wpAnyH_done kr ?_ _
      go_wp2_with fail
      go_meet
      case rel=>exact⟨w7.heap.size,ai,ci,rfl,om,lI ⟨hB9,hbl9,hat9,fun g hg=>hfr g hg⟩⟩
    · go_simp
      obtain⟨w8,hw8⟩:∃w8,w8=(w2.alloc (.cells #[.int .u32 0,.slice none 0 0] 62)).drew:=⟨_,rfl⟩
      have hz8:w8.heap[w2.heap.size]? =some (.cells #[.int .u32 0,.slice none 0 0] 62 (0,0)):=by rw[hw8];exact sP w2 _
      have hB8:Below w2.heap.size w2 w8:=by rw[hw8];exact Below.drew (Below.alloc br (sN _) _)
      have hs8:w2.heap.size<w8.heap.size:=by rw[hw8];show _<(World.alloc _ _).heap.size;simp
      rw[←hw8]
      clear hw8
      refine hK.out _ _ (HE0.out _ hB8) (fun hHeld2=> ?_)
      clear hK K
      refine wpAnyH_ready (rs:=[10]) kr zC ?_
      refine sS rfl (fun K hK=> ?_) AllReadyH.nil
      go_simp
      refine(HMK.out _ (HM2.out.below hB8)).mono ?_
      rintro e w7 ⟨⟨vi,rfl,hbl,hfr⟩,hb7⟩
      obtain⟨ai,ci,rfl,-⟩:=hbl.open (fun _ _=>rfl) om
      have hB7:Below w2.heap.size w2 w7:=hB8.trans (hb7.mono hB8.size)
      have hz7:=(hb7.block w2.heap.size hs8).trans hz8
      refine hK.out _ _ (HE0.out _ hB7) (fun hHeld3=> ?_)
      clear hK K
      refine wpAnyH_ready (rs:=[12]) kr zC ?_
      refine sS rfl (fun K hK=> ?_) AllReadyH.nil
      have hth:w7.there w2.heap.size 0 2:=qt hz7 rfl
      try rw[if_pos zK]
      refine wp_store_mid 62 _ _ rfl w2.heap.size 0 #[.int .u32 pc,.slice ai l.length ci] rfl rfl hth yQ zT ?_
      simp only[Act.put,sD,sE,sG]
      have hB9:=qL (b:=w2.heap.size) om (#[.int .u32 pc,.slice ai l.length ci]:Array Value).toList 0 _ hB7
      have hbl9:jS (w7.setCells w2.heap.size 0 (#[.int .u32 pc,.slice ai l.length ci]:Array Value).toList) (.slice ai l.length ci) l:=UI hbl hz7 zF _ _
      have hat9:At (w7.setCells w2.heap.size 0 (#[.int .u32 pc,.slice ai l.length ci]:Array Value).toList) w2.heap.size 0 [.int .u32 pc,.slice ai l.length ci]:=qv hth
      refine hK.out _ _ (HE0.out _ hB9) (fun hHeld4=> ?_)
      clear hK K
      refine wpAnyH_done kr ?_ _
      go_wp2_with fail
      go_meet
      case rel=>exact⟨w2.heap.size,ai,ci,rfl,om,lI ⟨hB9,hbl9,hat9,fun g hg=>by have:=hfr g hg;omega⟩⟩
  case rest=>
    obtain⟨pb,ai,ci,rfl,hpb,HC⟩:=hcut
    have Bc:=HB2.out.below HC.out.1
    have Cc:=HC2.out.below HC.out.1
    have q0:=HC.out.2.2.1.get (j:=0) rfl
    have q1:=HC.out.2.2.1.get (j:=1) rfl
    simp only[sM]at q0 q1
    have hsc:=HC.out.1.size
    have hzc:=(HC.out.1.block (w.heap.size+1) om).trans HZ2.out
    have hBWc:Below w.heap.size w wc:=HBW2.out.trans (HC.out.1.mono om)
    have pc0:=(HE0.out wc HC.out.1).2.2
    by_cases hl:l=[]
    · subst hl
      have z0:wc.cell? ⟨w.heap.size+1,0,none⟩=some (.int .u32 0):=by simp[World.cell?,hzc]
      have z1:wc.cell? ⟨w.heap.size+1,1,none⟩=some (.slice none 0 0):=by simp[World.cell?,hzc]
      have f0:wc.frozen? ⟨w.heap.size+1,0,none⟩=false:=by simp[World.frozen?,hzc]
      have f1:wc.frozen? ⟨w.heap.size+1,1,none⟩=false:=by simp[World.frozen?,hzc]
      have ht2:wc.there (w.heap.size+1) 0 2:=qt hzc rfl
      have HBL:=lI HC.out.2.1
      have HBWC:=lI hBWc
      clear Bc Cc HC hzc hBWc
      simp only[List.length_nil]at q1 HBL
      go_wp2_with fail
      have hsz:(Tryz.prog.info? 62).map (·.size)=some (#[.int .u32 pc,.slice ai 0 ci]:Array Value).size:=yQ
      have hld:=QQ (P:=Tryz.prog) (w:=wc) (cs:=#[.int .u32 pc,.slice ai 0 ci]) ht2 Tryz.underlying62 rfl hsz
      have hb9:Below w.heap.size w (wc.setCells (w.heap.size+1) 0 [.int .u32 pc,.slice ai 0 ci]):=qL om _ _ _ HBWC.out
      refine sO (QI zK _ zK hld) rfl (show FindPost _ _ _ _ _ _ _ _ _ _ _ _ _ _ _ _ _ _ from⟨.slice ai 0 ci,.slice none 0 0,[],rfl, ?_,Fr.of_below hb9 (fun j h1 h2=>om),.inl ⟨rfl,HL.out.symm,hb9⟩⟩)
      exact sl_block' HBL.out (fun h=>absurd rfl h)
    · have hl0:0<l.length:=List.length_pos_iff.2 hl
      have k1:¬(l.length:Int)=0:=om
      have K:=HKM.out hl
      have HTM:=lI (tmake_own (.slice ai l.length ci) l pc wc HC.out.2.1 HI32.out)
      have HBc:=lI Bc
      have HCc:=lI Cc
      have HBWC:=lI hBWc
      have HZC:=lI hzc
      have HKP:=lI K
      have hpbc:pb<wc.heap.size:=qD q0
      clear Bc Cc hzc hBWc K hl e0 p2 v2
      go_wp2_with fail
      refine HTM.out.mono ?_
      rintro e w3 ⟨⟨vc,rfl,hsl3,hty3⟩,hb3⟩
      obtain⟨ac,cc,rfl,-⟩:=hsl3.open (fun _ _=>rfl) om
      have hs3:=hb3.size
      have B3:=HBc.out.below hb3
      have e1:=B3.at_.get (j:=1) rfl
      have e2:=B3.at_.get (j:=2) rfl
      have e3:=B3.at_.get (j:=3) rfl
      have e4:=B3.at_.get (j:=4) rfl
      simp only[sM]at e1 e2 e3 e4
      have r0:=(hb3.cell (p:=⟨pb,0,none⟩) hpbc).trans q0
      have r1:=(hb3.cell (p:=⟨pb,1,none⟩) hpbc).trans q1
      have r2:=(hb3.cell (p:=⟨w.heap.size,0,none⟩) (qD pc0)).trans pc0
      have HBL3:=lI (Sl.below HC.out.2.1 hb3)
      have HBLT:Hid (l.flatMap jJ≠[]→∀g,(Value.slice ai l.length ci).ownBlock=some g→g<w3.heap.size∧ep<g):=lI (fun hne g hg=>by
        have h1:=HC.out.2.2.2 g hg
        obtain⟨ao,cp,e1,-,-,-,ho⟩:=HBL3.out.open (fun _ _=>rfl) om
        obtain⟨b,off,e2,h2,-⟩:=ho (by intro e;rw[e]at hne;exact hne rfl)
        injection e1 with e3
        rw[e3,e2]at hg
        have e4:b=g:=by cases hg;rfl
        omega)
      have HSL3:=lI hsl3
      have HTY3:=lI hty3
      have HB3:=lI B3
      have HC3:=lI (HCc.out.below hb3)
      have HBW3:=lI (HBWC.out.trans (hb3.mono om))
      have HZ3:=lI ((hb3.block (w.heap.size+1) om).trans HZC.out)
      have HPU:=lI (cput_far room (.slice av zs.length cv) pu st zs ⟨pc,.slice ai l.length ci,l⟩ w3.drew (B3.below (Below.drew br)).blks ⟨HBL3.out,HPC.out⟩ (by show 1≤l.length;omega) (by show l.length≤16;exact HKP.out.len) (fun x hx=>by have:=HOK.out.ins x hx;omega) (by have:=HOK.out.len;have:=HOK.out.room1;omega))
      have HB1C:Hid (∀W,Below w3.heap.size w3 W→W.cell? ⟨pb,0,none⟩=some (.int .u32 pc)∧W.cell? ⟨pb,1,none⟩=some (.slice ai l.length ci)):=lI (fun W hW=>⟨(hW.cell (p:=⟨pb,0,none⟩) (qD r0)).trans r0,(hW.cell (p:=⟨pb,1,none⟩) (qD r1)).trans r1⟩)
      clear hsl3 hty3 B3 hb3 HC q0 q1 pc0 HTM HBc HCc HBWC HZC HMK
      go_wp2_with fail
      have hbd:Below w3.heap.size w3 w3.drew:=Below.drew br
      refine wp_region_held_drew (S:=fun W=>W.cell? ⟨pb,0,none⟩=some (.int .u32 pc)∧W.cell? ⟨pb,1,none⟩=some (.slice ai l.length ci)) kr (HB1C.out _ hbd) (fun hHeld=> ?_)
      refine tak 0 (.pointer (some ⟨ep,0,none⟩)) ?_
      try simp only[sA,sB,sC,Act.put,sD,sE,sG]
      refine tak 1 (.pointer (some ⟨ep,0,none⟩)) ?_
      try simp only[sA,sB,sC,Act.put,sD,sE,sG]
      refine tak 2 (.pointer (some ⟨ep,0,none⟩)) ?_
      try simp only[sA,sB,sC,Act.put,sD,sE,sG]
      refine tak 3 (.pointer (some ⟨ep,1,none⟩)) ?_
      try simp only[sA,sB,sC,Act.put,sD,sE,sG]
      refine tak 5 (.agg #[.int .u32 pc,.slice ai l.length ci]) ?_
      try simp only[sA,sB,sC,Act.put,sD,sE,sG]
      refine wpAnyH_ready (rs:=[4]) kr zC ?_
      refine sS rfl (fun K hK=> ?_) AllReadyH.nil
      go_simp
      refine hK.out _ _ (HB1C.out _ hbd) (fun hHeld2=> ?_)
      clear hK K
      refine wpAnyH_ready (rs:=[6]) kr zC ?_
      refine sS rfl (fun K hK=> ?_) AllReadyH.nil
      go_simp
      refine HPU.out.mono ?_
      rintro e w4 ⟨⟨v4,zs4,rfl,hbl4,habs4,hfar4,htyp4⟩,hb4⟩
      obtain⟨a4,c4,rfl,-⟩:=hbl4.1.open (fun _ _=>rfl) om
      obtain⟨pn,hpn⟩:∃pn,pn=putP room pu zs ⟨pc,.slice ai l.length ci,l⟩:=⟨_,rfl⟩
      rw[←hpn]
      have HPN:=lI hpn
      clear hpn
      refine hK.out _ _ (HB1C.out _ (hbd.trans hb4)) (fun hHeld3=> ?_)
      clear hK K
      refine tak 7 (.tuple #[.agg #[.int .i64 room,.slice a4 zs4.length c4,.int .i64 pn,.int .i64 st],.int .i64 0]) ?_
      try simp only[sA,sB,sC,Act.put,sD,sE,sG]
      refine tak 8 (.agg #[.int .i64 room,.slice a4 zs4.length c4,.int .i64 pn,.int .i64 st]) ?_
      try simp only[sA,sB,sC,Act.put,sD,sE,sG]
      refine tak 9 (.int .i64 0) ?_
      try simp only[sA,sB,sC,Act.put,sD,sE,sG]
      refine tak 10 (.pointer (some ⟨ep,0,none⟩)) ?_
      try simp only[sA,sB,sC,Act.put,sD,sE,sG]
      refine tak 11 (.pointer (some ⟨ep,1,none⟩)) ?_
      try simp only[sA,sB,sC,Act.put,sD,sE,sG]
      refine wpAnyH_ready (rs:=[12]) kr zC ?_
      refine sS rfl (fun K hK=> ?_) AllReadyH.nil
      have hb34:Below w3.heap.size w3 w4:=hbd.trans hb4
      have hs4:=hb34.size
      have B4:=HB3.out.below hb34
      have hth:=B4.there
      rw[if_pos zK]
      refine wp_store_mid 53 _ _ rfl ep 1 #[.int .i64 room,.slice a4 zs4.length c4,.int .i64 pn,.int .i64 st] rfl rfl hth yD zT ?_
      simp only[Act.put,sD,sE,sG]
      obtain⟨w5,hw5⟩:∃w5,w5=w4.setCells ep 1 (#[.int .i64 room,.slice a4 zs4.length c4,.int .i64 pn,.int .i64 st]:Array Value).toList:=⟨_,rfl⟩
      have hepw:ep<w2.heap.size:=om
      have B5:EnB A 84 62 91 ep mp bp w5 room pn st (.slice a4 zs4.length c4) zs4:=by rw[hw5];exact B4.store HA.out hbl4 (hfar4.toA (fun q h=>HN.out q (by have h':w3.heap.size≤q:=h;omega))) htyp4
      have F45:Fr (fun j=>j=ep) w4 w5:=by rw[hw5];exact Fr.setCells (S:=fun j=>j=ep) (Fr.refl _ _) ep rfl _ _
      have C4:=HC3.out.below hb34
      have hmp:=C4.1
      have C5:EnC A Tryz.prog 40 211 ep mp w5 zs n:=C4.keep (TB:=62) (TI:=91) HA.out (fun k hk h=>F45.block k hk om)
      have r0':=(hb34.cell (p:=⟨pb,0,none⟩) (qD r0)).trans r0
      have r1':=(hb34.cell (p:=⟨pb,1,none⟩) (qD r1)).trans r1
      have r2':=(hb34.cell (p:=⟨w.heap.size,0,none⟩) (qD r2)).trans r2
      have eb5:=F45.block pb (qD r0') (by show pb≠ep;omega)
      have ew5:=F45.block w.heap.size (qD r2') (by show w.heap.size≠ep;omega)
      have g0:=(qA eb5 0).trans r0'
      have g1:=(qA eb5 1).trans r1'
      have g2:=(qA ew5 0).trans r2'
      have e5:=B5.at_.get (j:=5) rfl
      simp only[sM]at e5
      have hq5:∀q,(Value.slice ac (mkM pc l).length cc).ownBlock=some q→A q∧∃cs f,w5.drew.heap[q]? =some (.cells cs 211 f):=fun q hq=>by
        obtain⟨h1,h2,cs,f,h3⟩:=HTY3.out q hq
        exact⟨HN.out q om,cs,f,(F45.block q om (by show q≠ep;omega)).trans ((hb34.block q h2).trans h3)⟩
      have hsl5:Sl w5.drew (.slice ac (mkM pc l).length cc) 5 (mkM pc l).length ((mkM pc l).flatMap jo):=QX HSL3.out (fun q hq=>by
        obtain⟨h1,h2,cs,f,h3⟩:=HTY3.out q hq
        exact(F45.block q om (by show q≠ep;omega)).trans (hb34.block q h2))
      obtain⟨w6,hmu,C6,F6⟩:=(C5.below (Below.drew br)).put (T:=82) (E:=118) HA.out rfl rfl zZ (y:=⟨pc,.slice ai l.length ci,l⟩) HPC.out hsl5 hq5 (put_code HPC.out HUS.out HNO.out habs4)
      rw[←hw5]
      refine hK.out _ _ ⟨g0,g1⟩ (fun hHeld4=> ?_)
      clear hK K
      refine wpAnyH_done kr ?_ _
      clear hHeld hHeld2 hHeld3 hHeld4
      have B6:EnB A 84 62 91 ep mp bp w6 room pn st (.slice a4 zs4.length c4) zs4:=(B5.below (Below.drew br)).keep (TM:=211) HA.out (fun k hk h=>F6.block k hk (by show k≠mp;omega))
      have F36:Fr (fun j=>j=ep∨j=mp) w3 w6:=Fr.trans (S':=fun j=>j=mp) (Fr.drew (Fr.trans (S':=fun j=>j=ep) (Fr.of_below hb34 (fun j h1 h2=>om)) F45 (fun j _ h=>.inl h))) F6 (fun j _ h=>.inr h)
      have hs36:=F36.size
      have t0:=(qA (F36.block pb (qD r0) (by show ¬(pb=ep∨pb=mp);omega)) 0).trans r0
      have t1:=(qA (F36.block pb (qD r1) (by show ¬(pb=ep∨pb=mp);omega)) 1).trans r1
      have hz6:=(F36.block (w.heap.size+1) om (by show ¬(w.heap.size+1=ep∨w.heap.size+1=mp);omega)).trans HZ3.out
      have z0:w6.cell? ⟨w.heap.size+1,0,none⟩=some (.int .u32 0):=by simp[World.cell?,hz6]
      have z1:w6.cell? ⟨w.heap.size+1,1,none⟩=some (.slice none 0 0):=by simp[World.cell?,hz6]
      have f0:w6.frozen? ⟨w.heap.size+1,0,none⟩=false:=by simp[World.frozen?,hz6]
      have f1:w6.frozen? ⟨w.heap.size+1,1,none⟩=false:=by simp[World.frozen?,hz6]
      have HT6:=lI (qt hz6 (show(#[.int .u32 0,.slice none 0 0]:Array Value).size=2 from rfl))
      have HB6:=lI B6
      have HC6:=lI C6
      have HF36:=lI F36
      have HMP:=lI hmp
      have HABS:=lI habs4
      have HFAR4:Hid (∀g,(Value.slice a4 zs4.length c4).ownBlock=some g→w3.heap.size≤g):=lI hfar4.1
      have HZ6:=lI hz6
      have HBL6:Hid (jS w6 (.slice ai l.length ci) l):=lI (sl_block' HBL3.out (fun hne g hg=>F36.block g (HBLT.out hne g hg).1 (by have:=(HBLT.out hne g hg).2;show ¬(g=ep∨g=mp);omega)))
      clear hz6 B6 C6 F36 B5 B4 C4 C5 F45 F6 hb34 hb4 hbl4 hfar4 htyp4 hq5 hsl5 hth eb5 ew5 habs4 r0' r1' r2' hw5 hbd hmp
      go_wp2_with fail
      go_region
      go_wp2_with fail
      have hsz:(Tryz.prog.info? 62).map (·.size)=some (#[.int .u32 pc,.slice ai l.length ci]:Array Value).size:=yQ
      have hld:=QQ (P:=Tryz.prog) (w:=w6) (cs:=#[.int .u32 pc,.slice ai l.length ci]) HT6.out Tryz.underlying62 rfl hsz
      obtain⟨w7,hw7⟩:∃w7,w7=w6.setCells (w.heap.size+1) 0 (#[.int .u32 pc,.slice ai l.length ci]:Array Value).toList:=⟨_,rfl⟩
      have F67:Fr (fun j=>j=w.heap.size+1) w6 w7:=by rw[hw7];exact Fr.setCells (S:=fun j=>j=w.heap.size+1) (Fr.refl _ _) _ rfl _ _
      have F37:Fr (fun j=>(j=ep∨j=mp)∨j=w.heap.size+1) w3 w7:=Fr.trans (S':=fun j=>j=w.heap.size+1) (HF36.out.mono (fun j _ h=>.inl h)) F67 (fun j _ h=>.inr h)
      have B7:EnB A 84 62 91 ep mp bp w7 room pn st (.slice a4 zs4.length c4) zs4:=HB6.out.keep0 (F67.block ep HB6.out.lt (by show ep≠_;omega)) (fun g hg=>by
          obtain⟨cs,f,e⟩:=HB6.out.typ.1 g hg
          have:=HFAR4.out g hg
          exact F67.block g (qR e) (by show g≠_;omega)) (fun x hx g hg=>by
          obtain⟨cs,f,e⟩:=HB6.out.typ.2 x hx g hg
          exact F67.block g (qR e) (fun e2=>by rw[show g=w.heap.size+1 from e2,HZ6.out]at e;cases e))
      have C7:EnC A Tryz.prog 40 211 ep mp w7 zs4 (n+1):=HC6.out.keep (TB:=211) (TI:=211) HA.out (fun k hk h=>F67.block k hk (fun e2=>by
        have e3:k=w.heap.size+1:=e2
        rcases h with h|⟨h,-,cs,f,h2|h2|h2⟩
        · have:=HMP.out;omega
        all_goals(rw[e3,HZ6.out]at h2;cases h2)))
      have hbl7:jS w7 (.slice ai l.length ci) l:=by
        have h6:jS w6 (.slice ai l.length ci) l:=HBL6.out
        rw[hw7]
        exact UI h6 HZ6.out zF _ _
      have hq7:∀q,(Value.slice ac (mkM pc l).length cc).ownBlock=some q→w7.heap[q]? =w3.heap[q]? :=fun q hq=>by
        obtain⟨h1,h2,cs,f,h3⟩:=HTY3.out q hq
        exact F37.block q h2 (by show ¬((q=ep∨q=mp)∨q=w.heap.size+1);have:=HMP.out;omega)
      have hbw:Fr (fun j=>j=ep∨j=mp) w w7:=Fr.mono (Fr.trans (S':=fun j=>(j=ep∨j=mp)∨j=w.heap.size+1) (S:=fun j=>(j=ep∨j=mp)∨w.heap.size≤j) (Fr.of_below HBW3.out (fun j h1 h2=>.inr h1)) F37 (fun j h1 h2=>h2.imp id (fun h=>om))) (fun j h1 h2=>h2.elim id (fun h=>om))
      have htt:=put_tot (y:=⟨pc,.slice ai l.length ci,l⟩) (room:=room) HPI.out HTOT.out hn
      rw[←HPN.out,←len_abs HABS.out]at htt
      refine sO (QI zK _ zK hld) rfl (show FindPost _ _ _ _ _ _ _ _ _ _ _ _ _ _ _ _ _ _ from ?_)
      subst hw7
      exact⟨.slice ai l.length ci,.slice ac (mkM pc l).length cc,l,rfl,hbl7,hbw,.inr ⟨HKP.out,QX HSL3.out (fun q hq=>hq7 q hq),fun q hq=>by
        obtain⟨h1,h2,cs,f,h3⟩:=HTY3.out q hq
        exact⟨HN.out q om,cs,f,(hq7 q hq).trans h3⟩,_,zs4,pn,n+1,B7,C7,htt,(HOK.out.put (y:=⟨pc,.slice ai l.length ci,l⟩) HKP.out).abs HABS.out,om,om,om⟩⟩
end Go.Proofs.YtlfnddmncbkjaabGreatDoor.W
