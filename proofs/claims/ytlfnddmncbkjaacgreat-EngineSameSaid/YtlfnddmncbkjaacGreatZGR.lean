import Derived.Test.YtlfnddmncbkjaacGreatZWEng3
set_option linter.unusedVariables false
set_option linter.unusedSimpArgs false
set_option maxRecDepth 100000
set_option maxHeartbeats 4000000
namespace Go.Proofs.YtlfnddmncbkjaacGreat.W
open Go.RowKit Fb
theorem core_any{bp bh hc:Nat}{vm vo:Value}{s:St}(k:Nat)(w:World)(h:Bd bp bh hc vm vo 43 w s)(hk:k<s.harts.length)(h4:s.harts.length≤4):
    Calls Tryz.prog 23 #[.pointer (some ⟨bp,0,none⟩),.int .i64 k] w fun e w'=>∃n,e=.returned (.pointer (some ⟨w.heap.size,0,none⟩))∧w'=(w.alloc (.cells #[.pointer (some ⟨bh,k*37,none⟩),vm,.slice none 0 0,.int .u32 0,.int .u32 0] 76)).drewN n:=by
  have c0:=h.c0
  have c1:=h.c1
  obtain⟨ao,cap,rfl,_⟩:=h.bytes.open
  have hlt:=h.lt
  have i0:(0:Int)≤(k:Int):=om
  have i1:(k:Int)<(s.harts.length:Int):=om
  have hcp:=h.hcap
  have hcc:=hcp.2
  unfold maxLen at hcc
  go_enter Tryz.func23,Tryz.ntmps23
  go_wp2_with fail
  go_region
  all_goals
    go_wp2_with fail
    go_ret
    first
    |exact⟨_,rfl,rfl⟩
    |exact⟨0,rfl,rfl⟩
    |exact⟨1,rfl,rfl⟩
theorem stored_any{bp bh hc:Nat}(k:Nat)(fr tw:Int)(hs:List Hart)(w:World)(c1:w.cell? ⟨bp,1,none⟩=some (.slice (some ⟨bh,0,none⟩) hs.length hc))(hat:At w bh 0 (hs.flatMap qJ))(hfz:∀o,w.frozen? ⟨bh,o,none⟩=false)(hne:bh≠bp)
    (wf:∀h∈hs,h.Wf) (h4:hs.length≤4) (hcap:hs.length≤hc∧hc≤maxLen) (hfr:U32 fr) (htw:U32 tw):
    Calls Tryz.prog 79 #[.pointer (some ⟨bp,0,none⟩),.int .i64 k,.int .u32 fr,.int .u32 tw] w fun e w'=>e=.returned (.tuple #[])∧At w' bh 0 ((qp k fr tw hs.length hs).flatMap qJ)∧Chg (fun p=>p.block=bh) w w':=by
  obtain⟨hc1,hc2⟩:=hcap
  unfold maxLen at hc2
  have hlt:=qH c1
  have HAT:=lI hat
  have HFZ:=lI hfz
  have HWF:=lI wf
  have HLB:Hid (0<hs.length→bh<w.heap.size):=lI (fun h0=>by
    have:=UT hat (fun x hx=>qO (wf x hx)) h0
    exact qH (this.get (Jk (wf _ (sU h0)))))
  clear hat hfz wf
  go_enter Tryz.func79,Tryz.ntmps79
  go_wp2_with fail
  go_loopw [17] (fun i wr=>∃n:Nat,i=.int .i64 n∧n≤hs.length∧Hid (At wr bh 0 ((qp k fr tw n hs).flatMap qJ)∧Chg (fun p=>p.block=bh) w wr)) (fun i _=>hs.length-(intOf i).toNat)
  case atStart=>exact⟨0,rfl,om,lI ⟨by rw[loseTo_zero];exact HAT.out,Chg.refl _ _⟩⟩
  case round=>
    obtain⟨n,rfl,hn,HR⟩:=hrel
    have c1':=(HR.out.2.cell ⟨bp,1,none⟩ hlt (by show ¬bp=bh;omega)).trans c1
    by_cases hlt2:n<hs.length
    · have hel:=UT HR.out.1 (fun x hx=>qO (JL (P:=Hart.Wf) HWF.out (fun _=>uP) x hx)) (by rw[QO];exact hlt2)
      rw[loseTo_at _ _ _ hlt2]at hel
      have whn:=HWF.out hs[n] (sU hlt2)
      have g33:=hel.get (Jk whn)
      have g34:=hel.get (JX whn)
      have l33:bh<wr.heap.size:=qH g33
      have f33:wr.frozen? ⟨bh,n*37+33,none⟩=false:=(HR.out.2.frozen ⟨bh,n*37+33,none⟩ (HLB.out om)).trans (HFZ.out _)
      have f34:wr.frozen? ⟨bh,n*37+34,none⟩=false:=(HR.out.2.frozen ⟨bh,n*37+34,none⟩ (HLB.out om)).trans (HFZ.out _)
      have i0:(0:Int)≤(n:Int):=om
      have i1:(n:Int)<(hs.length:Int):=om
      have HNX:Hid (∀x,x=lose fr tw hs[n]→n≠k→qp k fr tw (n+1) hs=(qp k fr tw n hs).set n x):=lI (fun x e hk=>by rw[e];exact loseTo_succ fr tw hs hlt2 hk)
      have HSE:Hid (n=k→qp k fr tw (n+1) hs=qp k fr tw n hs):=lI (fun e=>by subst e;exact loseTo_self n fr tw hs)
      have HKP:Hid (lose fr tw hs[n]=hs[n]→qp k fr tw (n+1) hs=qp k fr tw n hs):=lI (fun e=>loseTo_keep fr tw hs hlt2 e)
      have HLO:Hid (lose fr tw hs[n]=if(hs[n].held&&decide (fr<(hs[n].heldAt+4)%4294967296)&&decide (hs[n].heldAt<tw))=true then {hs[n]with held:=false,heldAt:=0} else hs[n]):=lI rfl
      have hha:U32 hs[n].heldAt:=whn.heldAt
      have HEL:=lI hel
      have HWN:=lI whn
      clear hel whn
      obtain⟨x,hx⟩:∃x,x=hs[n]:=⟨_,rfl⟩
      rw[←hx]at g33 g34 HNX HKP HLO hha HEL HWN
      have HX:=lI hx
      clear hx
      obtain⟨ha1,ha2⟩:=hha
      obtain⟨fr1,fr2⟩:=hfr
      obtain⟨tw1,tw2⟩:=htw
      by_cases hnk:(n:Int)=k
      · go_wp2_with fail
        go_roundw
        case rel=>exact⟨n+1,by(first|(simp;done)|(simp;omega)),om,lI ⟨by rw[HSE.out om];exact HR.out.1,HR.out.2⟩⟩
        case measure=>simp[intOf];omega
      cases hheld:x.held with
      | false =>
        rw[hheld]at g33
        go_wp2_with fail
        go_roundw
        case rel=>exact⟨n+1,by simp,om,lI ⟨by rw[HKP.out (by rw[HLO.out,hheld];rfl)];exact HR.out.1,HR.out.2⟩⟩
        case measure=>simp[intOf];omega
      | true =>
        rw[hheld]at g33
        by_cases h1:fr<(x.heldAt+4)%4294967296
        · by_cases h2:x.heldAt<tw
          · go_wp2_with fail
            go_roundw
            case rel=>
              have wx:=HWN.out
              have hxl:(qJ x).length=37:=qO wx
              have a1:=HEL.out.set 33 om (.bool false)
              rw[←Ql wx.len false]at a1
              have wx2:({x with held:=false}:Hart).Wf:=⟨wx.len,wx.regs,wx.pc,wx.heldAt,wx.state,wx.cause⟩
              have a2:=a1.set 34 (by rw[qO wx2];omega) (.int .u32 0)
              rw[←QU (h:=({x with held:=false}:Hart)) wx.len 0]at a2
              have wx3:({x with held:=false,heldAt:=0}:Hart).Wf:=⟨wx.len,wx.regs,wx.pc,(⟨by decide,by decide⟩:U32 0),wx.state,wx.cause⟩
              refine⟨n+1,by simp,om,lI ⟨?_,(HR.out.2.setCell ⟨bh,n*37+33,none⟩ (.bool false) (fun _=>rfl)).setCell ⟨bh,n*37+34,none⟩ (.int .u32 0) (fun _=>rfl)⟩⟩
              rw[HNX.out {x with held:=false,heldAt:=0} (by rw[HLO.out,hheld];simp[h1,h2]) om]
              refine Jd HR.out.1 (fun x hx=>qO (JL (P:=Hart.Wf) HWF.out (fun _=>uP) x hx)) (qO wx3) a2 (fun o ho=> ?_)
              rw[sJ _ _ _ _ zF,sJ _ _ _ _ zF]
            case measure=>simp[intOf];omega
          · go_wp2_with fail
            go_roundw
            case rel=>exact⟨n+1,by simp,om,lI ⟨by rw[HKP.out (by rw[HLO.out,hheld];simp[h2])];exact HR.out.1,HR.out.2⟩⟩
            case measure=>simp[intOf];omega
        · go_wp2_with fail
          go_roundw
          case rel=>exact⟨n+1,by simp,om,lI ⟨by rw[HKP.out (by rw[HLO.out,hheld];simp[h1])];exact HR.out.1,HR.out.2⟩⟩
          case measure=>simp[intOf];omega
    · obtain rfl:n=hs.length:=om
      go_wp2_with fail
      go_end0
      exact⟨rfl,HR.out.1,HR.out.2⟩
end Go.Proofs.YtlfnddmncbkjaacGreat.W
namespace Go.Proofs.YtlfnddmncbkjaacGreat.Fb
open Go.RowKit
theorem stale_all{fr tw:Int}:∀{zs:List BlkD},zs.any (QC fr tw)=false→zs.filter (fun x=> !QC fr tw x)=zs:=fun h=>
  List.filter_eq_self.2 (fun x hx=>by
    rw[List.any_eq_false]at h
    have:=h x hx
    simpa using this)
end Go.Proofs.YtlfnddmncbkjaacGreat.Fb
namespace Go.Proofs.YtlfnddmncbkjaacGreat.W
open Go.RowKit Fb
theorem efind_any{A:Nat→Prop}{ep mp bp:Nat}{w:World}{room pu st:Int}{v:Value}{zs:List BlkD}{n:Nat}(hA:∀q,A q→ep<q)(hN:∀q,w.heap.size≤q→A q)(vm:Value)(mem:List Int)(hB:EnB A 56 65 82 ep mp bp w room pu st v zs)(hC:EnC A Tryz.prog 43 144 ep mp w zs n)(htot:(zs.length:Int)+pu+st=n∧0≤pu∧0≤st)(hok:jk mem room zs)(pc:Int)(hpc:U32 pc)
    (hvm:w.cell? ⟨bp,0,none⟩=some vm) (hbp:bp<ep) (hm:Ints .u8 w vm mem) (hby:QP mem) (hml:mem.length≤4096) (hn:n≤1000000):
    Calls Tryz.prog 24 #[.pointer (some ⟨ep,0,none⟩),.int .u32 pc] w fun e w'=>FindPost A Tryz.prog 43 56 65 82 144 ep mp bp w room st mem pc n e w':=by
  by_cases hlt:jC zs pc<zs.length
  · refine(efind_yes hA hN hB hC pc hpc hlt).mono ?_
    rintro e w' ⟨⟨vi,vc,l,hmem,rfl,h1,h2,h3⟩,hb⟩
    have h0:0<zs.length:=List.length_pos_of_mem hmem
    exact⟨vi,vc,l,rfl,h1,Fr.of_below hb (fun j h4 h5=>om),.inr ⟨hok.kept _ hmem,h2,h3,v,zs,pu,n,hB.below hb,hC.below hb,htot,hok,sO _,om,om⟩⟩
  · exact efind_no hA hN vm mem hB hC htot hok pc hpc hlt hvm hbp hm hby hml hn
theorem estored_any{A:Nat→Prop}{ep mp bp bh hc:Nat}{w:World}{room pu st:Int}{v:Value}{zs:List BlkD}{n:Nat}(hA:∀q,A q→ep<q)(hN:∀q,w.heap.size≤q→A q)(hB:EnB A 56 65 82 ep mp bp w room pu st v zs)(hC:EnC A Tryz.prog 43 144 ep mp w zs n)(htot:(zs.length:Int)+pu+st=n∧0≤pu∧0≤st)(hins:∀x∈zs,x.ins.length≤16)(hzl:zs.length≤64)(hn:n≤1000000)
    (k:Nat) (fr tw:Int) (hs:List Hart) (hbp:bp<ep) (hbh:bh<bp) (hne:mp≠bh) (c1:w.cell? ⟨bp,1,none⟩=some (.slice (some ⟨bh,0,none⟩) hs.length hc)) (hat:At w bh 0 (hs.flatMap qJ)) (hfz:∀o,w.frozen? ⟨bh,o,none⟩=false)
    (wf:∀h∈hs,h.Wf) (h4:hs.length≤4) (hcap:hs.length≤hc∧hc≤maxLen) (hfr:U32 fr) (htw:U32 tw):
    Calls Tryz.prog 48 #[.pointer (some ⟨ep,0,none⟩),.int .i64 k,.agg #[.int .u32 fr,.int .u32 tw]] w fun e w'=>e=.returned (.tuple #[])∧∃w1,At w1 bh 0 ((qp k fr tw hs.length hs).flatMap qJ)∧Chg (fun p=>p.block=bh) w w1∧Fr (fun j=>j=ep) w1 w'∧
      ∃v' zs' st',EnB A 56 65 82 ep mp bp w' room pu st' v' zs'∧EnC A Tryz.prog 43 144 ep mp w' zs' n∧((zs'.length:Int)+pu+st'=n∧0≤pu∧0≤st')∧zs'.map BlkD.abs=(zs.filter (fun x=> !QC fr tw x)).map BlkD.abs:=by
  have HA:=lI hA
  have HN:=lI hN
  clear hA hN
  have hep:=hB.lt
  have hbhl:bh<w.heap.size:=om
  obtain⟨w1,hw1⟩:∃w1,w1=w.alloc (.cells #[.int .u32 fr,.int .u32 tw] 108):=⟨_,rfl⟩
  have hb1:Below w.heap.size w w1:=zK
  have hs1:w1.heap.size=w.heap.size+1:=yD
  have r0:(w1).cell? ⟨w.heap.size,0,none⟩=some (.int .u32 fr):=zA
  have r1:(w1).cell? ⟨w.heap.size,1,none⟩=some (.int .u32 tw):=zA
  have B1:=hB.below hb1
  have e0:=B1.at_.get (j:=0) rfl
  simp only[sM]at e0
  have hbd:Below w1.heap.size w1 w1.drew:=Below.drew br
  have HST:=lI (stored_any k fr tw hs w1.drew ((hb1.cell (p:=⟨bp,1,none⟩) (qH c1)).trans c1) (hat.below (Below.drew hb1)) (fun o=>(hb1.frozen (p:=⟨bh,o,none⟩) hbhl).trans (hfz o)) om wf h4 hcap hfr htw)
  have HB1:=lI B1
  have HC1:=lI (hC.below hb1)
  have HBW1:=lI hb1
  have HW1:=lI hw1
  have HTOT:=lI htot
  have HINS:=lI hins
  have HFR:=lI hfr
  have HTW:=lI htw
  clear hB hC htot hins hb1 hw1 B1 c1 hat hfz wf hcap hfr htw
  go_enter Tryz.func48,Tryz.ntmps48
  go_upto_region 1 with(fail)
  rw[←HW1.out]
  refine wp_region_held_drew (S:=fun W=>W.cell? ⟨ep,0,none⟩=some (.pointer (some ⟨bp,0,none⟩))∧W.cell? ⟨w.heap.size,0,none⟩=some (.int .u32 fr)∧W.cell? ⟨w.heap.size,1,none⟩=some (.int .u32 tw)) kr ⟨e0,r0,r1⟩ (fun hHeld=> ?_)
  refine tak 0 (.pointer (some ⟨ep,0,none⟩)) ?_
  try simp only[sA,sB,sC,Act.put,sD,sE,sG]
  refine tak 1 (.pointer (some ⟨ep,0,none⟩)) ?_
  try simp only[sA,sB,sC,Act.put,sD,sE,sG]
  refine tak 2 (.pointer (some ⟨ep,0,none⟩)) ?_
  try simp only[sA,sB,sC,Act.put,sD,sE,sG]
  refine tak 3 (.pointer (some ⟨bp,0,none⟩)) ?_
  try simp only[sA,sB,sC,Act.put,sD,sE,sG]
  refine tak 4 (.int .i64 k) ?_
  try simp only[sA,sB,sC,Act.put,sD,sE,sG]
  refine tak 5 (.pointer (some ⟨w.heap.size,0,none⟩)) ?_
  try simp only[sA,sB,sC,Act.put,sD,sE,sG]
  refine tak 6 (.int .u32 fr) ?_
  try simp only[sA,sB,sC,Act.put,sD,sE,sG]
  refine tak 7 (.pointer (some ⟨w.heap.size,1,none⟩)) ?_
  try simp only[sA,sB,sC,Act.put,sD,sE,sG]
  refine tak 8 (.int .u32 tw) ?_
  try simp only[sA,sB,sC,Act.put,sD,sE,sG]
  refine wpAnyH_ready (rs:=[9]) kr zG ?_
  refine sX rfl (fun K hK=> ?_) AllReadyH.nil
  go_simp
  refine HST.out.mono ?_
  rintro e w2 ⟨rfl,hat2,hg2⟩
  have hs2:w1.heap.size≤w2.heap.size:=hg2.size
  have e02:w2.cell? ⟨ep,0,none⟩=some (.pointer (some ⟨bp,0,none⟩)):=(hg2.cell ⟨ep,0,none⟩ (by show ep<w1.heap.size;omega) (by show ¬ep=bh;omega)).trans e0
  have r02:w2.cell? ⟨w.heap.size,0,none⟩=some (.int .u32 fr):=(hg2.cell ⟨w.heap.size,0,none⟩ xP (by show ¬w.heap.size=bh;omega)).trans r0
  have r12:w2.cell? ⟨w.heap.size,1,none⟩=some (.int .u32 tw):=(hg2.cell ⟨w.heap.size,1,none⟩ xP (by show ¬w.heap.size=bh;omega)).trans r1
  refine hK.out _ _ ⟨e02,r02,r12⟩ (fun hHeld2=> ?_)
  clear hK K
  refine wpAnyH_done kr ?_ _
  have hbk:∀j,j<w1.heap.size→j≠bh→w2.heap[j]? =w1.heap[j]? :=fun j h1 h2=>hg2.block j h1 (fun o=>h2)
  have B2:EnB A 56 65 82 ep mp bp w2 room pu st v zs:=HB1.out.keep (TM:=144) HA.out (fun q h1 h2=>hbk q h1 om)
  have C2:EnC A Tryz.prog 43 144 ep mp w2 zs n:=HC1.out.keep (TB:=65) (TI:=82) HA.out (fun q h1 h2=>hbk q h1 om)
  have HG2:Hid (Chg (fun p=>p.block=bh) w w2):=lI ((Chg.of_below HBW1.out (fun p=>p.block=bh)).trans (S':=fun p=>p.block=bh) ⟨hg2.os,hg2.tape,hg2.output,hg2.size,hg2.block,hg2.cell,hg2.frozen⟩ (fun _ _ h=>h))
  have HAT2:=lI hat2
  obtain⟨av,cv,rfl,hcv,hmv,-,-⟩:=B2.blks.1.open (fun _ _=>rfl) om
  unfold maxLen at hmv
  have x1:=B2.at_.get (j:=1) rfl
  have x2:=B2.at_.get (j:=2) rfl
  have x3:=B2.at_.get (j:=3) rfl
  have x4:=B2.at_.get (j:=4) rfl
  simp only[sM]at x1 x2 x3 x4
  have HCT:=lI (econtains_any (.slice av zs.length cv) zs fr tw w.heap.size w2 B2.blks r02 r12 (fun x hx=>by have:=HINS.out x hx;omega) HFR.out HTW.out)
  have HB2:=lI B2
  have HC2:=lI C2
  clear hat2 hg2 hbk B2 C2 hHeld hHeld2 e0 r0 r1 hbd HST HB1 HC1 HBW1
  go_wp2_with fail
  refine HCT.out.mono ?_
  rintro e w3 ⟨rfl,hb3⟩
  have hs3:=hb3.size
  have hepl:ep<w2.heap.size:=om
  have y1:=(hb3.cell (p:=⟨ep,1,none⟩) hepl).trans x1
  have y2:=(hb3.cell (p:=⟨ep,2,none⟩) hepl).trans x2
  have y3:=(hb3.cell (p:=⟨ep,3,none⟩) hepl).trans x3
  have y4:=(hb3.cell (p:=⟨ep,4,none⟩) hepl).trans x4
  have q0:=(hb3.cell (p:=⟨w.heap.size,0,none⟩) (qH r02)).trans r02
  have q1:=(hb3.cell (p:=⟨w.heap.size,1,none⟩) (qH r12)).trans r12
  have HB3:=lI hb3
  have HEB3:=lI (HB2.out.below hb3)
  have HEC3:=lI (HC2.out.below hb3)
  clear hb3 x1 x2 x3 x4 e02 r02 r12 HCT
  obtain⟨an,han⟩:∃a,a=zs.any (QC fr tw):=⟨_,rfl⟩
  rw[←han]
  have HAN:=lI han
  clear han
  cases an with
  | false =>
    go_wp2_with fail
    go_end0
    exact⟨rfl,w2,HAT2.out,HG2.out,Fr.of_below HB3.out (fun j h1 h2=>om),_,zs,st,HEB3.out,HEC3.out,HTOT.out,by rw[stale_all HAN.out.symm]⟩
  | true =>
    have HBR:Hid (∀W,Below w3.heap.size w3 W→W.cell? ⟨w.heap.size,0,none⟩=some (.int .u32 fr)∧W.cell? ⟨w.heap.size,1,none⟩=some (.int .u32 tw)):=lI (fun W hW=>⟨(hW.cell (p:=⟨w.heap.size,0,none⟩) (qH q0)).trans q0,(hW.cell (p:=⟨w.heap.size,1,none⟩) (qH q1)).trans q1⟩)
    have hbd:Below w3.heap.size w3 w3.drew:=Below.drew br
    have HSTA:=lI (cstale_far room (.slice av zs.length cv) pu st zs fr tw w3.drew (HEB3.out.below hbd).blks (fun x hx=>by have:=HINS.out x hx;omega) om HFR.out HTW.out)
    go_wp2_with fail
    refine wp_region_held_drew (S:=fun W=>W.cell? ⟨w.heap.size,0,none⟩=some (.int .u32 fr)∧W.cell? ⟨w.heap.size,1,none⟩=some (.int .u32 tw)) kr (HBR.out _ hbd) (fun hHeld=> ?_)
    refine tak 0 (.pointer (some ⟨ep,0,none⟩)) ?_
    try simp only[sA,sB,sC,Act.put,sD,sE,sG]
    refine tak 1 (.pointer (some ⟨ep,0,none⟩)) ?_
    try simp only[sA,sB,sC,Act.put,sD,sE,sG]
    refine tak 2 (.pointer (some ⟨ep,0,none⟩)) ?_
    try simp only[sA,sB,sC,Act.put,sD,sE,sG]
    refine tak 3 (.pointer (some ⟨ep,1,none⟩)) ?_
    try simp only[sA,sB,sC,Act.put,sD,sE,sG]
    refine tak 5 (.agg #[.int .u32 fr,.int .u32 tw]) ?_
    try simp only[sA,sB,sC,Act.put,sD,sE,sG]
    refine wpAnyH_ready (rs:=[4]) kr zG ?_
    refine sX rfl (fun K hK=> ?_) AllReadyH.nil
    go_simp
    refine hK.out _ _ (HBR.out _ hbd) (fun hHeld2=> ?_)
    clear hK K
    refine wpAnyH_ready (rs:=[6]) kr zG ?_
    refine sX rfl (fun K hK=> ?_) AllReadyH.nil
    go_simp
    refine HSTA.out.mono ?_
    rintro e w4 ⟨⟨v4,zs4,rfl,hbl4,habs4,hfar4,htyp4⟩,hb4⟩
    obtain⟨a4,c4,rfl,-⟩:=hbl4.1.open (fun _ _=>rfl) om
    have hle:zs4.length≤zs.length:=by rw[len_abs habs4];exact List.length_filter_le _ _
    obtain⟨sn,hsn⟩:∃sn,sn=wrap64 (st+((zs.length:Int)-(zs4.length:Int))):=⟨_,rfl⟩
    have hsn2:sn=st+((zs.length:Int)-(zs4.length:Int)):=by rw[hsn];have:=HTOT.out;unfold wrap64;omega
    rw[←hsn]
    clear hsn
    have hb34:Below w3.heap.size w3 w4:=hbd.trans hb4
    have hs4:=hb34.size
    refine hK.out _ _ (HBR.out _ hb34) (fun hHeld3=> ?_)
    clear hK K
    refine tak 7 (.pointer (some ⟨ep,0,none⟩)) ?_
    try simp only[sA,sB,sC,Act.put,sD,sE,sG]
    refine tak 8 (.pointer (some ⟨ep,1,none⟩)) ?_
    try simp only[sA,sB,sC,Act.put,sD,sE,sG]
    refine wpAnyH_ready (rs:=[9]) kr zG ?_
    refine sX rfl (fun K hK=> ?_) AllReadyH.nil
    have B4:=HEB3.out.below hb34
    have hth:=B4.there
    rw[if_pos zP]
    refine wp_store_mid 35 _ _ rfl ep 1 #[.int .i64 room,.slice a4 zs4.length c4,.int .i64 pu,.int .i64 sn] rfl rfl hth xB yX ?_
    simp only[Act.put,sD,sE,sG]
    obtain⟨w5,hw5⟩:∃w5,w5=w4.setCells ep 1 (#[.int .i64 room,.slice a4 zs4.length c4,.int .i64 pu,.int .i64 sn]:Array Value).toList:=⟨_,rfl⟩
    have B5:EnB A 56 65 82 ep mp bp w5 room pu sn (.slice a4 zs4.length c4) zs4:=by rw[hw5];exact B4.store HA.out hbl4 (hfar4.toA (fun q h=>HN.out q (by have h':w3.heap.size≤q:=h;omega))) htyp4
    have F45:Fr (fun j=>j=ep) w4 w5:=by rw[hw5];exact Fr.setCells (S:=fun j=>j=ep) (Fr.refl _ _) ep rfl _ _
    have C4:=HEC3.out.below hb34
    have hmp:=C4.1
    have C5:EnC A Tryz.prog 43 144 ep mp w5 zs4 n:=(C4.keep (TB:=65) (TI:=82) HA.out (fun k hk h=>F45.block k hk om)).sub (fun x hx=>by
      obtain⟨y,hy,e2⟩:=List.mem_map.1 (show x.abs∈(zs.filter (fun x=> !QC fr tw x)).map BlkD.abs by rw[←habs4];exact List.mem_map_of_mem hx)
      have e3:y.pc=x.pc∧y.ins=x.ins:=wP
      exact⟨y,(List.mem_filter.1 hy).1,e3.1.symm,e3.2.symm⟩)
    have g0:=(qE (F45.block w.heap.size om (by show w.heap.size≠ep;omega)) 0).trans (HBR.out _ hb34).1
    have g1:=(qE (F45.block w.heap.size om (by show w.heap.size≠ep;omega)) 1).trans (HBR.out _ hb34).2
    rw[←hw5]
    refine hK.out _ _ ⟨g0,g1⟩ (fun hHeld4=> ?_)
    clear hK K
    refine wpAnyH_done kr ?_ _
    have HF:=lI (Fr.trans (S':=fun j=>j=ep) (S:=fun j=>j=ep) (Fr.of_below (HB3.out.trans (hb34.mono hs3)) (fun j h1 h2=>om)) F45 (fun j _ h=>h))
    have HB5:=lI B5
    have HC5:=lI C5
    have HAB:=lI habs4
    clear B5 C5 F45 B4 C4 hth hw5 hHeld hHeld2 hHeld3 hHeld4 hb34 hb4 hbl4 hfar4 htyp4 habs4
    go_wp2_with fail
    go_end0
    exact⟨rfl,w2,HAT2.out,HG2.out,HF.out,_,zs4,sn,HB5.out,HC5.out,by have:=HTOT.out;omega,HAB.out⟩
end Go.Proofs.YtlfnddmncbkjaacGreat.W
namespace Go.Proofs.YtlfnddmncbkjaacGreat.Fb
open Go.RowKit
section
variable {rp cp hb po bp bh hc k : Nat} {vm vo : Value} {TU TS TR TE TB TI TM TC : TypeId} {w w' : World} {o0 o : List Int} {fr tw steps : Int} {s : St}
theorem R8.initE{h:Hart}{m o:List Int}{bf bt:Int}(hc:qP cp hb po vm TU w ⟨h,m,o,0,0⟩)(wf:h.Wf)(hb':QP m)(hl:m.length≤4096)(ho:∀x∈o,U32 x)(hol:o.length≤50000)(h1:U32 bf)(h2:U32 bt)(hw:w'=w.alloc (.cells (QN (runE h m o bf bt) cp (.slice none 0 0) steps).toArray TR)):
    R8 w.heap.size cp hb po vm TU TS TR w' (runE h m o bf bt) (.slice none 0 0) steps 0 0:=by
  have hB:Below w.heap.size w w':=by rw[hw];exact Below.alloc br (sO _) _
  refine⟨runE_wf wf hb' hl ho h1 h2,by show o.length≤_;omega,hl,JF,JF,hc.below hB,hc.lt,by rw[hw];exact Qf w _ TR (0,0),fun o=> ?_,⟨_,_,by rw[hw];exact sQ _ _⟩,World.ownsRow_nil _ _ _ _⟩
  rw[hw];unfold World.frozen?;rw[sQ];simp
theorem Wk.go8{d:qD}(h:Wk bp bh hc cp k vm vo TU o0 o fr tw w s)(wf:s.Wf)(hd:d.h.Wf)(hc':qP cp bh (k*37) vm TU w' d)(hg:G8 rp TU cp bh (k*37) vm w w'):
    Wk bp bh hc cp k vm vo TU o0 d.out d.fr d.tw w' ⟨s.harts.set k d.h,d.m,s.out,s.steps⟩:=by
  have b1:=h.b1
  have b2:=h.b2
  have hl:=h.clt
  have e:=hg.block bp om om (fun e=>by have:=h.mlt _ e;omega) (.inl h.b2)
  have ek:(⟨s.harts.set k d.h,d.m,s.out,s.steps⟩:St).hart k=d.h:=by
    rw[St.hart_at (by show k<(s.harts.set k d.h).length;rw[List.length_set];exact h.kl)]
    show(s.harts.set k d.h)[k]'_=_
    rw[List.getElem_set,if_pos rfl]
  refine⟨by rw[ek];exact hc',h.b1,h.b2,(qE e _).trans h.c0,(qE e _).trans (by rw[h.c1];simp),(qE e _).trans h.c2,(qE e _).trans h.c3,fun o=>(qW e o).trans (h.frz o),
    Jd h.harts (fun x hx=>qO (wf.harts x hx)) (qO hd) hc'.hart hg.cell,h.mlt,QF h.own (fun g hg'=> ?_),h.vlt,by show k<(s.harts.set k d.h).length;rw[List.length_set];exact h.kl,by show(s.harts.set k d.h).length≤_∧_;rw[List.length_set];exact h.hcap⟩
  have:=h.own.lt g hg'
  exact hg.block g this.2 om (fun e=>by have:=h.mlt _ e;omega) (.inl (h.vlt g hg'))
theorem Wk.out(h:Wk bp bh hc cp k vm vo TU o0 o fr tw w s)(x:List Int):Wk bp bh hc cp k vm vo TU o0 o fr tw w {s with out:=x}:=⟨h.core,h.b1,h.b2,h.c0,h.c1,h.c2,h.c3,h.frz,h.harts,h.mlt,h.own,h.vlt,h.kl,h.hcap⟩
end
theorem loseAll_snoc(k:Nat)(a:List (Int × Int))(p:Int × Int)(hs:List Hart):qx k (a++[p]) hs=qp k p.1 p.2 (qx k a hs).length (qx k a hs):=by
  rw[uH];rfl
theorem staleAll_append:∀(a b:List (Int × Int)) (bl:List BlkD),jK (a++b) bl=jK b (jK a bl)
  |[],_,_=>rfl
  |p::r,b,bl=>by rw[List.cons_append,jK,jK,staleAll_append r b]
theorem staleAll_snoc(a:List (Int × Int))(p:Int × Int)(bl:List BlkD):jK (a++[p]) bl=(jK a bl).filter (fun x=> !QC p.1 p.2 x):=by
  rw[staleAll_append];rfl
theorem estale_abs{fr tw:Int}:∀{ys l:List BlkD},ys.map BlkD.abs=l.map BlkD.abs→(ys.filter (fun x=> !QC fr tw x)).map BlkD.abs=(l.filter (fun x=> !QC fr tw x)).map BlkD.abs
  |[],[],_=>rfl
  |[],_::_,h=>by simp at h
  |_::_,[],h=>by simp at h
  | y :: ys, x :: l, h => by
    simp only[List.map_cons,List.cons.injEq]at h
    obtain⟨h1,h2⟩:=h
    have ih:=estale_abs (fr:=fr) (tw:=tw) h2
    have e:y.pc=x.pc∧y.ins=x.ins:=by unfold BlkD.abs at h1;injection h1 with a b;exact⟨a,b⟩
    have e2:QC fr tw y=QC fr tw x:=by unfold QC;rw[e.1,e.2]
    rw[List.filter_cons,List.filter_cons,e2]
    split
    · rw[List.map_cons,List.map_cons,h1,ih]
    · exact ih
end Go.Proofs.YtlfnddmncbkjaacGreat.Fb
namespace Go.Proofs.YtlfnddmncbkjaacGreat.W
open Go.RowKit Fb
theorem divide_any(a b:Int)(w:World)(ha: -2147483648≤a)(ha':a≤2147483647):
    Calls Tryz.prog 113 #[.int .i32 a,.int .i32 b] w fun e w'=>e=.returned (.tuple #[.int .i32 (divq a b),.int .i32 (divr a b)])∧∃n,w'=w.drewN n:=by
  by_cases h0:b=0
  · subst h0
    go_enter Tryz.func113,Tryz.ntmps113
    go_wp2
    go_ret2
    exact⟨rfl,0,rfl⟩
  · by_cases h1:b= -1
    · subst h1
      go_enter Tryz.func113,Tryz.ntmps113
      go_wp2
      go_ret2
      exact⟨rfl,0,rfl⟩
    · have hz:(b==0)=false:=by simpa using h0
      have hz1:(b== -1)=false:=by simpa using h1
      go_enter Tryz.func113,Tryz.ntmps113
      go_wp2
      go_quiet (fail)
      go_wp2
      go_ret2
      refine⟨?_,nq,rfl⟩
      have e1:wrap32 (a.tdiv b)=divq a b:=by
        rw[divq,if_neg h0,if_neg h1]
        have:=tdiv_small a b ha ha' h0 h1
        unfold wrap32;omega
      have e2:a.tmod b=divr a b:=by rw[divr,if_neg h0,if_neg h1]
      rw[←e1,←e2]
      rfl
theorem quotient_any(op a b:Int)(w:World)(ha:0≤a)(ha':a<4294967296)(hb:0≤b)(hb':b<4294967296):
    Calls Tryz.prog 100 #[.int .i64 op,.int .u32 a,.int .u32 b] w fun e w'=>e=.returned (.int .u32 (quot op a b))∧∃n,w'=w.drewN n:=by
  have hs:=jw a
  by_cases h0:b=0
  · have hz:(b==0)=true:=by simpa using h0
    have H0:=lI h0
    clear h0
    go_enter Tryz.func100,Tryz.ntmps100
    go_wp2_with (go_at_call 113;refine(divide_any _ _ _ hs.1 hs.2).mono ?_;rintro e w' ⟨rfl,n,rfl⟩)
    all_goals go_ret
    all_goals refine⟨qR ?_,n,rfl⟩
    all_goals have h0:=H0.out
    all_goals simp[quot, *]
  · have hz:(b==0)=false:=by simpa using h0
    go_enter Tryz.func100,Tryz.ntmps100
    go_wp2_with (go_at_call 113;refine(divide_any _ _ _ hs.1 hs.2).mono ?_;rintro e w' ⟨rfl,n,rfl⟩)
    all_goals go_ret
    all_goals refine⟨qR ?_,n,rfl⟩
    all_goals simp[quot, *]
theorem alu_any(op a b:Int)(w:World)(ha:0≤a)(ha':a<4294967296)(hb:0≤b)(hb':b<4294967296):
    Calls Tryz.prog 74 #[.int .i64 op,.int .u32 a,.int .u32 b] w fun e w'=>e=.returned (.int .u32 (alu op a b))∧∃n,w'=w.drewN n:=by
  have hm:bits .and .u32 b 31=b%32:=Qn b 5 om 31 rfl hb hb'
  have hs:=jw a
  have hs2:=jw b
  go_enter Tryz.func74,Tryz.ntmps74
  go_wp2_with (first|(go_at_call 100;refine(quotient_any _ _ _ _ ha ha' hb hb').mono ?_;rintro e w' ⟨rfl,n,rfl⟩)|go_in)
  all_goals go_ret
  all_goals refine⟨qR ?_,by first|exact⟨0,rfl⟩|exact⟨_,rfl⟩⟩
  all_goals first
    |(simp[alu, *];done)
    |(rw[mulh_eq _ _ hs om];simp[alu, *];done)
    |(rw[mulhu_eq _ _ ha ha' hb hb'];simp[alu, *];done)
theorem holds_any(op a b:Int)(w:World)(ha:0≤a)(ha':a<4294967296)(hb:0≤b)(hb':b<4294967296):
    Calls Tryz.prog 72 #[.int .i64 op,.int .u32 a,.int .u32 b] w fun e w'=>e=.returned (.bool (holds op a b))∧w=w':=by
  go_enter Tryz.func72,Tryz.ntmps72
  go_wp2
  all_goals go_ret
  all_goals refine⟨QS ?_,rfl⟩
  all_goals simp[holds, *]
theorem amo_any(op a b:Int)(w:World)(ha:0≤a)(ha':a<4294967296)(hb:0≤b)(hb':b<4294967296):
    Calls Tryz.prog 101 #[.int .i64 op,.int .u32 a,.int .u32 b] w fun e w'=>e=.returned (.int .u32 (amo op a b))∧w=w':=by
  go_enter Tryz.func101,Tryz.ntmps101
  go_wp2
  all_goals go_ret
  all_goals refine⟨qR ?_,rfl⟩
  all_goals simp only[beq_iff_eq,sH,ne_eq]at *
  all_goals first|(subst_vars;first|rfl|(simp[amo];done)|(simp[amo];omega))|(simp[amo, *];done)|(simp[amo, *];omega)
section
variable {cp hb ho : Nat} {vm : Value} {d : qD} {w : World}
theorem uN(h:qP cp hb ho vm 43 w d)(wf:d.h.Wf)(k:Nat)(hk:k<32)(x:Int):
    Calls Tryz.prog 71 #[.pointer (some ⟨cp,0,none⟩),.int .i64 k,.int .u32 x] w fun e w'=>e=.returned (.tuple #[])∧qP cp hb ho vm 43 w' (d.set k x)∧Cgo cp hb ho vm 43 w w':=by
  have hp:=h.ptr
  have hc:=h.hart.get (qV wf k hk)
  have hf:=h.hfz (ho+k)
  have H:=lI h
  clear h
  go_enter Tryz.func71,Tryz.ntmps71
  by_cases hk0:k=0
  · subst hk0
    go_wp2_with fail
    go_end0
    refine⟨rfl, ?_,Cgo.refl _⟩
    have e:d.set ((0:Nat):Int) x=d:=by simp[qD.set,Hart.setReg]
    rw[e]
    exact H.out
  · have hk1:(0:Int)<k:=om
    go_wp2_with fail
    go_end0
    refine⟨rfl, ?_,Cgo.setHart _ k om _⟩
    have e:d.set (k:Int) x={d with h:={d.h with regs:=d.h.regs.set k x}}:=by simp[qD.set,Hart.setReg];omega
    rw[e]
    exact H.out.setHart k _ _ (UO wf.len k hk x) (by rw[qO wf];omega)
theorem uC(h:qP cp hb ho vm 43 w d)(wf:d.h.Wf)(c:Int):
    Calls Tryz.prog 44 #[.pointer (some ⟨cp,0,none⟩),.int .i64 c] w fun e w'=>e=.returned (.tuple #[])∧qP cp hb ho vm 43 w' (d.trap c)∧Cgo cp hb ho vm 43 w w':=by
  have hp:=h.ptr
  have h35:=h.hart.get (JR wf)
  have h36:=h.hart.get (hlist_cause wf)
  have f35:=h.hfz (ho+35)
  have f36:=h.hfz (ho+36)
  have hne:=h.hbl
  have H:=lI h
  clear h
  go_enter Tryz.func44,Tryz.ntmps44
  go_wp2_with fail
  go_region
  all_goals go_wp2_with fail
  all_goals go_end0
  all_goals exact⟨rfl,((H.out.setHart 35 _ _ (js wf.len 2) (by rw[qO wf];omega)).setHart 36 _ _ (uJ (h:={d.h with state:=2}) wf.len c) (by have:=qO wf;unfold qJ at *;simp at *;omega)).below (Below.drew br),((Cgo.setHart _ 35 om _).trans (Cgo.setHart _ 36 om _)).drew⟩
theorem cput_any(h:qP cp hb ho vm 43 w d)(wf:d.Wf)(op at_ x:Int)(ha:U32 at_)(hx:U32 x):
    Calls Tryz.prog 73 #[.pointer (some ⟨cp,0,none⟩),.int .i64 op,.int .u32 at_,.int .u32 x] w fun e w'=>e=.returned (.bool (qU d.m op at_))∧qP cp hb ho vm 43 w' (d.put op at_ x)∧Cgo cp hb ho vm 43 w w':=by
  have hp:=h.ptr
  have hm:=h.mem
  have hfr:=h.fr
  have htw:=h.tw
  have f3:=h.frz 3
  have f4:=h.frz 4
  have hne:=h.hbl
  have H:=lI h
  have HA:=lI ha
  have HX:=lI hx
  obtain⟨ao,cap,rfl,hc1,hc2,_,hopen⟩:=h.bytes.open
  clear h ha hx
  cases hok:qU d.m op at_ with
  | false =>
    have e:d.put op at_ x=d:=by unfold qD.put;rw[hok];rfl
    rw[e]
    have hc:=put_no ao d.m.length cap op at_ x w om HA.out hok
    go_enter Tryz.func73,Tryz.ntmps73
    go_wp2_with fail
    refine hc.mono ?_
    rintro e w' ⟨rfl,rfl⟩
    go_wp2_with fail
    go_ret
    exact⟨rfl,H.out,Cgo.refl _⟩
  | true =>
    have hpos:=storeOk_pos HA.out hok
    obtain⟨b,off,rfl,hbl,hcell⟩:=hopen (by intro e;rw[e]at hpos;simp at hpos)
    obtain⟨m1,m2,m3,m4⟩:=H.out.mfz b off _ _ rfl
    obtain⟨k,rfl⟩:=sS HA.out.1
    have hc:=put_yes b off cap d.m op k x w om HA.out HX.out hok (fun i hi=>⟨_,hcell i hi⟩) (fun i _=>m4 _)
    have hk:k+(qM op).toNat≤d.m.length:=by
      simp[qU,there]at hok
      have:=HA.out.1
      omega
    have H2:=lI (H.out.putW k x (qM op).toNat hk hpos)
    have C2:Hid (Cgo cp hb ho (.slice (some ⟨b,off,none⟩) d.m.length cap) 43 w (putW w b off k x (qM op).toNat)):=lI (Cgo.putW w rfl m2 k x _)
    have HP:Hid (d.put op k x={d with m:=lay d.m k x (qM op).toNat,fr:=(k:Int),tw:=((k:Int)+qM op)%4294967296}):=lI (by
      unfold qD.put;rw[if_pos hok];congr 1;unfold qn;rw[if_pos hok])
    have hop:op=16∨op=17∨op=18:=by simp[qU,stores]at hok;omega
    clear hcell hopen m1 m2 m3 m4 hp hm hfr htw f3 f4
    generalize putW w b off k x (qM op).toNat=w2 at *
    have hp:=H2.out.ptr
    have hm:=H2.out.mem
    have hfr:=H2.out.fr
    have htw:=H2.out.tw
    have f3:=H2.out.frz 3
    have f4:=H2.out.frz 4
    have hp0:=H.out.ptr
    have hm0:=H.out.mem
    have hku:=HA.out.2
    have ix0:∀W,(Instr.index 170 (.agg #[.int .u32 1,.int .u32 2,.int .u32 4]) (.int .i64 0)).run Tryz.prog W=.ok (.int .u32 1) W:=fun _=>by kernel_rfl
    have ix1:∀W,(Instr.index 170 (.agg #[.int .u32 1,.int .u32 2,.int .u32 4]) (.int .i64 1)).run Tryz.prog W=.ok (.int .u32 2) W:=fun _=>by kernel_rfl
    have ix2:∀W,(Instr.index 170 (.agg #[.int .u32 1,.int .u32 2,.int .u32 4]) (.int .i64 2)).run Tryz.prog W=.ok (.int .u32 4) W:=fun _=>by kernel_rfl
    rcases hop with rfl|rfl|rfl
    all_goals
      go_enter Tryz.func73,Tryz.ntmps73
      go_upto_region 1 with(fail)
      clear hp hm hfr htw f3 f4
      go_wp2_with fail
      refine hc.mono ?_
      rintro e w' ⟨rfl,rfl⟩
      clear hp0 hm0
      have hp:=H2.out.ptr
      have hfr:=H2.out.fr
      have htw:=H2.out.tw
      have f3:=H2.out.frz 3
      have f4:=H2.out.frz 4
      go_wp2_with fail
      go_ret
      refine⟨rfl, ?_,(C2.out.trans (Cgo.setCore _ hne _ _)).trans (Cgo.setCore _ hne _ _)⟩
      rw[HP.out]
      exact(H2.out.setFr _).setTo _
theorem call_any(h:qP cp hb ho vm 43 w d)(wf:d.Wf)(hlen:d.out.length<1099511627776):
    Calls Tryz.prog 77 #[.pointer (some ⟨cp,0,none⟩)] w fun e w'=>e=.returned (.bool (qz d).2)∧qP cp hb ho vm 43 w' (qz d).1∧Cgo cp hb ho vm 43 w w':=by
  have hp:=h.ptr
  have h17:=h.hart.get (qV wf.h 17 om)
  have h10:=h.hart.get (qV wf.h 10 om)
  have h35:=h.hart.get (JR wf.h)
  have f35:=h.hfz (ho+35)
  have f2:=h.frz 2
  have hne:=h.hbl
  have hlt:=h.lt
  have H:=lI h
  have hT:=lI (uC h wf.h 5)
  have hC:qz d=if d.h.regs.getD 17 0=0 then({d with h:={d.h with state:=1}},false)else if d.h.regs.getD 17 0=1 then({d with out:=d.out++[d.h.regs.getD 10 0]},true)else(d.trap 5,false):=rfl
  rw[hC]
  clear hC h
  generalize d.h.regs.getD 17 0=x17 at *
  generalize d.h.regs.getD 10 0=x10 at *
  by_cases h0:x17=0
  · rw[if_pos h0]
    subst h0
    go_enter Tryz.func77,Tryz.ntmps77
    go_wp2_with fail
    go_ret
    exact⟨rfl,H.out.setHart 35 _ _ (js wf.h.len 1) xV,Cgo.setHart _ 35 om _⟩
  · rw[if_neg h0]
    by_cases h1:x17=1
    · rw[if_pos h1]
      subst h1
      obtain⟨v,hv1,hv3⟩:=H.out.row
      have hfar:Hid (some cp≠v.ownBlock):=lI (fun e=>by have:=(hv3.lt cp e.symm).1;omega)
      have hlo:∀k,v.ownBlock=some k→cp+1≤k:=fun k e=>(hv3.lt k e).1
      have HLO:=lI hlo
      have H3:=lI hv3
      have HV:=lI (And.intro hv1 f2)
      obtain⟨i0,hi,hz0,hz1,hz2⟩:=info_parts (show(Tryz.prog.info? 43).map (fun i=>(i.zero,i.size,i.bytes))=some (some (.int .u32 0),1,4) by kernel_rfl)
      clear hv3 hlo
      go_enter Tryz.func77,Tryz.ntmps77
      go_wp2_with fail
      go_region_law (
        refine step_append_lies _ zP _ _ _ zP (cp+1) 43 i0 _ 1 4 Tryz.underlying30 hi hz0 hz1 hz2 rfl om v d.out.length _ zP ((H3.out.alloc _).drew)
            ⟨w.heap.size,0,none⟩ 1 1 [.int .u32 x10] zP zP (World.news_of_block (cs:=#[.int .u32 x10]) (t:=43) (fr:=(0,0)) (sQ w _)) yX
            om xW om zB (w.heap.size+1) zG ?_
        intro gg cap w1 hown1 hgrow hat hgl
        have hc1:w1.cell? ⟨cp,2,none⟩=some v:=(hgrow.cell_far _ zB hfar.out).trans (by simp[World.cell?_alloc_some,HV.out.1])
        have hc0:w1.cell? ⟨cp,0,none⟩=some (.pointer (some ⟨hb,ho,none⟩)):=(hgrow.cell_far _ zB hfar.out).trans (by simp[World.cell?_alloc_some,hp])
        have hf1:w1.frozen? ⟨cp,2,none⟩=false:=(hgrow.frozen_far _ zB hfar.out).trans ((frozen_da (p:=⟨cp,2,none⟩) _ hlt).trans HV.out.2))
      all_goals
        go_wp2
        go_ret
        refine⟨rfl,H.out.append (((Below.alloc br om _).drew).grown hgrow zB HLO.out) (by simpa using hown1), ?_⟩
        exact(((Cgo.of_below (Below.alloc br (sO _) _) om).drew).trans (Cgo.grown hne ((H3.out.alloc _).drew) hgrow zB)).trans (Cgo.setCore _ hne _ _)
    · rw[if_neg h1]
      go_enter Tryz.func77,Tryz.ntmps77
      go_wp2_with fail
      refine hT.out.mono ?_
      rintro e w1 ⟨rfl,hc,hg⟩
      go_wp2_with fail
      go_ret
      exact⟨rfl,hc,hg⟩
end
end Go.Proofs.YtlfnddmncbkjaacGreat.W
