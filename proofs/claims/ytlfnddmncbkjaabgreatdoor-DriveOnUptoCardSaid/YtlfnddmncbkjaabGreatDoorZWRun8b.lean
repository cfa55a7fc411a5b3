import Derived.Test.YtlfnddmncbkjaabGreatDoorZGX
set_option linter.unusedVariables false
set_option linter.unusedSimpArgs false
set_option maxRecDepth 100000
set_option maxHeartbeats 4000000
namespace Go.Proofs.YtlfnddmncbkjaabGreatDoor.W
open Go.RowKit Fb
theorem info_range8:(Tryz.prog.info? 165).map (fun i=>(i.zero,i.size,i.bytes))=some (some (.agg #[.int .u32 0,.int .u32 0]),2,8):=by kernel_rfl
section
variable {rp cp hb po : Nat} {vm : Value} {w : World} {d : RunD} {vs : Value} {steps fr tw : Int}
theorem stored8_no(h:R8 rp cp hb po vm 40 165 170 w d vs steps fr tw)(hlt:¬fr<tw):
    Calls Tryz.prog 159 #[.pointer (some ⟨rp,0,none⟩)] w fun e w'=>e=.returned (.tuple #[])∧R8 rp cp hb po vm 40 165 170 w' d vs steps 0 0∧G8 rp 40 cp hb po vm w w':=by
  have c0:=h.at_.get (QO 0 om)
  have c3:w.cell? ⟨cp,3,none⟩=some (.int .u32 fr):=h.core.fr
  have c4:w.cell? ⟨cp,4,none⟩=some (.int .u32 tw):=h.core.tw
  have f3:=h.core.frz 3
  have f4:=h.core.frz 4
  simp only[sM]at c0
  have e0:decide (fr<tw)=false:=decide_eq_false hlt
  have HS:=lI (fun n=>by
    have H1:=(h.below (w':=w.drewN n) (qB br _)).setFrTo tyR tyS
    exact And.intro H1.1 ((G8.below (rp:=rp) (TU:=40) (cp:=cp) (hb:=hb) (po:=po) (vm:=vm) (qB (Below.refl _ w) n) h.clt).trans H1.2))
  have hrlt:=h.rlt
  have hclt:cp<w.heap.size:=by have:=h.lt;omega
  have hne:cp≠rp:=by have:=h.lt;omega
  clear h hlt
  go_enter Tryz.func159,Tryz.ntmps159
  go_upto_region 0 with(fail)
  go_quiet (fail)
  go_wp2_with fail
  go_region
  all_goals
    go_wp2_with fail
    go_end0
    exact⟨rfl,(HS.out _).1,(HS.out _).2⟩
theorem dI{p:Prop}(h:p:=by
 refine wpAnyH_ready (rs:=[21]) kr zC ?_
 refine sS rfl (fun K hK=> ?_) AllReadyH.nil
 refine Qc zK _ _ _ zK (rp+1) 165 i0 _ 2 8 Tryz.underlying167 hi hi0 hi1 hi2 rfl zF (.slice asl d.stores.length cs) d.stores.length (d.stores.flatMap rg) zK (qP HH.out.sto hb2) ⟨w0.heap.size,0,none⟩ 1 1 [.int .u32 fr,.int .u32 tw] zK rfl hn2 yT (by have:=HL.out;unfold maxLen;omega) (by have:=HL.out;omega) om ?_
 intro v' w3 hown hgrow hat'
 have HO:=r8_sto HH.out tyR tyS hb2 (p:=(fr,tw)) ⟨HH.out.ufr,HH.out.utw⟩ hown hgrow
 have e5:=(hgrow.cell_far ⟨rp,5,none⟩ yM HRP.out).trans (HS.out _ hb2).1
 have g5:=(hgrow.frozen_far ⟨rp,5,none⟩ yM HRP.out).trans ((hb2.frozen (p:=⟨rp,5,none⟩) hrlt0).trans HF5.out)
 have eS:w3.cell? ⟨rp,0,none⟩=some (.pointer (some ⟨cp,0,none⟩))∧w3.cell? ⟨cp,3,none⟩=some (.int .u32 fr)∧w3.cell? ⟨cp,4,none⟩=some (.int .u32 tw):=
   have hcb:∀o,w3.cell? ⟨cp,o,none⟩=w2.cell? ⟨cp,o,none⟩:=fun o=>hgrow.cell_far ⟨cp,o,none⟩ (by show cp<_;omega) (fun e=>by have e2:=(HH.out.sto.lt cp e.symm).1;have e3:=HH.out.lt;omega)
   ⟨(hgrow.cell_far ⟨rp,0,none⟩ yM HRP.out).trans (HS.out _ hb2).2.1,(hcb 3).trans (HS.out _ hb2).2.2.1,(hcb 4).trans (HS.out _ hb2).2.2.2⟩
 obtain⟨a3,c3',rfl⟩:=qE hown
 have HO2:=lI HO
 clear hown hgrow hat' hn2 HO hHeld hHeld2
 refine hK.out _ _ eS (fun hHeld3=> ?_)
 clear hK K
 refine tak 22 (.pointer (some ⟨rp,0,none⟩)) ?_
 try simp only[sA,sB,sC,Act.put,sD,sE,sG]
 refine tak 23 (.pointer (some ⟨rp,5,none⟩)) ?_
 try simp only[sA,sB,sC,Act.put,sD,sE,sG]
 refine wpAnyH_ready (rs:=[24]) kr zC ?_
 refine sS rfl (fun K hK=> ?_) AllReadyH.nil
 go_simp
 have eS4:(w3.setCell ⟨rp,5,none⟩ (.slice a3 (d.stores.length+1) c3')).cell? ⟨rp,0,none⟩=some (.pointer (some ⟨cp,0,none⟩))∧(w3.setCell ⟨rp,5,none⟩ (.slice a3 (d.stores.length+1) c3')).cell? ⟨cp,3,none⟩=some (.int .u32 fr)∧(w3.setCell ⟨rp,5,none⟩ (.slice a3 (d.stores.length+1) c3')).cell? ⟨cp,4,none⟩=some (.int .u32 tw):=
   ⟨(sJ _ _ _ _ zD).trans eS.1,(sJ _ _ _ _ xS).trans eS.2.1,(sJ _ _ _ _ xS).trans eS.2.2⟩
 refine hK.out _ _ eS4 (fun hHeld4=> ?_)
 clear hK K
 refine wpAnyH_done kr ?_ _
 obtain⟨w4,hw4⟩:∃w4,w4=w3.setCell ⟨rp,5,none⟩ (.slice a3 (d.stores.length+1) c3'):=⟨_,rfl⟩
 rw[←hw4]at HO2 ⊢
 clear HW2 hb2 hs2 eS eS4 e5 g5
 go_wp2_with fail
 go_meet
 case rel=>exact⟨_,lI ⟨HO2.out.1,HO2.out.2⟩⟩):p:=h
theorem dJ{p:Prop}(h:p:=by
 subst hqv
 have HS2:=lI (HSET.out 1)
 clear HSET p1 p2 p3 HQ
 refine wp_region_still_tail 50 kr kr ?_
 simp only[List.take_succ_cons,List.take_zero,List.drop_succ_cons,List.drop_zero]
 iterate 50 (with_reducible refine Qi kr (fun K hK=> ?_);go_simp;with_reducible refine hK _ ?_;clear hK K)
 with_reducible refine wpStill_nil ?_
 change wpList _ _ _ _ _ w5.drew
 go_wp2_with fail
 go_meet
 case rel=>exact lI HS2.out):p:=h
theorem dK{p:Prop}(h:p:=by
 change wpList _ _ _ _ _ w5.drew
 go_wp2_with fail
 go_meet
 case rel=>exact lI HS2.out):p:=h
theorem stored8_yes(h:R8 rp cp hb po vm 40 165 170 w d vs steps fr tw)(hlt:fr<tw)(hl:d.stores.length≤100000):
    Calls Tryz.prog 159 #[.pointer (some ⟨rp,0,none⟩)] w fun e w'=>e=.returned (.tuple #[])∧∃vs',R8 rp cp hb po vm 40 165 170 w' {d with stores:=d.stores++[(fr,tw)],own:=d.own||(decide (d.bf<d.bt)&&decide (fr<d.bt)&&decide (d.bf<tw))} vs' steps 0 0∧G8 rp 40 cp hb po vm w w':=by
  obtain⟨i0,hi,hi0,hi1,hi2⟩:=info_parts info_range8
  have c0:=h.at_.get (QO 0 om)
  have c5:=h.at_.get (QO 5 om)
  have c3:w.cell? ⟨cp,3,none⟩=some (.int .u32 fr):=h.core.fr
  have c4:w.cell? ⟨cp,4,none⟩=some (.int .u32 tw):=h.core.tw
  have f5:=h.frz 5
  obtain⟨asl,cs,rfl⟩:=qE h.sto
  have hrlt:=h.rlt
  have hclt:cp<w.heap.size:=by have:=h.lt;omega
  have hne:cp≠rp:=by have:=h.lt;omega
  simp only[sM]at c0 c5
  have HRP:Hid (some rp≠(Value.slice asl d.stores.length cs).ownBlock):=lI (fun e=>by have:=(h.sto.lt rp e.symm).1;omega)
  have H:=lI h
  have HL:=lI hl
  obtain⟨ln,hln⟩:∃ln,ln=d.stores.length:=⟨_,rfl⟩
  have e0:decide (fr<tw)=true:=decide_eq_true hlt
  obtain⟨o,ho⟩:∃o,o=d.own:=⟨_,rfl⟩
  obtain⟨q,hq⟩:∃q,q=(decide (d.bf<d.bt)&&decide (fr<d.bt)&&decide (d.bf<tw)):=⟨_,rfl⟩
  rw[←ho,←hq]
  have HOO:=lI ho
  have HQQ:=lI hq
  clear ho hq
  obtain⟨wz,hwz⟩:∃wz,wz=w:=⟨_,rfl⟩
  clear h hlt hwz wz
  go_enter Tryz.func159,Tryz.ntmps159
  go_upto_region 0 with(fail)
  go_quiet (fail)
  go_upto_region 1 with(fail)
  clear e0 c0 c3 c4 c5 f5
  obtain⟨w0,hw0⟩:∃w0,w0=w.drewN nq:=⟨_,rfl⟩
  rw[←hw0]
  have hb0:Below w.heap.size w w0:=by rw[hw0];exact qB br _
  have G0:=lI (G8.below (rp:=rp) (TU:=40) (cp:=cp) (hb:=hb) (po:=po) (vm:=vm) hb0 H.out.clt)
  have H0:=H.out.below hb0
  clear hw0 H
  have c0:=H0.at_.get (QO 0 om)
  have c5:=H0.at_.get (QO 5 om)
  have c3:w0.cell? ⟨cp,3,none⟩=some (.int .u32 fr):=H0.core.fr
  have c4:w0.cell? ⟨cp,4,none⟩=some (.int .u32 tw):=H0.core.tw
  have f5:=H0.frz 5
  have hrlt0:=H0.rlt
  have hclt0:cp<w0.heap.size:=by have:=H0.lt;omega
  simp only[sM]at c0 c5
  have HH:=lI H0
  clear hb0 H0 hrlt hclt
  go_cut []from 17 to 40 (fun wx=>∃v',Hid (R8 rp cp hb po vm 40 165 170 wx {d with stores:=d.stores++[(fr,tw)]} v' steps fr tw∧G8 rp 40 cp hb po vm w0 wx))
  case first=>
    have HS:Hid (∀W,Below w0.heap.size w0 W→W.cell? ⟨rp,5,none⟩=some (.slice asl d.stores.length cs)∧(W.cell? ⟨rp,0,none⟩=some (.pointer (some ⟨cp,0,none⟩))∧W.cell? ⟨cp,3,none⟩=some (.int .u32 fr)∧W.cell? ⟨cp,4,none⟩=some (.int .u32 tw))):=lI (fun W hW=>⟨(hW.cell (p:=⟨rp,5,none⟩) hrlt0).trans c5,(hW.cell (p:=⟨rp,0,none⟩) hrlt0).trans c0,(hW.cell (p:=⟨cp,3,none⟩) hclt0).trans c3,(hW.cell (p:=⟨cp,4,none⟩) hclt0).trans c4⟩)
    have hbd:Below w0.heap.size w0 w0.drew:=Below.drew br
    have HF5:=lI f5
    clear c0 c3 c4 c5 f5
    refine wp_region_held_drew (S:=fun W=>W.cell? ⟨rp,0,none⟩=some (.pointer (some ⟨cp,0,none⟩))∧W.cell? ⟨cp,3,none⟩=some (.int .u32 fr)∧W.cell? ⟨cp,4,none⟩=some (.int .u32 tw)) kr (HS.out _ hbd).2 (fun hHeld=> ?_)
    refine tak 0 (.pointer (some ⟨rp,0,none⟩)) ?_
    try simp only[sA,sB,sC,Act.put,sD,sE,sG]
    refine tak 1 (.pointer (some ⟨rp,0,none⟩)) ?_
    try simp only[sA,sB,sC,Act.put,sD,sE,sG]
    refine tak 2 (.pointer (some ⟨rp,0,none⟩)) ?_
    try simp only[sA,sB,sC,Act.put,sD,sE,sG]
    refine tak 3 (.pointer (some ⟨rp,5,none⟩)) ?_
    try simp only[sA,sB,sC,Act.put,sD,sE,sG]
    refine tak 5 (.pointer (some ⟨rp,0,none⟩)) ?_
    try simp only[sA,sB,sC,Act.put,sD,sE,sG]
    refine tak 6 (.pointer (some ⟨rp,0,none⟩)) ?_
    try simp only[sA,sB,sC,Act.put,sD,sE,sG]
    refine tak 7 (.pointer (some ⟨rp,0,none⟩)) ?_
    try simp only[sA,sB,sC,Act.put,sD,sE,sG]
    refine tak 8 (.pointer (some ⟨cp,0,none⟩)) ?_
    try simp only[sA,sB,sC,Act.put,sD,sE,sG]
    refine tak 9 (.pointer (some ⟨cp,0,none⟩)) ?_
    try simp only[sA,sB,sC,Act.put,sD,sE,sG]
    refine tak 10 (.pointer (some ⟨cp,3,none⟩)) ?_
    try simp only[sA,sB,sC,Act.put,sD,sE,sG]
    refine tak 11 (.int .u32 fr) ?_
    try simp only[sA,sB,sC,Act.put,sD,sE,sG]
    refine tak 12 (.pointer (some ⟨rp,0,none⟩)) ?_
    try simp only[sA,sB,sC,Act.put,sD,sE,sG]
    refine tak 13 (.pointer (some ⟨rp,0,none⟩)) ?_
    try simp only[sA,sB,sC,Act.put,sD,sE,sG]
    refine tak 14 (.pointer (some ⟨rp,0,none⟩)) ?_
    try simp only[sA,sB,sC,Act.put,sD,sE,sG]
    refine tak 15 (.pointer (some ⟨cp,0,none⟩)) ?_
    try simp only[sA,sB,sC,Act.put,sD,sE,sG]
    refine tak 16 (.pointer (some ⟨cp,0,none⟩)) ?_
    try simp only[sA,sB,sC,Act.put,sD,sE,sG]
    refine tak 17 (.pointer (some ⟨cp,4,none⟩)) ?_
    try simp only[sA,sB,sC,Act.put,sD,sE,sG]
    refine tak 18 (.int .u32 tw) ?_
    try simp only[sA,sB,sC,Act.put,sD,sE,sG]
    refine tak 19 (.agg #[.int .u32 fr,.int .u32 tw]) ?_
    try simp only[sA,sB,sC,Act.put,sD,sE,sG]
    refine wpAnyH_ready (rs:=[4,20]) kr zC ?_
    refine sS rfl (fun K hK=> ?_) (sS rfl (fun K hK=> ?_) AllReadyH.nil)
    · have ld5:=(HS.out _ hbd).1
      go_simp
      refine hK.out _ _ (HS.out _ hbd).2 (fun hHeldL=> ?_)
      clear hK K
      clear ld5
      refine wpAnyH_ready (rs:=[20]) kr zC ?_
      refine sS rfl (fun K hK=> ?_) AllReadyH.nil
      go_simp
      obtain⟨w2,hw2⟩:∃w2,w2=(w0.alloc (.cells #[.int .u32 fr,.int .u32 tw] 165)).drew:=⟨_,rfl⟩
      have hb2:Below w0.heap.size w0 w2:=by rw[hw2];exact Below.drew (Below.alloc br (sN _) _)
      have hs2:w2.heap.size=w0.heap.size+1:=by rw[hw2];show(w0.alloc _).heap.size=_;simp
      have hn2:∀j u,[Value.int .u32 fr,.int .u32 tw][j]? =some u→w2.cell? ((⟨w0.heap.size,0,none⟩:Addr).add j)=some u:=by rw[hw2];exact World.news_of_block (cs:=#[.int .u32 fr,.int .u32 tw]) (t:=165) (fr:=(0,0)) (sP w0 _)
      have HW2:=lI hw2
      rw[←hw2]
      refine hK.out _ _ (HS.out _ hb2).2 (fun hHeld2=> ?_)
      clear hK K hw2
      exact dI
    · go_simp
      obtain⟨w2,hw2⟩:∃w2,w2=(w0.alloc (.cells #[.int .u32 fr,.int .u32 tw] 165)).drew:=⟨_,rfl⟩
      have hb2:Below w0.heap.size w0 w2:=by rw[hw2];exact Below.drew (Below.alloc br (sN _) _)
      have hs2:w2.heap.size=w0.heap.size+1:=by rw[hw2];show(w0.alloc _).heap.size=_;simp
      have hn2:∀j u,[Value.int .u32 fr,.int .u32 tw][j]? =some u→w2.cell? ((⟨w0.heap.size,0,none⟩:Addr).add j)=some u:=by rw[hw2];exact World.news_of_block (cs:=#[.int .u32 fr,.int .u32 tw]) (t:=165) (fr:=(0,0)) (sP w0 _)
      have HW2:=lI hw2
      rw[←hw2]
      refine hK.out _ _ (HS.out _ hb2).2 (fun hHeld2=> ?_)
      clear hK K hw2
      refine wpAnyH_ready (rs:=[4]) kr zC ?_
      refine sS rfl (fun K hK=> ?_) AllReadyH.nil
      have ld5:=(HS.out _ hb2).1
      go_simp
      refine hK.out _ _ (HS.out _ hb2).2 (fun hHeldL=> ?_)
      clear hK K ld5
      exact dI
  case rest=>
    obtain⟨v5,HR⟩:=hcut
    obtain⟨w5,hw5⟩:∃w5,w5=wc:=⟨_,rfl⟩
    rw[←hw5]at HR ⊢
    clear hw5 HRP HL HH
    have ho:=HOO.out
    have hq:=HQQ.out
    have h5:=HR.out.1
    have G5:=lI (G0.out.trans HR.out.2)
    have c0:=h5.at_.get (QO 0 om)
    have c1:=h5.at_.get (QO 1 om)
    have c2:=h5.at_.get (QO 2 om)
    have c11:=h5.at_.get (Jb h5.wf.tlen 1)
    have c3:w5.cell? ⟨cp,3,none⟩=some (.int .u32 fr):=h5.core.fr
    have c4:w5.cell? ⟨cp,4,none⟩=some (.int .u32 tw):=h5.core.tw
    have f11:=h5.frz 11
    have HF3:=lI (h5.core.frz 3)
    have HF4:=lI (h5.core.frz 4)
    have hrlt5:=h5.rlt
    have hclt5:cp<w5.heap.size:=by have:=h5.lt;omega
    simp only[sM,Nat.reduceAdd]at c0 c1 c2 c11
    have c11':w5.cell? ⟨rp,11,none⟩=some (.bool o):=by rw[ho];exact c11
    have HSET:=lI (fun n=>by
      have h6:=h5.below (w':=w5.drewN n) (qB br _)
      have h7:=h6.setCell (d':={d with stores:=d.stores++[(fr,tw)],own:=(o||q)}) tyR 11 om (.bool (o||q)) (r8_setEnd (d:={d with stores:=d.stores++[(fr,tw)]}) (j:=1) h5.wf.tlen rfl rfl rfl rfl rfl) rfl rfl rfl rfl {h5.wf with}
      exact And.intro h7 (((G8.below (rp:=rp) (TU:=40) (cp:=cp) (hb:=hb) (po:=po) (vm:=vm) (qB (Below.refl _ w5) n) h5.clt)).trans (G8.set h5.lts 11 (.bool (o||q)))))
    have HO:=lI ho
    clear h5 HR c11 G0
    obtain⟨bf,hbf⟩:∃x,x=d.bf:=⟨_,rfl⟩
    obtain⟨bt,hbt⟩:∃x,x=d.bt:=⟨_,rfl⟩
    rw[←hbf]at hq c1
    rw[←hbt]at hq c2
    have HQ:=lI hq
    clear ho hq hbf hbt
    go_upto_region 2 with(fail)
    go_cut []from 41 to 90 (fun wx=>Hid (R8 rp cp hb po vm 40 165 170 wx {d with stores:=d.stores++[(fr,tw)],own:=(o||q)} v5 steps fr tw∧G8 rp 40 cp hb po vm w5 wx))
    case first=>
      cases o with
      | true =>
        have HS2:=lI (HSET.out 1)
        rw[show(true||q)=true from rfl]at HS2
        clear HSET
        refine wp_region_still_tail 50 kr kr ?_
        simp only[List.take_succ_cons,List.take_zero,List.drop_succ_cons,List.drop_zero]
        iterate 6 (with_reducible refine Qi kr (fun K hK=> ?_);go_simp;with_reducible refine hK _ ?_;clear hK K)
        iterate 41 (with_reducible refine Jf kr ?_;simp only[Act.put,sD,sE,sG])
        iterate 3 (with_reducible refine Qi kr (fun K hK=> ?_);go_simp;with_reducible refine hK _ ?_;clear hK K)
        with_reducible refine wpStill_nil ?_
        change wpList _ _ _ _ _ w5.drew
        go_wp2_with fail
        go_meet
        case rel=>exact lI HS2.out
      | false =>
        rw[Bool.false_or]at HSET
        by_cases p1:bf<bt
        · have p1':decide (bf<bt)=true:=decide_eq_true p1
          by_cases p2:fr<bt
          · have p2':decide (fr<bt)=true:=decide_eq_true p2
            by_cases p3:bf<tw
            · have p3':decide (bf<tw)=true:=decide_eq_true p3
              have hqv:q=true:=by rw[HQ.out,p1',p2',p3'];rfl
              exact dJ
            · have p3':decide (bf<tw)=false:=decide_eq_false p3
              have hqv:q=false:=by rw[HQ.out,p1',p2',p3'];rfl
              exact dJ
          · have p2':decide (fr<bt)=false:=decide_eq_false p2
            have hqv:q=false:=by rw[HQ.out,p1',p2'];rfl
            subst hqv
            have HS2:=lI (HSET.out 1)
            clear HSET p1 p2 HQ
            refine wp_region_still_tail 50 kr kr ?_
            simp only[List.take_succ_cons,List.take_zero,List.drop_succ_cons,List.drop_zero]
            iterate 33 (with_reducible refine Qi kr (fun K hK=> ?_);go_simp;with_reducible refine hK _ ?_;clear hK K)
            iterate 13 (with_reducible refine Jf kr ?_;simp only[Act.put,sD,sE,sG])
            iterate 4 (with_reducible refine Qi kr (fun K hK=> ?_);go_simp;with_reducible refine hK _ ?_;clear hK K)
            with_reducible refine wpStill_nil ?_
            exact dK
        · have p1':decide (bf<bt)=false:=decide_eq_false p1
          have hqv:q=false:=by rw[HQ.out,p1'];rfl
          subst hqv
          have HS2:=lI (HSET.out 1)
          clear HSET p1 HQ
          refine wp_region_still_tail 50 kr kr ?_
          simp only[List.take_succ_cons,List.take_zero,List.drop_succ_cons,List.drop_zero]
          iterate 18 (with_reducible refine Qi kr (fun K hK=> ?_);go_simp;with_reducible refine hK _ ?_;clear hK K)
          iterate 13 (with_reducible refine Jf kr ?_;simp only[Act.put,sD,sE,sG])
          iterate 2 (with_reducible refine Qi kr (fun K hK=> ?_);go_simp;with_reducible refine hK _ ?_;clear hK K)
          iterate 13 (with_reducible refine Jf kr ?_;simp only[Act.put,sD,sE,sG])
          iterate 4 (with_reducible refine Qi kr (fun K hK=> ?_);go_simp;with_reducible refine hK _ ?_;clear hK K)
          with_reducible refine wpStill_nil ?_
          exact dK
    case rest=>
      have HR:=lI hcut.out
      obtain⟨w6,hw6⟩:∃w6,w6=wc:=⟨_,rfl⟩
      rw[←hw6]at HR ⊢
      clear hw6 hcut c0 c1 c2 c3 c4 c11' f11 HSET HF3 HF4 hrlt5 hclt5
      have h6:=HR.out.1
      have c0:=h6.at_.get (QO 0 om)
      have c3:w6.cell? ⟨cp,3,none⟩=some (.int .u32 fr):=h6.core.fr
      have c4:w6.cell? ⟨cp,4,none⟩=some (.int .u32 tw):=h6.core.tw
      have f3:=h6.core.frz 3
      have f4:=h6.core.frz 4
      have hrlt6:=h6.rlt
      have hclt6:cp<w6.heap.size:=by have:=h6.lt;omega
      simp only[sM]at c0
      have HS3:=lI (fun n=>by
        have H1:=(h6.below (w':=w6.drewN n) (qB br _)).setFrTo tyR tyS
        exact And.intro H1.1 (((G5.out.trans HR.out.2).trans (G8.below (rp:=rp) (TU:=40) (cp:=cp) (hb:=hb) (po:=po) (vm:=vm) (qB (Below.refl _ w6) n) h6.clt)).trans H1.2))
      clear h6 HR G5
      go_upto_region 3 with(fail)
      go_region
      all_goals
        go_wp2_with fail
        go_end0
        exact⟨rfl,_,(HS3.out 1).1,(HS3.out 1).2⟩
end
end Go.Proofs.YtlfnddmncbkjaabGreatDoor.W
