import Derived.Test.YtlfnddmncbkjaabGreatDoorZGM
set_option linter.unusedVariables false
set_option linter.unusedSimpArgs false
set_option maxRecDepth 100000
set_option maxHeartbeats 4000000
namespace Go.Proofs.YtlfnddmncbkjaabGreatDoor.W
open Go.RowKit Fb
theorem cu{p:Prop}(h:p:=by
 refine wpAnyH_ready (rs:=[7]) kr zC ?_
 refine sS rfl (fun K hK=> ?_) AllReadyH.nil
 refine Qc zK _ _ _ zK (rp+1) 136 iu _ 41 224 Tryz.underlying32 hiu hiu0 hiu1 hiu2 zK om (.slice av us.length cv) us.length (us.flatMap QJ) zK (qP HUO.out hb15) ⟨w14.heap.size,0,none⟩ 1 1 L zK (by rw[hL41]) hn15 honeL hul2 om om ?_
 intro v' w16 hown hgrow hnew
 have HO:=lI (HPOST.out w15 w16 v' hb15 hown hgrow hnew)
 have g1:=(hgrow.frozen_far ⟨rp,1,none⟩ yM (fun e=>HRPn.out e)).trans ((hb15.frozen (p:=⟨rp,1,none⟩) yM).trans HR1.out)
 have c1:=(hgrow.cell_far ⟨rp,1,none⟩ yM (fun e=>HRPn.out e)).trans (HS.out w15 hb15).1
 have hU16:At w16 w.heap.size 0 L:=fun j hj=>(hgrow.cell_far ⟨w.heap.size,0+j,none⟩ zN (fun e=>HUP.out e)).trans ((HS.out w15 hb15).2 j hj)
 obtain⟨a3,c3',rfl⟩:=qE hown
 clear hown hgrow hnew hn15
 refine hK.out _ _ hU16 (fun hHeld3=> ?_)
 clear hK K
 refine tak 8 (.pointer (some ⟨rp,0,none⟩)) ?_
 try simp only[sA,sB,sC,Act.put,sD,sE,sG]
 refine tak 9 (.pointer (some ⟨rp,1,none⟩)) ?_
 try simp only[sA,sB,sC,Act.put,sD,sE,sG]
 refine wpAnyH_ready (rs:=[10]) kr zC ?_
 refine sS rfl (fun K hK=> ?_) AllReadyH.nil
 go_simp
 refine hK.out _ _ (hU16.set_other (by show rp≠w.heap.size;omega) _) (fun hHeld4=> ?_)
 clear hK K
 refine wpAnyH_done kr ?_ _
 go_wp2_with fail
 first
   |exact sO (results_none zK _ _ _) rfl HO.out
   |(go_end0;exact HO.out)):p:=h
theorem dA{p:Prop}(h:p:=by
 intro j u hu
 have hj:=(List.getElem?_eq_some_iff.1 hu).1
 have hat:At (w14.alloc (.cells L.toArray 136)).drew w14.heap.size 0 L:=QN w14 L _ _
 rw[hw15,show Addr.add ⟨w14.heap.size,0,none⟩ j=⟨w14.heap.size,0+j,none⟩ by unfold Addr.add;split<;>simp_all,hat j hj,←hu,sU hj]):p:=h
theorem ustep_any{rp bp bh hc cp k:Nat}{vm vo v:Value}{o0 o:List Int}{fr tw:Int}{w:World}{s:St}{us:List UndD}(hW:Wk bp bh hc cp k vm vo 40 o0 o fr tw w s)(hR:Rc rp bp w v us)(hA:UpA (fun q=>q≠cp) v us)(hg:s.Good)(hst:(s.hart k).state=0)(hfr:U32 fr)(htw:U32 tw)(ho:∀x∈o,U32 x)(h4:s.harts.length≤4)(g1:bp<rp)(g2:rp<cp)(hus:us.length≤200000)(hss:s.steps≤1000000)(hol:o.length≤40000):
    Calls Tryz.prog 47 #[.pointer (some ⟨rp,0,none⟩),.int .i64 k,.pointer (some ⟨cp,0,none⟩)] w fun e w'=>UStepPost rp bp bh hc cp k vm vo o0 o w s v us e w':=by
  have hml:=hg.wf.mlen
  have hcp:=hW.clt
  have hbb:=hW.b1
  have hkl:=hW.kl
  have wfh:=hg.wf.hart k
  have hszh:(Tryz.prog.info? 43).map (·.size)=some (qQ (s.hart k)).size:=by rw[Ql wfh];kernel_rfl
  have c0:w.cell? ⟨cp,0,none⟩=some (.pointer (some ⟨bh,k*37,none⟩)):=hW.core.ptr
  have hat:At w bh (k*37) (qQ (s.hart k)).toList:=by simpa[qQ]using hW.core.hart
  obtain⟨ul,hul⟩:∃ul,ul=(Value.int .i64 k::(qJ (s.hart k)++[.int .u32 0,.slice none 0 0,.slice none 0 0])).toArray:=⟨_,rfl⟩
  have hul41:ul.size=41:=by rw[hul];simp[jZ wfh.len]
  have HBD:=lI (fun W=>build_undo k (s.hart k) wfh.len W)
  rw[←hul]at HBD
  have hszu:(Tryz.prog.info? 136).map (·.size)=some ul.size:=by rw[hul41];kernel_rfl
  have hone:∀u∈ul.toList,u.oneCell'=true:=by
    rw[hul]
    intro u hu
    simp only[List.toList_toArray,List.mem_cons,List.mem_append,List.not_mem_nil,or_false]at hu
    rcases hu with rfl|hu|rfl|rfl|rfl
    · rfl
    · exact jY (s.hart k) u xO
    all_goals rfl
  obtain⟨w1,hw1⟩:∃w1,w1=w.alloc (.cells ul 136):=⟨_,rfl⟩
  have hb1:Below w.heap.size w w1:=by rw[hw1];exact Below.alloc br (sN _) _
  have HU1:=lI (show w1.heap[w.heap.size]? =some (.cells ul 136 (0,0)) by rw[hw1];exact sP _ _)
  have hs1:w.heap.size<w1.heap.size:=zO
  have HWK1:=lI (hW.below hb1)
  have HRC1:Hid (Rc rp bp w1 v us):=lI (by
    obtain⟨cs,f,ht⟩:=hR.ty
    have hlt:=qR ht
    exact⟨⟨cs,f,(hb1.block rp hlt).trans ht⟩,hR.at_.below hb1,fun o=>(hb1.frozen (p:=⟨rp,o,none⟩) hlt).trans (hR.frz o),hR.up.below hb1⟩)
  have HB1:=lI hb1
  have HW1:=lI hw1
  have HA:Hid (UpA (fun q=>q≠cp∧q<w.heap.size) v us):=lI ⟨fun q e=>⟨hA.1 q e,(hR.up.own.lt q e).2⟩,fun x hx=>⟨fun q e=>⟨(hA.2 x hx).1 q e,((hR.up.byt x hx).lt q e).2⟩,fun q e=>⟨(hA.2 x hx).2 q e,((hR.up.los x hx).lt q e).2⟩⟩⟩
  have HG:=lI hg
  have HST:=lI hst
  have HUL:=lI hul
  clear hW hR hA hg hst hb1 hw1 hul
  go_enter Tryz.func47,Tryz.ntmps47
  go_upto_region 1 with(first|(refine Qb rfl 43 _ rfl bh (k*37) rfl (qQ (s.hart k)) _ hat Tryz.underlying43 rfl hszh ?_)|(refine wpList_buildV rfl 136 _ rfl #[(0,.int .i64 k),(1,.agg (qQ (s.hart k)))] (by first|rfl|(simp[Act.eval,Act.put];done)) _ (HBD.out _) ?_)|(refine jE rfl 136 _ _ rfl w _ ul rfl rfl rfl hszu (by rw[hul41];rfl) hone ?_))
  rw[←HW1.out]
  have hcl1:cp<w1.heap.size:=om
  have HCH:=lI (fun W hW=>clone_harts (.slice (some ⟨bh,0,none⟩) s.harts.length hc) s.harts.length (s.harts.flatMap qJ) W hW (by intro u hu;obtain⟨h,_,hu⟩:=List.mem_flatMap.1 hu;exact jY h u xO) om)
  have HHS:Hid (Sl w1 (.slice (some ⟨bh,0,none⟩) s.harts.length hc) 37 s.harts.length (s.harts.flatMap qJ)):=lI ((HWK1.out.shownH HG.out.wf.harts))
  obtain⟨am,cm,hvm,-⟩:=HWK1.out.core.bytes.open
  have HVM:=lI hvm
  have r0:=HRC1.out.at_.get (j:=0) rfl
  simp only[sM]at r0
  have b1:=HWK1.out.c1
  have m1:w1.cell? ⟨cp,1,none⟩=some vm:=HWK1.out.core.mem
  rw[hvm]at m1
  clear hat c0 hszu hone hvm
  go_wp2_with fail
  refine(HCH.out w1 HHS.out).mono ?_
  rintro e w2 ⟨⟨vw,rfl,hw2,-⟩,hb2⟩
  have hs2:=hb2.size
  have m2:=(hb2.cell (p:=⟨cp,1,none⟩) hcl1).trans m1
  have HWAS:=lI hw2
  have HB2:=lI hb2
  have HCB:=lI (clone_bytes (.slice am s.mem.length cm) s.mem.length (s.mem.map (Value.int .u8)) w2 (by have:=HWK1.out.core.bytes;rw[HVM.out]at this;exact Sl.below this hb2) xA om)
  obtain⟨aw,cw,rfl⟩:=qE hw2
  clear hw2 hb2 m1 b1 r0
  go_wp2_with fail
  refine HCB.out.mono ?_
  rintro e w3 ⟨⟨vb,rfl,hbe,-⟩,hb3⟩
  have hs3:=hb3.size
  obtain⟨ab,cb,rfl⟩:=qE hbe
  have hb3':=lI hb3
  have hb13:Below w1.heap.size w1 w3:=HB2.out.trans (hb3.mono hs2)
  have HW3:=lI (HWK1.out.below hb13)
  have HU3:=lI ((hb13.block w.heap.size hs1).trans HU1.out)
  have HR3:Hid (Rc rp bp w3 v us):=lI (by
    obtain⟨cs,f,ht⟩:=HRC1.out.ty
    have hlt:=qR ht
    exact⟨⟨cs,f,(hb13.block rp hlt).trans ht⟩,HRC1.out.at_.below hb13,fun o=>(hb13.frozen (p:=⟨rp,o,none⟩) hlt).trans (HRC1.out.frz o),HRC1.out.up.below hb13⟩)
  have HWS3:=lI (qP HWAS.out hb3)
  have HBE3:=lI hbe
  obtain⟨d0,hd0⟩:∃d,d=je k s:=⟨_,rfl⟩
  have hd0':d0=goS (⟨s.hart k,s.mem,[],0,0⟩:qF):=hd0
  have hrng:Rng d0:=by rw[hd0'];exact goS_rng (s.hart k) wfh s.mem hml
  have hdm:d0.m.length=s.mem.length:=by rw[hd0'];exact goS_ml _
  have hwd:d0.Wf:=by rw[hd0'];exact goS_wf (HG.out.wf.core k) zC
  have hwc:(⟨s.hart k,s.mem,o,fr,tw⟩:qF).Wf:=⟨wfh,HG.out.wf.mem,ho,hfr,htw,(by show s.mem.length≤_;omega),(by show o.length≤_;omega)⟩
  have HGO:=lI (go_any (d:=⟨s.hart k,s.mem,o,fr,tw⟩) HW3.out.core hwc (by show o.length<_;omega))
  rw[goS_out,show goS (⟨(⟨s.hart k,s.mem,o,fr,tw⟩:qF).h,(⟨s.hart k,s.mem,o,fr,tw⟩:qF).m,[],0,0⟩:qF)=d0 from hd0'.symm]at HGO
  have HD0:=lI hd0
  have HWD:=lI hwd
  have HRNG:=lI hrng
  have HDM:=lI hdm
  clear hbe hb3 hb13 hd0 hd0' hwc hwd hrng hdm m2 HRC1 HWAS HCB HCH HHS HU1
  go_wp2_with fail
  refine HGO.out.mono ?_
  rintro e w4 ⟨rfl,hc4,hg4⟩
  have hs4:=hg4.size
  have hmlt:=HW3.out.mlt
  have hwk4:Wk bp bh hc cp k vm vo 40 o0 (o++d0.out) d0.fr d0.tw w4 ⟨s.harts.set k d0.h,d0.m,s.out,s.steps⟩:=HW3.out.go (d:=d0.pre o) HG.out.wf HWD.out.h hc4 hg4
  have hk4:∀q,q<w3.heap.size→rp≤q→q≠cp→(∀cs f,w3.heap[q]? ≠some (.cells cs 40 f))→w4.heap[q]? =w3.heap[q]? :=fun q h1 h2 h3 hn=>by
    refine hg4.block q h1 om (fun e=>by have:=hmlt q e;omega) ?_
    by_cases h5:q<cp
    · exact .inl h5
    · exact .inr ⟨om,hn⟩
  obtain⟨w5,hw5⟩:∃w5,w5=w4.setCell ⟨bp,3,none⟩ (.int .i64 ((s.steps:Int)+1)):=⟨_,rfl⟩
  have hbk5:∀q,q≠bp→w5.heap[q]? =w4.heap[q]? :=fun q hq=>by rw[hw5];exact sT _ _ _ _ (by show q≠bp;exact hq)
  have hs5:w4.heap.size≤w5.heap.size:=by rw[hw5];simp
  have HW5:Hid (Wk bp bh hc cp k vm vo 40 o0 (o++d0.out) d0.fr d0.tw w5 ⟨s.harts.set k d0.h,d0.m,s.out,s.steps+1⟩):=lI (by
    have:=hwk4.tick (s.steps+1)
    rw[hw5]
    exact this)
  have hk5:∀q,q<w3.heap.size→rp≤q→q≠cp→(∀cs f,w3.heap[q]? ≠some (.cells cs 40 f))→w5.heap[q]? =w3.heap[q]? :=fun q h1 h2 h3 hn=>(hbk5 q om).trans (hk4 q h1 h2 h3 hn)
  have HU5:Hid (w5.heap[w.heap.size]? =some (.cells ul 136 (0,0))):=lI ((hk5 _ om om om (fun cs f e=>by rw[HU3.out]at e;cases e)).trans HU3.out)
  have HR5:Hid (Rc rp bp w5 v us):=lI (HR3.out.kept HA.out (fun q h1 h2=>by
    rcases h2 with rfl|⟨h2,h3,h4⟩
    · obtain⟨cs,f,ht⟩:=HR3.out.ty
      exact hk5 q h1 (sN _) om (fun cs2 f2 e=>by rw[ht]at e;cases e)
    · exact hk5 q h1 om h3.1 h4))
  have HF5:Hid (Fr (UndS rp bp bh cp vm v) w w5):=lI (by
    have f1:Fr (UndS rp bp bh cp vm v) w w1:=Fr.of_below HB1.out (fun j h1 h2=>om)
    have f3:Fr (UndS rp bp bh cp vm v) w w3:=f1.trans (S':=fun j=>w1.heap.size≤j) (Fr.of_below (HB2.out.trans (hb3'.out.mono hs2)) (fun j h1 h2=>h1)) (fun j h1 h2=>om)
    have f4:Fr (UndS rp bp bh cp vm v) w w4:=f3.trans (S':=UndS rp bp bh cp vm v) ⟨hg4.os,hg4.tape,hg4.output,hg4.size,fun j hj hn=>hg4.block j hj (fun e=>hn (.inr (.inr (.inl e)))) (fun e=>hn (.inr (.inr (.inr (.inl e))))) (.inl (Nat.lt_of_not_le (fun e=>hn (.inr (.inr (.inr (.inr (.inr e))))))))⟩ (fun j _ h=>h)
    rw[hw5]
    exact f4.setCell _ _ (.inr (.inl rfl)))
  have HS5:Hid (Shp bp w w5):=lI (by
    have f3:Shp bp w w3:=(Shp.of_below HB1.out om).trans (Shp.of_below (HB2.out.trans (hb3'.out.mono hs2)) om)
    have f4:Shp bp w w4:=f3.trans (fun q hq=>hg4.shape q om om)
    rw[hw5]
    exact f4.set _ _)
  have HWS5:Hid (w5.ownsRow w1.heap.size 43 37 (.slice aw s.harts.length cw) s.harts.length (s.harts.flatMap qJ)):=lI (qI HWS3.out (fun g hg=>by
    obtain⟨cs,f,e⟩:=Qj HWS3.out hg
    have:=(HWS3.out.lt g hg).1
    exact hk5 g (qR e) om om (fun cs2 f2 e2=>by rw[e]at e2;cases e2)))
  have HBE5:Hid (w5.ownsRow w2.heap.size 5 1 (.slice ab s.mem.length cb) s.mem.length (s.mem.map (Value.int .u8))):=lI (qI HBE3.out (fun g hg=>by
    obtain⟨cs,f,e⟩:=Qj HBE3.out hg
    have:=(HBE3.out.lt g hg).1
    exact hk5 g (qR e) om om (fun cs2 f2 e2=>by rw[e]at e2;cases e2)))
  have b3:=hwk4.c3
  have f3:=hwk4.frz 3
  obtain⟨ss,hss'⟩:∃x,x=(s.steps:Int):=⟨_,rfl⟩
  simp only at b3
  rw[←hss']at b3 hw5
  have hsb:0≤ss∧ss≤1000000:=om
  obtain⟨cs0,f0,ht0⟩:=HR3.out.ty
  have r4:=(qA (hk4 rp (qR ht0) (sN _) om (fun cs2 f2 e=>by rw[ht0]at e;cases e)) 0).trans (HR3.out.at_.get (j:=0) rfl)
  have HW5E:=lI hw5
  clear hc4 hg4 hwk4 hk4 hk5 hbk5 hw5 hss' ht0 HR3 HWS3 HBE3 HU3 HGO
  go_upto_region 5 with(fail)
  rw[←HW5E.out]
  clear b3 f3 r4
  have hub:UBx 136 w.heap.size k (s.hart k) (.int .u32 0) (.slice none 0 0) (.slice none 0 0) w5:=⟨wfh.len,by rw[←HUL.out];exact HU5.out⟩
  have u38:w5.cell? ⟨w.heap.size,38,none⟩=some (.int .u32 0):=hub.get 0 _ rfl
  have u39:w5.cell? ⟨w.heap.size,39,none⟩=some (.slice none 0 0):=hub.get 1 _ rfl
  have fu38:=hub.frz 38
  have fu39:=hub.frz 39
  have HUB:=lI hub
  have e3:w5.cell? ⟨cp,3,none⟩=some (.int .u32 d0.fr):=HW5.out.core.fr
  have e4:w5.cell? ⟨cp,4,none⟩=some (.int .u32 d0.tw):=HW5.out.core.tw
  obtain⟨f,hf⟩:∃x,x=d0.fr:=⟨_,rfl⟩
  obtain⟨t,ht⟩:∃x,x=d0.tw:=⟨_,rfl⟩
  rw[←hf]at e3
  rw[←ht]at e4
  have hrg:(f=0∧t=0)∨(0≤f∧f<t∧t≤s.mem.length):=by
    have:=HRNG.out
    unfold Rng at this
    rw[HDM.out,←hf,←ht]at this
    exact this
  have HF:=lI (And.intro hf ht)
  obtain⟨fx,hfx⟩:∃x:Int,x=if f<t then f else 0:=⟨_,rfl⟩
  obtain⟨bs,hbs⟩:∃x:List Int,x=if f<t then(s.mem.drop f.toNat).take (t-f).toNat else []:=⟨_,rfl⟩
  have HFX:=lI hfx
  have HBS:=lI hbs
  have hbl:bs.length≤s.mem.length:=by rw[hbs];split<;>simp<;>omega
  have hcb:s.mem.length≤cb:=by
    obtain⟨_,_,_,e,hh,-⟩:=ql HBE5.out
    injection e with _ _ e2
    omega
  clear hub hf ht hfx hbs
  go_wp2_with fail
  go_region
  go_upto_if 56 with(fail)
  go_cut []from 56 to 76 (fun wx=>∃(vb:Value),Hid (Fr (fun q=>q=w.heap.size) w5 wx∧UBx 136 w.heap.size k (s.hart k) (.int .u32 fx) vb (.slice none 0 0) wx∧Sl wx vb 1 bs.length (bs.map (Value.int .u8))∧∀q,vb.ownBlock=some q→w.heap.size<q))
  case first=>
    by_cases hft:f<t
    · have x1:0≤f:=om
      have x2:f≤t:=om
      have x3:t≤(cb:Int):=om
      have x4:t≤t:=Int.le_refl _
      have x5:0≤t:=om
      have x6:f%4294967296=f:=om
      have x7:t%4294967296=t:=om
      go_wp2_with fail
      go_region
      go_wp2_with fail
      go_meet
      case rel=>
        have hn:t.toNat-f.toNat=(t-f).toNat:=om
        have hF:Fr (fun q=>q=w.heap.size) w5 ((w5.setCell ⟨w.heap.size,38,none⟩ (.int .u32 f)).setCell ⟨w.heap.size,39,none⟩ (.slice (Option.map (fun x=>x.add f.toNat) ab) (t.toNat-f.toNat) (t.toNat-f.toNat))).drew.drew:=Fr.drew (Fr.drew (((Fr.refl (fun q=>q=w.heap.size) w5).setCell ⟨w.heap.size,38,none⟩ _ rfl).setCell ⟨w.heap.size,39,none⟩ _ rfl))
        have ho:∀g,(Value.slice (Option.map (fun x=>x.add f.toNat) ab) (t.toNat-f.toNat) (t.toNat-f.toNat)).ownBlock=some g→(Value.slice ab s.mem.length cb).ownBlock=some g:=fun g hg=>by
          cases ab with
          |none=>cases hg
          | some y =>
            have e:(Addr.add y f.toNat).block=y.block:=by unfold Addr.add;split<;>rfl
            have hg':some (Addr.add y f.toNat).block=some g:=hg
            rw[e]at hg'
            exact hg'
        have hu2:=(HUB.out.set 0 (.int .u32 f) (a':=.int .u32 f) rfl).set 1 (.slice (Option.map (fun x=>x.add f.toNat) ab) (t.toNat-f.toNat) (t.toNat-f.toNat)) rfl
        refine⟨_,lI ⟨hF,by rw[HFX.out,if_pos hft];exact hu2.keep rfl, ?_,fun q hq=> ?_⟩⟩
        · rw[HBS.out,if_pos hft,←hn]
          have h1:=sl_cut3 (ql HBE5.out) (f:=f.toNat) (t:=t.toNat) om om
          refine QX h1 (fun g hg=>hF.block g ?_ ?_)
          · obtain⟨cs,fz,e⟩:=Qj HBE5.out (ho g hg)
            exact qR e
          · intro e2
            obtain⟨cs,fz,e⟩:=Qj HBE5.out (ho g hg)
            rw[show g=w.heap.size from e2,HU5.out]at e
            cases e
        · have:=(HBE5.out.lt q (ho q hq)).1
          omega
    · have hft2:=lI hft
      go_wp2_with fail
      go_meet
      case rel=>
        refine⟨.slice none 0 0,lI ⟨Fr.drew (Fr.refl _ _), ?_, ?_,(by intro q e;cases e)⟩⟩
        · rw[HFX.out,if_neg (by have:=hft2.out;omega)]
          exact HUB.out.keep rfl
        · rw[HBS.out,if_neg (by have:=hft2.out;omega)]
          exact Sl.nil _ _
  case rest=>
    obtain⟨vb,HC⟩:=hcut
    clear u38 u39 fu38 fu39 e3 e4
    have HWX:Hid (Wk bp bh hc cp k vm vo 40 o0 (o++d0.out) d0.fr d0.tw wc ⟨s.harts.set k d0.h,d0.m,s.out,s.steps+1⟩):=lI (HW5.out.kept HC.out.1.size (fun q h1 h2=>HC.out.1.block q h1 (fun e=>by
      have hm:=HW3.out.mlt
      rcases h2 with h2|h2|h2|h2|⟨cs,fz,h2⟩
      · omega
      · omega
      · omega
      · have:=hm q h2;omega
      · rw[show q=w.heap.size from e,HU5.out]at h2;cases h2)))
    have HRX:Hid (Rc rp bp wc v us):=lI (HR5.out.kept HA.out (fun q h1 h2=>HC.out.1.block q h1 (fun e=>by
      have e:q=w.heap.size:=e
      rcases h2 with h2|⟨h2,h3,h4⟩
      · omega
      · have:=h3.2;omega)))
    have HWSX:Hid (wc.ownsRow w1.heap.size 43 37 (.slice aw s.harts.length cw) s.harts.length (s.harts.flatMap qJ)):=lI (qI HWS5.out (fun g hg=>HC.out.1.block g (HWS5.out.lt g hg).2 (fun e=>by
      have:=(HWS5.out.lt g hg).1
      have e:g=w.heap.size:=e
      omega)))
    have HFXX:Hid (Fr (UndS rp bp bh cp vm v) w wc):=lI (HF5.out.trans HC.out.1 (fun j h1 (e:j=w.heap.size)=>om))
    have hsx:=HC.out.1.size
    have HSXX:Hid (Shp bp w wc):=lI (HS5.out.trans (Shp.of_fr HC.out.1 om (fun j h1 (e:j=w.heap.size)=>om)))
    clear HW5 HR5 HWS5 HF5 HU5 HBE5 HUB HW3
    have HGM:Hid (goM k s=⟨QA k d0.fr d0.tw s.harts.length (s.harts.set k d0.h),d0.m,s.out++d0.out,s.steps+1⟩):=lI (by rw[HD0.out];rfl)
    have hwf1:∀x∈s.harts.set k d0.h,x.Wf:=fun x hx=>by
      rcases List.mem_or_eq_of_mem_set hx with hx|rfl
      · exact HG.out.wf.harts _ hx
      · exact HWD.out.h
    have HSO:=lI (fun W (hW:Wk bp bh hc cp k vm vo 40 o0 (o++d0.out) d0.fr d0.tw W ⟨s.harts.set k d0.h,d0.m,s.out,s.steps+1⟩)=>stored_any k d0.fr d0.tw (s.harts.set k d0.h) W hW.c1 hW.harts hW.core.hfz (by have:=hW.b1;omega) hwf1 (by rw[List.length_set];omega) hW.hcap HWD.out.fr HWD.out.tw)
    have r0:=HRX.out.at_.get (j:=0) rfl
    simp only[sM]at r0
    have c3:wc.cell? ⟨cp,3,none⟩=some (.int .u32 d0.fr):=HWX.out.core.fr
    have c4:wc.cell? ⟨cp,4,none⟩=some (.int .u32 d0.tw):=HWX.out.core.tw
    have HWF1:=lI hwf1
    clear hwf1
    go_upto_region 7 with(fail)
    go_still_tail 13,kr
    change wpList _ _ _ _ _ wc.drew
    go_wp2_with fail
    refine(HSO.out _ (HWX.out.below ?hB)).mono ?_
    case hB=>(repeat(first|with_reducible exact Below.refl _ _|with_reducible refine qB ?_ _|with_reducible refine Below.drew ?_))
    rintro e w8 ⟨rfl,hat8,hg8⟩
    have hs8:wc.heap.size≤w8.heap.size:=hg8.size
    have HWK8:Hid (Wk bp bh hc cp k vm vo 40 o0 (o++d0.out) d0.fr d0.tw w8 (goM k s)):=lI (by
      have hwk:=(HWX.out.below (w':=wc.drew) (Below.drew br))
      have hw8:=hwk.lost (hs:=QA k d0.fr d0.tw (s.harts.set k d0.h).length (s.harts.set k d0.h)) (ju (P:=Hart.Wf) HWF1.out (fun _=>uE)) (QF _ _ _ _ _) (fun h'=>by
        have hkl2:k<(s.harts.set k d0.h).length:=by rw[List.length_set];omega
        rw[QT _ _ _ _ _ _ hkl2,if_neg om];exact(St.hart_at (s:=⟨s.harts.set k d0.h,d0.m,s.out,s.steps+1⟩) hkl2).symm) hat8 hg8
      rw[HGM.out]
      have:=hw8.any (s.out++d0.out)
      rw[List.length_set]at this
      exact this)
    have hbk8:∀q,q<wc.heap.size→q≠bh→w8.heap[q]? =wc.heap[q]? :=fun q h1 h2=>hg8.block q h1 (fun _ e=>h2 e)
    have hulx:w.heap.size<wc.heap.size:=HC.out.2.1.lt
    have HUB8:=lI (HC.out.2.1.keep (hbk8 _ hulx om))
    have HVB8:Hid (Sl w8 vb 1 bs.length (bs.map (Value.int .u8))):=lI (sl_fr (S:=fun j=>j=bh) HC.out.2.2.1 ⟨hg8.os,hg8.tape,hg8.output,hg8.size,fun j hj hn=>hbk8 j hj hn⟩ (fun q e (e2:q=bh)=>by
      have:=HC.out.2.2.2 q e
      omega))
    have HRX8:Hid (Rc rp bp w8 v us):=lI (HRX.out.kept HA.out (fun q h1 h2=>hbk8 q h1 (by
      have:=HWK8.out.b1
      rcases h2 with h2|h2<;>omega)))
    have HWS8:Hid (w8.ownsRow w1.heap.size 43 37 (.slice aw s.harts.length cw) s.harts.length (s.harts.flatMap qJ)):=lI (qI HWSX.out (fun g hg=>hbk8 g (HWSX.out.lt g hg).2 (by have:=(HWSX.out.lt g hg).1;omega)))
    have HF8:Hid (Fr (UndS rp bp bh cp vm v) w w8):=lI ((HFXX.out.trans (S':=fun j=>j=bh) (b:=wc) (c:=w8) ⟨hg8.os,hg8.tape,hg8.output,hg8.size,fun j hj hn=>hbk8 j hj hn⟩ (fun j h1 e=>.inr (.inr (.inl e)))))
    have HS8:Hid (Shp bp w w8):=lI (HSXX.out.trans (fun q hq=>hg8.shape q (by show q<wc.heap.size;omega)))
    have HVBO:=lI HC.out.2.2.2
    obtain⟨av,cv,rfl⟩:=qE HRX8.out.up.own
    obtain⟨_,a2,cap2,hvb2,-⟩:=HVB8.out
    subst hvb2
    have hml8:=HWK8.out.mlt
    have HML:=lI hml8
    obtain⟨s8,hs8e⟩:∃x,x=goM k s:=⟨_,rfl⟩
    rw[←hs8e]at HWK8 HGM
    have HL8:Hid (s8.harts.length=s.harts.length):=lI (by rw[hs8e,goM_len])
    have HWF8:Hid (∀x∈s8.harts,x.Wf):=lI (by
      rw[HGM.out]
      have:=ju (P:=Hart.Wf) (k:=k) (fr:=d0.fr) (tw:=d0.tw) (n:=s.harts.length) HWF1.out (fun _=>uE)
      exact this)
    have HS8E:=lI hs8e
    clear hml8 hat8 hg8 hbk8 HC HWX HRX HWSX HFXX HSO r0 c3 c4 hs8e
    go_wp2_with fail
    go_loopw [93] (fun i wr=>∃n:Nat,i=.int .i64 n∧n≤s.harts.length∧w8.heap.size≤wr.heap.size∧∃vl,Hid (Fr (fun q=>q=w.heap.size) w8 wr∧UBx 136 w.heap.size k (s.hart k) (.int .u32 fx) (.slice a2 bs.length cap2) vl wr∧wr.ownsRow w8.heap.size 142 2 vl (jH k s.harts s8.harts n).length ((jH k s.harts s8.harts n).flatMap JG))) (fun i _=>s.harts.length-(intOf i).toNat)
    case atStart=>exact⟨0,rfl,om,sN _,_,lI ⟨Fr.refl _ _,HUB8.out,World.ownsRow_nil _ _ _ _⟩⟩
    case round=>
      obtain⟨n,rfl,hn,hsr,vl,HI⟩:=hrel
      by_cases hlt:n<s.harts.length
      · have hlt8:n<s8.harts.length:=by rw[HL8.out];exact hlt
        have hwkr:Wk bp bh hc cp k vm vo 40 o0 (o++d0.out) d0.fr d0.tw wr s8:=HWK8.out.kept HI.out.1.size (fun q h1 h2=>HI.out.1.block q h1 (fun e=>by
          have hm:=HML.out
          have e:q=w.heap.size:=e
          rcases h2 with h2|h2|h2|h2|⟨cs,fz,h2⟩
          · omega
          · omega
          · omega
          · have:=hm q h2;omega
          · rw[e,HUB8.out.blk]at h2;cases h2))
        have hrcr:Rc rp bp wr (.slice av us.length cv) us:=HRX8.out.kept HA.out (fun q h1 h2=>HI.out.1.block q h1 (fun e=>by
          have e:q=w.heap.size:=e
          rcases h2 with h2|⟨h2,h3,h4⟩
          · omega
          · have:=h3.2;omega))
        have hwsr:wr.ownsRow w1.heap.size 43 37 (.slice aw s.harts.length cw) s.harts.length (s.harts.flatMap qJ):=qI HWS8.out (fun g hg=>HI.out.1.block g (HWS8.out.lt g hg).2 (fun e=>by
          have:=(HWS8.out.lt g hg).1
          have e:g=w.heap.size:=e
          omega))
        obtain⟨bw,rfl,hatw⟩:∃bw,aw=some ⟨bw,0,none⟩∧At wr bw 0 (s.harts.flatMap qJ):=by
          rcases jF hwsr with⟨e,e2,-⟩|⟨g,cap,e,-,-,-,-,h7,-⟩
          · omega
          · injection e with e1
            exact⟨g,e1,h7⟩
        have hel:=jc hatw (fun x hx=>qG (HG.out.wf.harts x hx)) hlt
        have hgel:=jc hwkr.harts (fun x hx=>qG (HWF8.out x hx)) hlt8
        have whn:=HG.out.wf.harts s.harts[n] (sR hlt)
        have wgn:=HWF8.out s8.harts[n] (sR hlt8)
        have r0:=hrcr.at_.get (j:=0) rfl
        simp only[sM]at r0
        have b1:=hwkr.c1
        rw[HL8.out]at b1
        have u40:=HI.out.2.1.get 2 vl rfl
        have fu40:=HI.out.2.1.frz 40
        have g33:=hgel.get (jh wgn)
        have HLN:Hid (jH k s.harts s8.harts (n+1)=jH k s.harts s8.harts n++if n≠k∧s.harts[n].held=true∧s8.harts[n].held=false then [((n:Int),s.harts[n].heldAt)]else []):=lI (by
          show jH k s.harts s8.harts n++lost1 k s.harts s8.harts n=_
          unfold lost1
          rw[List.getD_eq_getElem?_getD,List.getD_eq_getElem?_getD,sU hlt,sU hlt8]
          rfl)
        obtain⟨x,hx⟩:∃x,x=s.harts[n]:=⟨_,rfl⟩
        obtain⟨y,hy⟩:∃y,y=s8.harts[n]:=⟨_,rfl⟩
        rw[←hx]at hel whn HLN
        rw[←hy]at g33 HLN
        obtain⟨yh,hyh⟩:∃b,b=y.held:=⟨_,rfl⟩
        rw[←hyh]at g33 HLN
        obtain⟨w9,hw9⟩:∃w9,w9=wr.alloc (.cells (qQ x) 43):=⟨_,rfl⟩
        have hb9:Below wr.heap.size wr w9:=by rw[hw9];exact Below.alloc br (sN _) _
        have hs9:w9.heap.size=wr.heap.size+1:=by rw[hw9];simp
        have hat9:At w9 wr.heap.size 0 (qJ x):=by rw[hw9];exact QN wr (qJ x) _ _
        have x33:=hat9.get (jh whn)
        have x34:=hat9.get (jl whn)
        simp only[sM]at x33 x34
        have hszx:(Tryz.prog.info? 43).map (·.size)=some (qQ x).size:=by rw[Ql whn];kernel_rfl
        have hsx37:(qQ qz).size=(qQ x).size:=by rw[Ql whn];rfl
        have hatx:At wr bw (n*37) (qQ x).toList:=by simpa[qQ]using hel
        have honex:=jY x
        have hulr:w.heap.size<wr.heap.size:=HI.out.2.1.lt
        have r9:=(hb9.cell (p:=⟨rp,0,none⟩) yM).trans r0
        have b9:=(hb9.cell (p:=⟨bp,1,none⟩) (by show bp<_;omega)).trans b1
        have u9:=(hb9.cell (p:=⟨w.heap.size,40,none⟩) hulr).trans u40
        have fu9:=(hb9.frozen (p:=⟨w.heap.size,40,none⟩) hulr).trans fu40
        have g9:=(hb9.cell (p:=⟨bh,n*37+33,none⟩) (by show bh<_;omega)).trans g33
        have i0:(0:Int)≤(n:Int):=om
        have i1:(n:Int)<(s.harts.length:Int):=om
        obtain⟨al,cl,rfl⟩:=qE HI.out.2.2
        have hhx:U32 x.heldAt:=whn.heldAt
        obtain⟨xh,hxh⟩:∃b,b=x.held:=⟨_,rfl⟩
        obtain⟨xa,hxa⟩:∃b,b=x.heldAt:=⟨_,rfl⟩
        rw[←hxh]at x33 HLN
        rw[←hxa]at x34 hhx HLN
        have HB9:=lI hb9
        have HW9:=lI hw9
        have HLL:=lI (lostN_len k s.harts s8.harts n)
        clear hwkr hrcr hwsr hatw hel hgel wgn hx hy hyh hb9 hw9 hat9 r0 b1 u40 fu40 g33 hxh hxa
        go_upto_region 11 with(first|(refine Qb rfl 43 _ rfl bw (n*37) rfl (qQ x) _ hatx Tryz.underlying43 rfl hszx ?_)|(refine jE rfl 43 _ _ rfl wr _ (qQ x) rfl rfl rfl hszx hsx37 honex ?_))
        rw[←HW9.out]
        clear hatx hszx hsx37 honex
        have HROUND:∀w',Fr (fun q=>q=w.heap.size) w8 w'→∀vl',UBx 136 w.heap.size k (s.hart k) (.int .u32 fx) (.slice a2 bs.length cap2) vl' w'→w'.ownsRow w8.heap.size 142 2 vl' (jH k s.harts s8.harts (n+1)).length ((jH k s.harts s8.harts (n+1)).flatMap JG)→(∃n':Nat,Value.int .i64 ((n:Int)+1)=.int .i64 n'∧n'≤s.harts.length∧w8.heap.size≤w'.heap.size∧∃vl,Hid (Fr (fun q=>q=w.heap.size) w8 w'∧UBx 136 w.heap.size k (s.hart k) (.int .u32 fx) (.slice a2 bs.length cap2) vl w'∧w'.ownsRow w8.heap.size 142 2 vl (jH k s.harts s8.harts n').length ((jH k s.harts s8.harts n').flatMap JG))):=fun w' h1 vl' h2 h3=>
          ⟨n+1,by simp,om,h1.size,vl',lI ⟨h1,h2,h3⟩⟩
        have HRD:=lI HROUND
        have F9:Hid (Fr (fun q=>q=w.heap.size) w8 w9):=lI (HI.out.1.trans (S':=fun j=>wr.heap.size≤j) (Fr.of_below HB9.out (fun j h1 h2=>h1)) (fun j h1 h2=>om))
        have HNO:Hid (¬(n≠k∧xh=true∧yh=false)→∃vl',UBx 136 w.heap.size k (s.hart k) (.int .u32 fx) (.slice a2 bs.length cap2) vl' w9∧w9.ownsRow w8.heap.size 142 2 vl' (jH k s.harts s8.harts (n+1)).length ((jH k s.harts s8.harts (n+1)).flatMap JG)):=lI (fun hno=>⟨_,HI.out.2.1.keep (HB9.out.block _ hulr),by
          rw[HLN.out,if_neg hno,List.append_nil]
          exact qP HI.out.2.2 HB9.out⟩)
        clear HROUND
        by_cases hnk:(n:Int)=k
        · go_wp2_with fail
          go_roundw
          case rel=>
            obtain⟨vl',h1,h2⟩:=HNO.out (fun h=>h.1 om)
            have:=HRD.out _ F9.out vl' h1 h2
            rw[hnk]at this
            exact this
          case measure=>simp[intOf];omega
        · cases xh with
          | false =>
            go_wp2_with fail
            go_roundw
            case rel=>
              obtain⟨vl',h1,h2⟩:=HNO.out (fun h=>by cases h.2.1)
              have:=HRD.out _ F9.out vl' h1 h2
              simpa using this
            case measure=>simp[intOf];omega
          | true =>
            cases yh with
            | true =>
              go_wp2_with fail
              go_roundw
              case rel=>
                obtain⟨vl',h1,h2⟩:=HNO.out (fun h=>by cases h.2.2)
                have:=HRD.out _ F9.out vl' h1 h2
                simpa using this
              case measure=>simp[intOf];omega
            | false =>
              obtain⟨li,hli,hl0,hl1,hl2⟩:=info_parts info_lost
              obtain⟨w10,hw10⟩:∃w10,w10=w9.alloc (.cells #[.int .i64 n,.int .u32 xa] 142):=⟨_,rfl⟩
              have hb10:Below w9.heap.size w9 w10:=by rw[hw10];exact Below.alloc br (sN _) _
              have hs10:w10.heap.size=w9.heap.size+1:=by rw[hw10];simp
              have HAT10:Hid (At w10 (wr.heap.size+1) 0 (JG ((n:Int),xa))):=lI (by rw[←hs9,hw10];exact QN w9 (JG ((n:Int),xa)) _ _)
              have HO10:=lI (qP (qP HI.out.2.2 HB9.out) hb10)
              have HU10:=lI ((HI.out.2.1.keep (HB9.out.block _ hulr)).keep (hb10.block _ om))
              have F10:Hid (Fr (fun q=>q=w.heap.size) w8 w10):=lI (F9.out.trans (S':=fun j=>w9.heap.size≤j) (Fr.of_below hb10 (fun j h1 h2=>h1)) (fun j h1 h2=>om))
              have HW10:=lI hw10
              have hnk':n≠k:=fun e=>hnk om
              have HNK:=lI hnk'
              have hll:(jH k s.harts s8.harts n).length≤4:=by have:=HLL.out;omega
              have hmax:((jH k s.harts s8.harts n).length+1)≤maxLen:=zZ
              clear hw10 hb10 hnk'
              go_upto_region 12 with(fail)
              go_wp2_with (at_builtin;(try rw[←HW10.out]);(refine append_at rfl _ _ 134 rfl w8.heap.size 142 li _ 2 16 Tryz.underlying134 hli hl0 hl1 hl2 rfl zF _ (jH k s.harts s8.harts n).length ((jH k s.harts s8.harts n).flatMap JG) rfl HO10.out _ 1 (JG ((n:Int),xa)) rfl (Sl.mk HAT10.out rfl om zF) (by intro u hu;simp[JG]at hu;rcases hu with rfl|rfl<;>rfl) om hmax om ?h6))
              case h6=>
                intro v' w11 hown hgrow hnew
                obtain⟨a3,c3',rfl⟩:=qE hown
                have hne1:some w.heap.size≠(Value.slice al (jH k s.harts s8.harts n).length cl).ownBlock:=fun e=>by have:=(HO10.out.lt _ e.symm).1;omega
                have hu11:=HU10.out.keep (hgrow.block _ om hne1)
                have u11:=hu11.get 2 _ rfl
                have fu11:=hu11.frz 40
                have HU11:=lI hu11
                have HW11:=lI hown
                have F11:Hid (Fr (fun q=>q=w.heap.size) w8 w11):=lI (F10.out.trans (S':=fun j=>some j=(Value.slice al (jH k s.harts s8.harts n).length cl).ownBlock) (Fr.of_grown hgrow (fun j e=>e)) (fun j h1 h2=>by
                  have:=(HO10.out.lt _ h2.symm).1
                  omega))
                clear hown hgrow hnew x33 x34 r9 b9 g9 u9 fu9 hne1 hu11
                go_wp2_with fail
                go_roundw
                case rel=>
                  have:=HRD.out _ (F11.out.setCell _ _ rfl) _ (HU11.out.set 2 _ rfl) (by
                    rw[HLN.out,if_pos ⟨HNK.out,by first|rfl|trivial,by first|rfl|trivial⟩,sW,List.flatMap_append]
                    refine qI HW11.out (fun g hg=>sT _ _ _ _ ?_)
                    have:=(HW11.out.lt g hg).1
                    show g≠w.heap.size
                    omega)
                  exact this
                case measure=>simp[intOf];omega
      · obtain rfl:n=s.harts.length:=om
        have HWR:Hid (Wk bp bh hc cp k vm vo 40 o0 (o++d0.out) d0.fr d0.tw w8 s8):=HWK8
        have HRR:Hid (Rc rp bp wr (.slice av us.length cv) us):=lI (HRX8.out.kept HA.out (fun q h1 h2=>HI.out.1.block q h1 (fun e=>by
          have e:q=w.heap.size:=e
          rcases h2 with h2|⟨h2,h3,h4⟩
          · omega
          · have:=h3.2;omega)))
        have HVR:=lI (sl_fr HVB8.out HI.out.1 (fun q e (e2:q=w.heap.size)=>by have:=HVBO.out q e;omega))
        have u39:=HI.out.2.1.get 1 _ rfl
        have HCB:=lI (clone_bytes (.slice a2 bs.length cap2) bs.length (bs.map (Value.int .u8)) wr HVR.out xA om)
        have hulr:w.heap.size<wr.heap.size:=HI.out.2.1.lt
        have HUR:=lI hulr
        go_wp2_with fail
        refine HCB.out.mono ?_
        rintro e w13 ⟨⟨vb2,rfl,hbe2,-⟩,hb13⟩
        obtain⟨ab3,cb3,rfl⟩:=qE hbe2
        have hs13:=hb13.size
        have HU13:=HI.out.2.1.keep (hb13.block _ HUR.out)
        have u13:=HU13.get 1 _ rfl
        have fu13:=HU13.frz 39
        obtain⟨w14,hw14⟩:∃w14,w14=w13.setCell ⟨w.heap.size,39,none⟩ (.slice ab3 bs.length cb3):=⟨_,rfl⟩
        have hs14:w14.heap.size=w13.heap.size:=by rw[hw14];simp
        have hbk14:∀q,q≠w.heap.size→w14.heap[q]? =w13.heap[q]? :=fun q hq=>by rw[hw14];exact sT _ _ _ _ (by show q≠w.heap.size;exact hq)
        have HU14:Hid (UBx 136 w.heap.size k (s.hart k) (.int .u32 fx) (.slice ab3 bs.length cb3) vl w14):=lI (by rw[hw14];exact HU13.set 1 _ rfl)
        have HB14:Hid (w14.ownsRow wr.heap.size 5 1 (.slice ab3 bs.length cb3) bs.length (bs.map (Value.int .u8))):=lI (qI hbe2 (fun g hg=>hbk14 g (by have:=(hbe2.lt g hg).1;omega)))
        have HO14:Hid (w14.ownsRow w8.heap.size 142 2 vl (jH k s.harts s8.harts s.harts.length).length ((jH k s.harts s8.harts s.harts.length).flatMap JG)):=lI (qI (qP HI.out.2.2 hb13) (fun g hg=>hbk14 g (by have:=(HI.out.2.2.lt g hg).1;omega)))
        have HF14:Hid (Fr (fun q=>q=w.heap.size) w8 w14):=lI (by
          have f13:Fr (fun q=>q=w.heap.size) w8 w13:=HI.out.1.trans (S':=fun j=>wr.heap.size≤j) (Fr.of_below hb13 (fun j h1 h2=>h1)) (fun j h1 h2=>om)
          rw[hw14]
          exact f13.setCell _ _ rfl)
        have HR14:Hid (Rc rp bp w14 (.slice av us.length cv) us):=lI (HRX8.out.kept HA.out (fun q h1 h2=>HF14.out.block q h1 (fun e=>by
          have e:q=w.heap.size:=e
          rcases h2 with h2|⟨h2,h3,h4⟩
          · omega
          · have:=h3.2;omega)))
        have HW14:=lI hw14
        clear hw14 hbk14 hbe2 hb13 HCB u39
        go_upto_region 15 with(fail)
        rw[←HW14.out]
        clear u13 fu13 HU13 HRR HVR HI
        obtain⟨L,hL⟩:∃L,L=Value.int .i64 k::(qJ (s.hart k)++[.int .u32 fx,.slice ab3 bs.length cb3,vl]):=⟨_,rfl⟩
        have HBS2:Hid (∀W:World,(Instr.buildSlice 32 1 #[(0,.agg L.toArray)]).run Tryz.prog W=.ok (.slice (some ⟨W.heap.size,0,none⟩) 1 1) (W.alloc (.cells L.toArray 136))):=lI (fun W=>by rw[hL];exact buildSlice_undo k (s.hart k) wfh.len _ _ _ W)
        have hL41:L.length=41:=by rw[hL];simp[jZ wfh.len]
        have honeL:∀u∈L,u.oneCell'=true:=by
          obtain⟨alv,clv,hvl⟩:=qE HO14.out
          rw[hL,hvl]
          intro u hu
          simp only[List.mem_cons,List.mem_append,List.not_mem_nil,or_false]at hu
          rcases hu with rfl|hu|rfl|rfl|rfl
          · rfl
          · exact jY (s.hart k) u xO
          all_goals rfl
        have HPOST:Hid (∀(w15 w16:World) (v':Value),Below w14.heap.size w14 w15→w16.ownsRow (rp+1) 136 41 v' (us.length+1) (us.flatMap QJ++L)→w15.grownBy w16 (Value.slice av us.length cv).ownBlock→(∀q,v'.ownBlock=some q→(Value.slice av us.length cv).ownBlock=some q∨w15.heap.size≤q)→UStepPost rp bp bh hc cp k vm vo o0 o w s (.slice av us.length cv) us (.returned (.tuple #[])) (w16.setCell ⟨rp,1,none⟩ v')):=lI (fun w15 w16 v' hb hown hgrow hnew=>by
          have hs15:=hb.size
          have hs16:=hgrow.size
          have hul3:w.heap.size<w14.heap.size:=HU14.out.lt
          have hcp8:=HWK8.out.clt
          have hrow:∀q,(Value.slice av us.length cv).ownBlock=some q→rp<q∧q≠cp∧q<w.heap.size∧∃cs f,w8.heap[q]? =some (.cells cs 136 f):=fun q e=>⟨(HRX8.out.up.own.lt q e).1,(HA.out.1 q e).1,(HA.out.1 q e).2,Qj HRX8.out.up.own e⟩
          have f15:Fr (fun q=>q=w.heap.size∨(Value.slice av us.length cv).ownBlock=some q) w8 w15:=(HF14.out.mono (fun j _ e=>.inl e)).trans (S':=fun j=>w14.heap.size≤j) (Fr.of_below hb (fun j h1 h2=>h1)) (fun j h1 h2=>by have:=HF14.out.size;omega)
          have f16:Fr (fun q=>q=w.heap.size∨(Value.slice av us.length cv).ownBlock=some q) w8 w16:=f15.trans (S':=fun j=>some j=(Value.slice av us.length cv).ownBlock) (Fr.of_grown hgrow (fun j e=>e)) (fun j h1 h2=>.inr h2.symm)
          have f17:Fr (fun q=>q=w.heap.size∨(Value.slice av us.length cv).ownBlock=some q∨q=rp) w8 (w16.setCell ⟨rp,1,none⟩ v'):=(f16.mono (fun j _ e=>by rcases e with e|e;exact .inl e;exact .inr (.inl e))).setCell _ _ (.inr (.inr rfl))
          have hd:(⟨⟨k,s.hart k,fx,bs,jH k s.harts s8.harts s.harts.length⟩,.slice ab3 bs.length cb3,vl⟩:UndD).d=undoOf k s:=by
            show(⟨k,s.hart k,fx,bs,jH k s.harts s8.harts s.harts.length⟩:JD)=undoOf k s
            unfold undoOf
            rw[HFX.out,HBS.out,HF.out.1,HF.out.2,HD0.out,HS8E.out]
          obtain⟨xu,hxu⟩:∃x,x=(⟨⟨k,s.hart k,fx,bs,jH k s.harts s8.harts s.harts.length⟩,.slice ab3 bs.length cb3,vl⟩:UndD):=⟨_,rfl⟩
          rw[←hxu]at hd
          have hlx:QJ xu=L:=by rw[hxu,hL];rfl
          have hup:=Up.snoc (x:=xu) (by decide:136≠5) (by decide:136≠142) (HR14.out.up.below hb) (by rw[hxu];exact HG.out.wf.hart k) (by rw[hxu];exact qe (qP HB14.out hb) om) (by rw[hxu];exact qe (qP HO14.out hb) om) (by rw[hlx];exact hown) hgrow
          obtain⟨cs0,f0,ht0⟩:=HR14.out.ty
          have hrl:rp<w14.heap.size:=qR ht0
          have ht15:=(hb.block rp hrl).trans ht0
          have hrpn:some rp≠(Value.slice av us.length cv).ownBlock:=fun e=>by have:=(hrow rp e.symm).1;omega
          have ht16:=(hgrow.block rp om hrpn).trans ht15
          have hat16:At w16 rp 0 [.pointer (some ⟨bp,0,none⟩),.slice av us.length cv]:=fun j hj=>(qA ((hgrow.block rp om hrpn).trans (hb.block rp hrl)) _).trans (HR14.out.at_ j hj)
          have hvo:∀q,v'.ownBlock=some q→q≠cp:=fun q e=>by
            rcases hnew q e with e2|e2
            · exact(hrow q e2).2.1
            · have:=HF14.out.size
              omega
          refine⟨rfl,v',xu,hd, ?_,⟨jO ⟨cs0,f0,ht16⟩, ?_,fun o=>(sL _ _ _ _).trans ((qK ((hgrow.block rp om hrpn).trans (hb.block rp hrl)) o).trans (HR14.out.frz o)), ?_⟩,⟨hvo,fun z hz=> ?_⟩, ?_, ?_⟩
          · rw[←HS8E.out,←HD0.out]
            refine HWK8.out.kept f17.size (fun q h1 h2=>f17.block q h1 (fun e=> ?_))
            have hm:=HML.out
            rcases e with e|e|e
            · rcases h2 with h2|h2|h2|h2|⟨cs,fz,h2⟩
              · omega
              · omega
              · omega
              · have:=hm q h2;omega
              · rw[e,HUB8.out.blk]at h2;cases h2
            · obtain⟨g3,g4,g5,cs2,fz2,g6⟩:=hrow q e
              have:=HWK8.out.b1
              rcases h2 with h2|h2|h2|h2|⟨cs,fz,h2⟩
              · omega
              · omega
              · omega
              · have:=hm q h2;omega
              · rw[g6]at h2;cases h2
            · have:=HWK8.out.b1
              rcases h2 with h2|h2|h2|h2|⟨cs,fz,h2⟩
              · omega
              · omega
              · omega
              · have:=hm q h2;omega
              · obtain⟨cs2,f2,e2⟩:=HRX8.out.ty
                rw[e,e2]at h2;cases h2
          · exact hat16.set 1 zC v'
          · refine hup.keep (fun q h1 h2 _=>sT _ _ _ _ ?_)
            show q≠rp
            omega
          · rcases List.mem_append.1 hz with hz|hz
            · exact⟨fun q e=>((HA.out.2 z hz).1 q e).1,fun q e=>((HA.out.2 z hz).2 q e).1⟩
            · rw[List.mem_singleton]at hz
              rw[hz,hxu]
              refine⟨fun q e=> ?_,fun q e=> ?_⟩
              · have:=(HB14.out.lt q e).1
                omega
              · have:=(HO14.out.lt q e).1
                omega
          · refine HF8.out.trans f17 (fun j h1 h2=> ?_)
            rcases h2 with h2|h2|h2
            · omega
            · exact .inr (.inr (.inr (.inr (.inl h2))))
            · exact .inl h2
          · exact HS8.out.trans (Shp.of_fr f17 om (fun j h1 h2=>by
              have:=HWK8.out.b1
              rcases h2 with h2|h2|h2
              · omega
              · have:=(hrow j h2).1;omega
              · omega)))
        have HLE:=lI hL
        clear hL
        have HS:Hid (∀W,Below w14.heap.size w14 W→W.cell? ⟨rp,1,none⟩=some (.slice av us.length cv)∧At W w.heap.size 0 L):=lI (fun W hb=>⟨(hb.cell (p:=⟨rp,1,none⟩) yM).trans (HR14.out.at_.get (j:=1) rfl),by rw[HLE.out];exact HU14.out.at_.below hb⟩)
        have HR1:=lI (HR14.out.frz 1)
        have HUO:=lI (HR14.out.up.own)
        have hszL:(Tryz.prog.info? 136).map (·.size)=some L.length:=by rw[hL41];kernel_rfl
        obtain⟨iu,hiu,hiu0,hiu1,hiu2⟩:=info_parts info_undo
        have HRPn:Hid (some rp≠(Value.slice av us.length cv).ownBlock):=lI (fun e=>by have:=(HUO.out.lt rp e.symm).1;omega)
        have hul2:us.length+1≤maxLen:=zZ
        have hbd:Below w14.heap.size w14 w14.drew:=Below.drew br
        refine wp_region_held_drew (S:=fun W=>At W w.heap.size 0 L) kr (HS.out _ hbd).2 (fun hHeld=> ?_)
        refine tak 0 (.pointer (some ⟨rp,0,none⟩)) ?_
        try simp only[sA,sB,sC,Act.put,sD,sE,sG]
        refine tak 1 (.pointer (some ⟨rp,0,none⟩)) ?_
        try simp only[sA,sB,sC,Act.put,sD,sE,sG]
        refine tak 2 (.pointer (some ⟨rp,0,none⟩)) ?_
        try simp only[sA,sB,sC,Act.put,sD,sE,sG]
        refine tak 3 (.pointer (some ⟨rp,1,none⟩)) ?_
        try simp only[sA,sB,sC,Act.put,sD,sE,sG]
        refine wpAnyH_take (i:=5) (v:=.agg L.toArray) rfl kr kr kr (fun _ _ _ h=>h) (yieldsIf_load_mid zK 136 _ rfl w.heap.size 0 rfl L _ (fun w' hw j v hv=>by have hj:=(List.getElem?_eq_some_iff.1 hv).1;rw[hw j hj,←hv,sU hj]) Tryz.underlying136 rfl hszL) (by assumption) ?_
        try simp only[sA,sB,sC,Act.put,sD,sE,sG]
        have HUP:Hid (some w.heap.size≠(Value.slice av us.length cv).ownBlock):=lI (fun e=>by have:=(HA.out.1 _ e.symm).2;omega)
        have hul3:w.heap.size<w14.heap.size:=HU14.out.lt
        clear hs14
        refine wpAnyH_ready (rs:=[4,6]) kr zC ?_
        refine sS rfl (fun K hK=> ?_) (sS rfl (fun K hK=> ?_) AllReadyH.nil)
        · have ld1:=(HS.out _ hbd).1
          go_simp
          refine hK.out _ _ hHeld (fun hHeldL=> ?_)
          clear hK K ld1
          refine wpAnyH_ready (rs:=[6]) kr zC ?_
          refine sS rfl (fun K hK=> ?_) AllReadyH.nil
          obtain⟨w15,hw15⟩:∃w15,w15=(w14.alloc (.cells L.toArray 136)).drew:=⟨_,rfl⟩
          have hb15:Below w14.heap.size w14 w15:=by rw[hw15];exact Below.drew (Below.alloc br (sN _) _)
          have hs15:w15.heap.size=w14.heap.size+1:=by rw[hw15];show(w14.alloc _).heap.size=_;simp
          have hn15:∀j u,L[j]? =some u→w15.cell? ((⟨w14.heap.size,0,none⟩:Addr).add j)=some u:=by
            exact dA
          have HW15:=lI hw15
          refine Qm rfl _ _ rfl (.agg L.toArray) rfl w15 (.slice (some ⟨w14.heap.size,0,none⟩) 1 1) (by rw[hw15];exact HBS2.out w14.drew) ?_
          refine hK.out _ _ (HS.out _ hb15).2 (fun hHeld2=> ?_)
          clear hK K hw15
          exact cu
        · obtain⟨w15,hw15⟩:∃w15,w15=(w14.alloc (.cells L.toArray 136)).drew:=⟨_,rfl⟩
          have hb15:Below w14.heap.size w14 w15:=by rw[hw15];exact Below.drew (Below.alloc br (sN _) _)
          have hs15:w15.heap.size=w14.heap.size+1:=by rw[hw15];show(w14.alloc _).heap.size=_;simp
          have hn15:∀j u,L[j]? =some u→w15.cell? ((⟨w14.heap.size,0,none⟩:Addr).add j)=some u:=by
            exact dA
          have HW15:=lI hw15
          refine Qm rfl _ _ rfl (.agg L.toArray) rfl w15 (.slice (some ⟨w14.heap.size,0,none⟩) 1 1) (by rw[hw15];exact HBS2.out w14.drew) ?_
          refine hK.out _ _ (HS.out _ hb15).2 (fun hHeld2=> ?_)
          clear hK K hw15
          refine wpAnyH_ready (rs:=[4]) kr zC ?_
          refine sS rfl (fun K hK=> ?_) AllReadyH.nil
          have ld1:=(HS.out _ hb15).1
          go_simp
          refine hK.out _ _ (HS.out _ hb15).2 (fun hHeldL=> ?_)
          clear hK K ld1
          exact cu
end Go.Proofs.YtlfnddmncbkjaabGreatDoor.W
