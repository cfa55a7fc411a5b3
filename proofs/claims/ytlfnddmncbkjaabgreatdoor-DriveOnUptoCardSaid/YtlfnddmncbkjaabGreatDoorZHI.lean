import Derived.Test.YtlfnddmncbkjaabGreatDoorZWDrv8
import Derived.Test.YtlfnddmncbkjaabGreatDoorZWEng8
import Derived.Test.YtlfnddmncbkjaabGreatDoorZWBack4
set_option linter.unusedVariables false
set_option linter.unusedSimpArgs false
set_option maxRecDepth 100000
set_option maxHeartbeats 4000000
namespace Go.Proofs.YtlfnddmncbkjaabGreatDoor.W
open Go.RowKit Fb Go.Lib
theorem engE_rng(m:Mach)(l:List (Int × Int))(r:Int):0≤engE m l r∧engE m l r≤3:=by
  have:=wrong_rng m l
  unfold engE
  (repeat' split)<;>omega
theorem erun_at{pb:Nat}{vm vh vp vd:Value}{us:List UndD}{w0 W:World}{p:PlD}(hp:PAt pb vm vh vp vd us w0 p)(hb:Below w0.heap.size w0 W)(r:Int)(hr:U32 r):
    Calls Tryz.prog 13 #[.agg #[vm,vh],vp,.int .i64 r] W fun e w'=>(∃a1 n1 c1 a2 n2 c2 a3 n3 c3 a4 n4 c4 rm pu st steps,e=.returned (.tuple #[.agg #[.slice a1 n1 c1,.slice a2 n2 c2,.slice a3 n3 c3,.int .i64 steps],.agg #[.int .i64 rm,.slice a4 n4 c4,.int .i64 pu,.int .i64 st],.int .i64 (engE p.m p.ps r)])∧Hid (engE p.m p.ps r=0→steps=(runM p.m p.ps).steps∧JM W.heap.size w' (.slice a1 n1 c1) (.slice a2 n2 c2) (.slice a3 n3 c3) (runM p.m p.ps)))∧Below W.heap.size W w':=by
  have h:=hp.below hb
  have hr':QY r:=by unfold U32 at hr;unfold QY;omega
  refine(erun_own vm vh vp p.m h.wf p.ps r W ⟨ql h.oy,ql h.oh⟩ (ql h.op) (prs_ok h.prs) hr').mono ?_
  rintro e w' ⟨⟨vm2,vh2,vo2,v2,rm,pu,st,zs,steps,rfl,hcase⟩,hb2⟩
  refine⟨?_,hb2⟩
  rcases hcase with⟨hq,-,e2,hE,o1,o2,o3⟩|⟨hq,rfl,rfl,rfl,rfl,rfl,rfl,rfl,rfl⟩
  · have hw:qj p.m p.ps=0:=by
      unfold engQ at hq
      by_cases h0:qj p.m p.ps=0
      · exact h0
      · rw[if_neg h0]at hq;exact absurd hq h0
    have hrm:runM p.m p.ps=qw p.ps (qN p.m):=if_pos hw
    have hsh:=hE.shown
    rw[←hrm]at hsh o1 o2
    obtain⟨_,a1,c1,rfl,-⟩:=hsh.mach.1
    obtain⟨_,a2,c2,rfl,-⟩:=hsh.mach.2
    obtain⟨_,a3,c3,rfl,-⟩:=hsh.out
    obtain⟨a4,c4,rfl,-⟩:=hE.blks.1.open (fun _ _=>rfl) om
    obtain⟨l1,l2,l3,l4,l5⟩:=runM_lim h.wf hw
    refine⟨_,_,_,_,_,_,_,_,_,_,_,_,_,_,_,_,rfl,lI (fun _=>⟨by rw[hrm];exact e2, ?_⟩)⟩
    exact⟨o1,o2,hsh.out,o3,l1,l2,l3,l4,l5⟩
  · exact⟨_,_,_,_,_,_,_,_,_,_,_,_,_,_,_,_,rfl,lI (fun h0=>absurd h0 hq)⟩
theorem JM.keep2{B:Nat}{w w':World}{vm vh vo:Value}{s:St}(h:JM B w vm vh vo s)(hk:∀q,B≤q→q<w.heap.size→w'.heap[q]? =w.heap[q]?):JM B w' vm vh vo s:=
  ⟨qI h.o1 (fun g e=>hk g (h.o1.lt g e).1 (h.o1.lt g e).2),qI h.o2 (fun g e=>hk g (h.o2.lt g e).1 (h.o2.lt g e).2),sl_block' h.out (fun hne g e=>hk g (h.far g e) (ints_lt h.out (fun e2=>hne (by rw[e2];rfl)) e)),h.far,h.wf,h.oks,h.lim⟩
theorem eout_keep{B pb b9 b10 k:Nat}{q steps:Int}{wa wz W':World}{vm vh vo:Value}{s:St}(h:q=0→steps=k∧JM B wa vm vh vo s)(hB:pb+1≤B)(hz:Below wa.heap.size wa wz)(n9:¬(B≤b9∧b9<wa.heap.size))(n10:¬(B≤b10∧b10<wa.heap.size))(hk:∀g,g≠b9→g≠b10→W'.heap[g]? =wz.heap[g]?):
    q=0→steps=k∧JM (pb+1) W' vm vh vo s:=fun e=>
  ⟨(h e).1,((h e).2.keep2 (fun g h1 h2=>(hk g (fun e=>n9 (by rw[←e];exact⟨h1,h2⟩)) (fun e=>n10 (by rw[←e];exact⟨h1,h2⟩))).trans (hz.block g h2))).mono hB⟩
end Go.Proofs.YtlfnddmncbkjaabGreatDoor.W
namespace Go.Proofs.YtlfnddmncbkjaabGreatDoor.Fb
open Go.RowKit
theorem reset1_ok{p:Int × Int}{hs:List Hart}(h:∀x∈hs,x.ok=true):∀x∈reset1 p hs,x.ok=true:=fun x hx=>by
  unfold reset1 at hx
  rcases List.mem_or_eq_of_mem_set hx with hx|rfl
  · exact h x hx
  · have h0:(hs.getD p.1.toNat qz).ok=true:=by
      by_cases hk:p.1.toNat<hs.length
      · rw[List.getD_eq_getElem?_getD,sU hk]
        exact h _ (sR hk)
      · rw[List.getD_eq_getElem?_getD,List.getElem?_eq_none om]
        decide
    unfold Hart.ok at h0 ⊢
    simp only[Bool.and_eq_true]at h0 ⊢
    exact⟨⟨h0.1.1,rfl⟩,h0.2⟩
theorem resets_ok:∀(a:List (Int × Int)) {hs:List Hart},(∀x∈hs,x.ok=true)→∀x∈Jl a hs,x.ok=true
  |[],_,h=>h
  |_::r,_,h=>resets_ok r (reset1_ok h)
theorem backL_ok:∀(us:List JD) {m:Mach},(∀x∈m.harts,x.ok=true)→(∀u∈us,u.was.ok=true)→∀x∈(backL us m).harts,x.ok=true
  |[],_,h,_=>h
  | u :: us, m, h, hu => by
    have h1:=backL_ok us h (fun v hv=>hu v (List.mem_cons_of_mem _ hv))
    show ∀x∈Jl u.lost ((backL us m).harts.set u.hart.toNat u.was),x.ok=true
    refine resets_ok _ (fun x hx=> ?_)
    rcases List.mem_or_eq_of_mem_set hx with hx|rfl
    · exact h1 x hx
    · exact hu u (List.mem_cons_self ..)
theorem back_ok{m:Mach}{us:List JD}{n:Int}(hm:∀x∈m.harts,x.ok=true)(h:(ja m us n).2=0):∀x∈(ja m us n).1.harts,x.ok=true:=by
  unfold ja at h ⊢
  split at h
  · split at h
    · rename_i h1 h2
      rw[if_pos h1,if_pos h2]
      split at h
      · cases h
      · rename_i h3
        rw[if_neg h3]
        refine backL_ok _ hm (fun u hu=> ?_)
        have:=List.all_eq_true.1 h2 u (List.mem_of_mem_drop hu)
        unfold uL at this
        simp only[Bool.and_eq_true]at this
        exact this.2.1.2
    · cases h
  · cases h
end Go.Proofs.YtlfnddmncbkjaabGreatDoor.Fb
namespace Go.Proofs.YtlfnddmncbkjaabGreatDoor.W
open Go.RowKit Fb Go.Lib
structure BRow (B:Nat) (w:World) (vm vh:Value) (m:Mach):Prop where
  o1:w.ownsRow B 5 1 vm m.mem.length (m.mem.map (Value.int .u8))
  o2:w.ownsRow B 43 37 vh m.harts.length (m.harts.flatMap qJ)
  wf:m.Wf
  l1:m.mem.length≤4096
  l2:m.harts.length≤4
theorem BRow.below{B:Nat}{w w':World}{vm vh:Value}{m:Mach}(h:BRow B w vm vh m)(hb:Below w.heap.size w w'):BRow B w' vm vh m:=⟨qP h.o1 hb,qP h.o2 hb,h.wf,h.l1,h.l2⟩
theorem BRow.keep{B:Nat}{w w':World}{vm vh:Value}{m:Mach}(h:BRow B w vm vh m)(hk:∀q,B≤q→w'.heap[q]? =w.heap[q]?):BRow B w' vm vh m:=⟨qI h.o1 (fun g e=>hk g (h.o1.lt g e).1),qI h.o2 (fun g e=>hk g (h.o2.lt g e).1),h.wf,h.l1,h.l2⟩
theorem BRow.mono{B B':Nat}{w:World}{vm vh:Value}{m:Mach}(h:BRow B w vm vh m)(hB:B'≤B):BRow B' w vm vh m:=⟨qe h.o1 hB,qe h.o2 hB,h.wf,h.l1,h.l2⟩
theorem uback_at{pb:Nat}{vm vh vp vd:Value}{us:List UndD}{w0 W:World}{p:PlD}(hp:PAt pb vm vh vp vd us w0 p)(hr:p.ran=true)(n:Int)(hn:U32 n)(hb:Below w0.heap.size w0 W):
    Calls Tryz.prog 36 #[.agg #[vm,vh],vd,.int .i64 n] W fun e w'=>(∃a1 n1 c1 a2 n2 c2,e=.returned (.tuple #[.agg #[.slice a1 n1 c1,.slice a2 n2 c2],.int .i64 (ja p.m p.us n).2])∧Hid (BRow W.heap.size w' (.slice a1 n1 c1) (.slice a2 n2 c2) (ja p.m p.us n).1))∧Below W.heap.size W w':=by
  have h:=hp.below hb
  obtain⟨hu,he,hrg,hul⟩:=h.up hr
  have hn':QY n:=by unfold U32 at hn;unfold QY;omega
  have hl:=congrArg List.length he
  rw[sX]at hl
  refine(back_own vm vh vd p.m h.wf us n W ⟨ql h.oy,ql h.oh⟩ (UR.of_up hu (by rw[he];exact hrg)) hn' om).mono ?_
  rw[he]
  rintro e w' ⟨⟨vm2,vh2,rfl,hm,o1,o2,o3,o4,o5⟩,hb2⟩
  obtain⟨_,a1,c1,rfl,-⟩:=hm.1
  obtain⟨_,a2,c2,rfl,-⟩:=hm.2
  exact⟨⟨_,_,_,_,_,_,rfl,lI ⟨o1,o2,o3,Nat.le_trans o4 h.lim.1,Nat.le_trans o5 h.lim.2.1⟩⟩,hb2⟩
theorem PAt.backd{pb:Nat}{vm vh vp vd vm2 vh2:Value}{us:List UndD}{w:World}{p:PlD}{m2:Mach}(h:PAt pb vm vh vp vd us w p)(o:BRow (pb+1) w vm2 vh2 m2)(oks:∀x∈m2.harts,x.ok=true):
    PAt pb vm2 vh2 vp (.slice none 0 0) [] ((((w.setCell ⟨pb,0,none⟩ vm2).setCell ⟨pb,1,none⟩ vh2).setCell ⟨pb,3,none⟩ (.slice none 0 0)).setCell ⟨pb,4,none⟩ (.bool false)) {p with m:=m2,us:=[],ran:=false}∧Below pb w ((((w.setCell ⟨pb,0,none⟩ vm2).setCell ⟨pb,1,none⟩ vh2).setCell ⟨pb,3,none⟩ (.slice none 0 0)).setCell ⟨pb,4,none⟩ (.bool false)):=by
  have hk:∀q,pb+1≤q→((((w.setCell ⟨pb,0,none⟩ vm2).setCell ⟨pb,1,none⟩ vh2).setCell ⟨pb,3,none⟩ (.slice none 0 0)).setCell ⟨pb,4,none⟩ (.bool false)).heap[q]? =w.heap[q]? :=fun q hq=>
    (((sT _ _ _ _ yP).trans (sT _ _ _ _ yP)).trans (sT _ _ _ _ yP)).trans (sT _ _ _ _ yP)
  refine⟨⟨by simpa using (((h.at_.set 0 zC vm2).set 1 zC vh2).set 3 zC (.slice none 0 0)).set 4 zC (.bool false),fun o=>(sL _ _ _ _).trans ((sL _ _ _ _).trans ((sL _ _ _ _).trans ((sL _ _ _ _).trans (h.frz o)))),qI o.o1 (fun g e=>hk g (o.o1.lt g e).1),qI o.o2 (fun g e=>hk g (o.o2.lt g e).1),qI h.op (fun g e=>hk g (h.op.lt g e).1),(fun e=>by cases e),⟨_,_,_,rfl⟩,o.wf,oks,⟨o.l1,o.l2,h.lim.2.2⟩,h.prs⟩, ?_⟩
  exact((((Below.refl pb w).setCell (p:=⟨pb,0,none⟩) (sN _) _).setCell (p:=⟨pb,1,none⟩) (sN _) _).setCell (p:=⟨pb,3,none⟩) (sN _) _).setCell (p:=⟨pb,4,none⟩) (sN _) _
theorem dR{p:Prop}(h:p:=by
 simp only[Act.put,sD,sE,sG]
 rw[←HWC.out]
 refine hK.out _ _ (KP.out _ hbc).2 (fun hHeld4=> ?_)
 clear hK K
 refine tak 16 (.int .i64 c) ?_
 try simp only[sA,sB,sC,Act.put,sD,sE,sG]
 refine wpAnyH_done kr ?_ _
 clear hHeld4 hHeld3 hHeld2 hHeld
 go_wp2_with fail
 go_meet
 case rel=>exact⟨_,_,_,_,_,_,_,rfl,rfl,HREL⟩):p:=h
theorem dS{p:Prop}(h:p:=by
 go_enter Tryz.func18,Tryz.ntmps18
 go_wp2_with fail
 go_ret
 rw[HS.out]
 exact⟨rfl,⟨_,_,_,_,_,HP.out⟩,Below.refl _ _⟩):p:=h
theorem pback_any{pb:Nat}{vm vh vp vd:Value}{us:List UndD}{w:World}{p:PlD}(hp:PAt pb vm vh vp vd us w p)(n:Int)(hn:U32 n):
    Calls Tryz.prog 18 #[.pointer (some ⟨pb,0,none⟩),.int .u32 n] w fun e w'=>e=.returned (.string (bs (backP p n).1))∧PlAt pb w' (backP p n).2∧Below pb w w':=by
  have HP:=lI hp
  have hlt:=hp.lt
  obtain⟨S,hS⟩:∃S,S=backP p n:=⟨_,rfl⟩
  rw[←hS]
  have c4:=hp.at_.get (j:=4) rfl
  simp only[sM]at c4
  by_cases hr:p.ran=false
  · have HS:Hid (S=(qS,p)):=lI (by rw[hS];exact if_pos (.inl hr))
    rw[hr]at c4
    clear hS hp hr
    exact dS
  · have hr1:p.ran=true:=by simpa using hr
    rw[hr1]at c4
    obtain⟨hu,he,hrg,hul⟩:=hp.up hr1
    have hlen:=congrArg List.length he
    rw[sX]at hlen
    obtain⟨ad,cd,rfl⟩:=qE hu.own
    have c3:=hp.at_.get (j:=3) rfl
    simp only[sM]at c3
    have hll:us.length≤120000:=om
    have hw32:(us.length:Int)%4294967296=us.length:=om
    obtain⟨hn0,hn1⟩:=hn
    have hwn:IntKind.i64.wrap n=n:=zU
    by_cases hbig:(us.length:Int)<n
    · have HS:Hid (S=(qS,p)):=lI (by rw[hS];exact if_pos (.inr (by rw[←hlen];exact hbig)))
      clear hS hp hr hu he hrg hul hlen
      exact dS
    · have HSB:Hid (S=if(ja p.m p.us n).2=0 then(okS,{p with m:=(ja p.m p.us n).1,us:=[],ran:=false})else(qS,p)):=lI (by rw[hS];unfold backP;rw[if_neg (by rw[hr1,←hlen];simp;omega)])
      obtain⟨am,cm,rfl⟩:=qE hp.oy
      obtain⟨ah,ch,rfl⟩:=qE hp.oh
      have c0:=hp.at_.get (j:=0) rfl
      have c1:=hp.at_.get (j:=1) rfl
      simp only[sM]at c0 c1
      have HU:=lI (fun W hW=>uback_at hp hr1 (W:=W) n ⟨hn0,hn1⟩ hW)
      have HBK:=lI (back_ok (us:=p.us) (n:=n) hp.oks)
      have KP:Hid (∀w',Below w.heap.size w w'→Below w.heap.size w w'∧w'.cell? ⟨pb,0,none⟩=some (.slice am p.m.mem.length cm)∧w'.cell? ⟨pb,1,none⟩=some (.slice ah p.m.harts.length ch)∧w'.cell? ⟨pb,3,none⟩=some (.slice ad us.length cd)):=
        lI (fun w' h=>⟨h,(h.cell (p:=⟨pb,0,none⟩) hlt).trans c0,(h.cell (p:=⟨pb,1,none⟩) hlt).trans c1,(h.cell (p:=⟨pb,3,none⟩) hlt).trans c3⟩)
      obtain⟨M,hM⟩:∃M,M=(ja p.m p.us n).1:=⟨_,rfl⟩
      obtain⟨c,hc⟩:∃c,c=(ja p.m p.us n).2:=⟨_,rfl⟩
      rw[←hM]at HSB HU HBK
      rw[←hc]at HSB HU HBK
      clear hS hp hr hu he hrg hul hlen hM hc
      go_enter Tryz.func18,Tryz.ntmps18
      go_upto_region 3 with(fail)
      go_cut [5,6]from 22 to 36 (fun t5 t6 wx=>∃(sb:Nat) (a1:Option Addr) (n1 c1:Nat) (a2:Option Addr) (n2 c2:Nat),t5=.pointer (some ⟨sb,0,none⟩)∧t6=.int .i64 c∧Hid (Below w.heap.size w wx∧At wx sb 0 [.slice a1 n1 c1,.slice a2 n2 c2]∧w.heap.size≤sb∧BRow (pb+1) wx (.slice a1 n1 c1) (.slice a2 n2 c2) M))
      case first=>
        refine wp_region_held_drew (S:=fun w'=>w'.cell? ⟨pb,0,none⟩=some (.slice am p.m.mem.length cm)∧w'.cell? ⟨pb,1,none⟩=some (.slice ah p.m.harts.length ch)∧w'.cell? ⟨pb,3,none⟩=some (.slice ad us.length cd)) kr (KP.out _ (Below.drew br)).2 (fun hHeld=> ?_)
        refine tak 0 (.pointer (some ⟨pb,0,none⟩)) ?_
        try simp only[sA,sB,sC,Act.put,sD,sE,sG]
        refine tak 1 (.pointer (some ⟨pb,0,none⟩)) ?_
        try simp only[sA,sB,sC,Act.put,sD,sE,sG]
        refine tak 2 (.pointer (some ⟨pb,0,none⟩)) ?_
        try simp only[sA,sB,sC,Act.put,sD,sE,sG]
        refine tak 3 (.agg #[.slice am p.m.mem.length cm,.slice ah p.m.harts.length ch]) ?_
        try simp only[sA,sB,sC,Act.put,sD,sE,sG]
        refine tak 4 (.pointer (some ⟨pb,0,none⟩)) ?_
        try simp only[sA,sB,sC,Act.put,sD,sE,sG]
        refine tak 5 (.pointer (some ⟨pb,0,none⟩)) ?_
        try simp only[sA,sB,sC,Act.put,sD,sE,sG]
        refine tak 6 (.pointer (some ⟨pb,3,none⟩)) ?_
        try simp only[sA,sB,sC,Act.put,sD,sE,sG]
        refine tak 7 (.slice ad us.length cd) ?_
        try simp only[sA,sB,sC,Act.put,sD,sE,sG]
        refine tak 8 (.int .u32 n) ?_
        try simp only[sA,sB,sC,Act.put,sD,sE,sG]
        refine tak 9 (.int .i64 n) ?_
        try simp only[sA,sB,sC,Act.put,sD,sE,sG]
        refine wpAnyH_ready (rs:=[10,14]) kr zC ?_
        refine sS rfl (fun K hK=> ?_) (sS rfl (fun K hK=> ?_) AllReadyH.nil)
        · go_simp
          refine(HU.out _ (Below.drew br)).mono ?_
          rintro e wa ⟨⟨a1,n1,c1,a2,n2,c2,rfl,HRU⟩,hbm⟩
          have hba:Below w.heap.size w wa:=(Below.drew br).trans hbm
          refine hK.out _ _ (KP.out _ hba).2 (fun hHeld2=> ?_)
          clear hK K
          refine tak 11 (.tuple #[.agg #[.slice a1 n1 c1,.slice a2 n2 c2],.int .i64 c]) ?_
          try simp only[sA,sB,sC,Act.put,sD,sE,sG]
          refine tak 12 (.agg #[.slice a1 n1 c1,.slice a2 n2 c2]) ?_
          try simp only[sA,sB,sC,Act.put,sD,sE,sG]
          refine tak 13 (.int .i64 c) ?_
          try simp only[sA,sB,sC,Act.put,sD,sE,sG]
          refine wpAnyH_ready (rs:=[14]) kr zC ?_
          refine sS rfl (fun K hK=> ?_) AllReadyH.nil
          go_simp
          obtain⟨wb,hwb⟩:∃wb,wb=wa.alloc (.cells #[.slice none 0 0,.slice none 0 0] 30):=⟨_,rfl⟩
          rw[←hwb]
          have hbb:Below wa.heap.size wa wb:=by rw[hwb];exact Below.alloc br (sN _) _
          have hth:wb.there wa.heap.size 0 2:=by rw[hwb];exact qt (sP _ _) rfl
          refine hK.out _ _ (KP.out _ (hba.trans (hbb.mono hba.size))).2 (fun hHeld3=> ?_)
          clear hK K
          obtain⟨wc,hwc⟩:∃wc,wc=wb.setCells wa.heap.size 0 (#[.slice a1 n1 c1,.slice a2 n2 c2]:Array Value).toList:=⟨_,rfl⟩
          have hac:Below wa.heap.size wa wc:=by rw[hwc];exact qL (sN _) _ _ _ hbb
          have hbc:Below w.heap.size w wc:=hba.trans (hac.mono hba.size)
          have HREL:Hid (Below w.heap.size w wc∧At wc wa.heap.size 0 [.slice a1 n1 c1,.slice a2 n2 c2]∧w.heap.size≤wa.heap.size∧BRow (pb+1) wc (.slice a1 n1 c1) (.slice a2 n2 c2) M):=lI ⟨hbc,by rw[hwc];exact qv hth,hba.size,(HRU.out.below hac).mono (by show pb+1≤w.heap.size;omega)⟩
          have HWC:=lI hwc
          clear hwb hwc hbb
          have hall:(#[.slice a1 n1 c1,.slice a2 n2 c2]:Array Value).all (·.oneCell')=true:=zT
          refine wpAnyH_ready (rs:=[15]) kr zC ?_
          refine sS rfl (fun K hK=> ?_) AllReadyH.nil
          rw[if_pos zK]
          refine wp_store_mid 30 _ _ rfl wa.heap.size 0 (#[.slice a1 n1 c1,.slice a2 n2 c2]) rfl rfl hth yQ hall ?_
          exact dR
        · go_simp
          obtain⟨wb,hwb⟩:∃wb,wb=(w.alloc (.cells #[.slice none 0 0,.slice none 0 0] 30)).drew:=⟨_,rfl⟩
          rw[←hwb]
          have hbb:Below w.heap.size w wb:=by rw[hwb];exact Below.drew (Below.alloc br (sN _) _)
          have hnew:wb.heap[w.heap.size]? =some (.cells #[.slice none 0 0,.slice none 0 0] 30 (0,0)):=by rw[hwb];exact sP w _
          refine hK.out _ _ (KP.out _ hbb).2 (fun hHeld2=> ?_)
          clear hK K hwb
          refine wpAnyH_ready (rs:=[10]) kr zC ?_
          refine sS rfl (fun K hK=> ?_) AllReadyH.nil
          go_simp
          refine(HU.out _ hbb).mono ?_
          rintro e wa ⟨⟨a1,n1,c1,a2,n2,c2,rfl,HRU⟩,hbm⟩
          have hba:Below w.heap.size w wa:=hbb.trans (hbm.mono hbb.size)
          have hth:wa.there w.heap.size 0 2:=qt ((hbm.block _ (qR hnew)).trans hnew) rfl
          refine hK.out _ _ (KP.out _ hba).2 (fun hHeld3=> ?_)
          clear hK K
          refine tak 11 (.tuple #[.agg #[.slice a1 n1 c1,.slice a2 n2 c2],.int .i64 c]) ?_
          try simp only[sA,sB,sC,Act.put,sD,sE,sG]
          refine tak 12 (.agg #[.slice a1 n1 c1,.slice a2 n2 c2]) ?_
          try simp only[sA,sB,sC,Act.put,sD,sE,sG]
          refine tak 13 (.int .i64 c) ?_
          try simp only[sA,sB,sC,Act.put,sD,sE,sG]
          obtain⟨wc,hwc⟩:∃wc,wc=wa.setCells w.heap.size 0 (#[.slice a1 n1 c1,.slice a2 n2 c2]:Array Value).toList:=⟨_,rfl⟩
          have hbc:Below w.heap.size w wc:=by rw[hwc];exact qL (sN _) _ _ _ hba
          have HREL:Hid (Below w.heap.size w wc∧At wc w.heap.size 0 [.slice a1 n1 c1,.slice a2 n2 c2]∧w.heap.size≤w.heap.size∧BRow (pb+1) wc (.slice a1 n1 c1) (.slice a2 n2 c2) M):=lI ⟨hbc,by rw[hwc];exact qv hth,sN _,(HRU.out.keep (fun q hq=>by rw[hwc];exact qT (by have:=qR hnew;omega) _ _ _)).mono (by have:=hbb.size;omega)⟩
          have HWC:=lI hwc
          clear hwc
          have hall:(#[.slice a1 n1 c1,.slice a2 n2 c2]:Array Value).all (·.oneCell')=true:=zT
          refine wpAnyH_ready (rs:=[15]) kr zC ?_
          refine sS rfl (fun K hK=> ?_) AllReadyH.nil
          rw[if_pos zK]
          refine wp_store_mid 30 _ _ rfl w.heap.size 0 (#[.slice a1 n1 c1,.slice a2 n2 c2]) rfl rfl hth yQ hall ?_
          exact dR
      case rest=>
        obtain⟨sb,a1,n1,c1',a2,n2,c2',rfl,rfl,HC⟩:=hcut
        obtain⟨hb,hat,hsb,hrw⟩:=HC.out
        have hpc:=HP.out.below hb
        have HPC:=lI hpc
        have HBC:=lI hb
        have hne:¬sb=pb:=om
        by_cases h0:c=0
        · subst h0
          have HS:Hid (S=(okS,{p with m:=M,us:=[],ran:=false})):=lI (by rw[HSB.out];rfl)
          have HPB:=lI (hpc.backd hrw (HBK.out rfl))
          have z0:=hat.get (j:=0) rfl
          have z1:=hat.get (j:=1) rfl
          have d0:=hpc.at_.get (j:=0) rfl
          have d1:=hpc.at_.get (j:=1) rfl
          have d3:=hpc.at_.get (j:=3) rfl
          have d4:=hpc.at_.get (j:=4) rfl
          simp only[sM]at z0 z1 d0 d1 d3 d4
          have f0:=hpc.frz 0
          have f1:=hpc.frz 1
          have f3:=hpc.frz 3
          have f4:=hpc.frz 4
          clear HC hb hat hrw hpc c0 c1 c3 c4 HSB HBK HU KP hw32 hbig hn0 hn1 hll
          go_wp2_with fail
          go_ret
          rw[HS.out]
          exact⟨rfl,⟨_,_,_,_,_,HPB.out.1⟩,(HBC.out.mono (Nat.le_of_lt hlt)).trans HPB.out.2⟩
        · have HS:Hid (S=(qS,p)):=lI (by rw[HSB.out];exact if_neg h0)
          have hcn:(c !=0)=true:=by simpa using h0
          clear HC hb hat hrw hpc c0 c1 c3 c4 HSB HBK HU KP hw32 hbig hn0 hn1 hll
          go_wp2_with fail
          go_ret
          rw[HS.out]
          exact⟨rfl,⟨_,_,_,_,_,HPC.out⟩,HBC.out.mono (Nat.le_of_lt hlt)⟩
end Go.Proofs.YtlfnddmncbkjaabGreatDoor.W
namespace Go.Proofs.YtlfnddmncbkjaabGreatDoor.Fb
theorem readS_rng(op f x:Int):(QR op f x).op=op∧(0≤(QR op f x).rd∧(QR op f x).rd≤31)∧(0≤(QR op f x).rs1∧(QR op f x).rs1≤31)∧0≤(QR op f x).rs2∧(QR op f x).rs2≤31:=by
  unfold QR
  (repeat' split)<;>(dsimp only;omega)
theorem what_rng{x:Int}{i:InsD}(h:dec x=some i):∀n∈[i.op,i.rd,i.rs1,i.rs2],0≤n∧n≤9223372036854775807:=by
  unfold dec at h
  obtain⟨op,h1,rfl⟩:=Option.map_eq_some_iff.1 h
  have h2:=List.mem_of_find?_eq_some h1
  have h3:1≤op∧op≤59:=by
    have:∀y∈UU,1≤y∧y≤59:=zF
    exact this op h2
  obtain⟨r1,r2,r3,r4⟩:=readS_rng op (qC op).form x
  intro n hn
  simp only[List.mem_cons,List.not_mem_nil,or_false]at hn
  rcases hn with rfl|rfl|rfl|rfl<;>omega
end Go.Proofs.YtlfnddmncbkjaabGreatDoor.Fb
namespace Go.Proofs.YtlfnddmncbkjaabGreatDoor.W
open Go.RowKit Fb Go.Lib
theorem dQ{p:Prop}(h:p:=by
 refine hK.out _ _ (KP.out _ hd) (fun hHeld9=> ?_)
 clear hK K
 clear ba va ha bb hb bc vc hc bd
 refine tak 15 (.string (bs (sayS (sayS [105,115] [op,rd,rs1,rs2]) [imm%4294967296]))) ?_
 try simp only[sA,sB,sC,Act.put,sD,sE,sG]
 refine wpAnyH_done kr ?_ _
 have HD:=lI hd
 clear hd
 go_wp2_with fail
 go_ret
 rw[HS.out]
 exact⟨rfl,HB1.out.trans (HD.out.mono HB1.out.size)⟩):p:=h
theorem pwhat_any{pb:Nat}(x:Int)(hx:U32 x)(w:World)(HE:Hid (Env pb w))(hpb:pb≤w.heap.size):
    Calls Tryz.prog 16 #[.int .u32 x] w fun e w'=>e=.returned (.string (bs (whatS x)))∧Below w.heap.size w w':=by
  have HD:=lI (decode_any x w hx)
  have HI:=lI (fun i (h:dec x=some i)=>what_rng h)
  obtain⟨S,hS⟩:∃S,S=whatS x:=⟨_,rfl⟩
  rw[←hS]
  unfold whatS at hS
  cases hd:dec x with
  | none =>
    rw[hd]at HD hS
    have HS:=lI hS
    clear hS hd HI
    go_enter Tryz.func16,Tryz.ntmps16
    go_wp2_with fail
    refine HD.out.mono ?_
    rintro e w0 ⟨rfl,hb⟩
    have HB:=lI hb
    clear hb
    simp only[qr,i0,Option.getD_none,Option.isSome_none]
    go_wp2_with fail
    go_ret
    rw[HS.out]
    exact⟨rfl,HB.out.alloc HB.out.size _⟩
  | some i =>
    rw[hd]at HD hS
    have r1:=HI.out i hd
    obtain⟨op,rd,rs1,rs2,imm⟩:=i
    simp only[qr,Option.getD_some,Option.isSome_some]at HD
    have HLI:Hid (∀n∈[op,rd,rs1,rs2],0≤n∧n≤9223372036854775807):=lI r1
    have HXU:Hid (∀n∈[imm%4294967296],0≤n∧n≤4294967295):=lI (by intro n hn;rw[List.mem_singleton]at hn;omega)
    have HLEN:Hid ((sayS [105,115] [op,rd,rs1,rs2]).length≤1000000000):=lI (by
      have:=Jz [op,rd,rs1,rs2] [105,115] r1
      simp at this
      omega)
    have HS:=lI hS
    clear hS hd HI r1
    go_enter Tryz.func16,Tryz.ntmps16
    go_wp2_with fail
    refine HD.out.mono ?_
    rintro e w0 ⟨rfl,hb⟩
    obtain⟨w1,hw1⟩:∃w1,w1=w0.alloc (.cells #[.int .i64 op,.int .i64 rd,.int .i64 rs1,.int .i64 rs2,.int .i32 imm] 91):=⟨_,rfl⟩
    have hb1:Below w0.heap.size w0 w1:=zI
    have hs1:w0.heap.size<w1.heap.size:=zO
    have g0:(w1).cell? ⟨w0.heap.size,0,none⟩=some (.int .i64 op):=zA
    have g1:(w1).cell? ⟨w0.heap.size,1,none⟩=some (.int .i64 rd):=zA
    have g2:(w1).cell? ⟨w0.heap.size,2,none⟩=some (.int .i64 rs1):=zA
    have g3:(w1).cell? ⟨w0.heap.size,3,none⟩=some (.int .i64 rs2):=zA
    have g4:(w1).cell? ⟨w0.heap.size,4,none⟩=some (.int .i32 imm):=zA
    have KP:Hid (∀w',Below w1.heap.size w1 w'→w'.cell? ⟨w0.heap.size,0,none⟩=some (.int .i64 op)∧w'.cell? ⟨w0.heap.size,1,none⟩=some (.int .i64 rd)∧w'.cell? ⟨w0.heap.size,2,none⟩=some (.int .i64 rs1)∧w'.cell? ⟨w0.heap.size,3,none⟩=some (.int .i64 rs2)∧w'.cell? ⟨w0.heap.size,4,none⟩=some (.int .i32 imm)):=
      lI (fun w' h=>⟨(h.cell (p:=⟨w0.heap.size,0,none⟩) hs1).trans g0,(h.cell (p:=⟨w0.heap.size,1,none⟩) hs1).trans g1,(h.cell (p:=⟨w0.heap.size,2,none⟩) hs1).trans g2,(h.cell (p:=⟨w0.heap.size,3,none⟩) hs1).trans g3,(h.cell (p:=⟨w0.heap.size,4,none⟩) hs1).trans g4⟩)
    have hs0:=hb.size
    have HB1:=lI (hb.trans (hb1.mono hs0))
    have HE1:=lI (HE.out.keep (HB1.out.mono hpb))
    have HW1:=lI hw1
    have hpb:pb≤w1.heap.size:=om
    have hwi:IntKind.u32.wrap imm=imm%4294967296:=by simp[IntKind.wrap,IntKind.bits,IntKind.signed]
    clear hw1 hb1 hb HD g0 g1 g2 g3 g4 hs1 hs0
    go_upto_region 4 with(fail)
    rw[←HW1.out]
    clear HW1
    refine wp_region_held_drew (S:=fun w'=>w'.cell? ⟨w0.heap.size,0,none⟩=some (.int .i64 op)∧w'.cell? ⟨w0.heap.size,1,none⟩=some (.int .i64 rd)∧w'.cell? ⟨w0.heap.size,2,none⟩=some (.int .i64 rs1)∧w'.cell? ⟨w0.heap.size,3,none⟩=some (.int .i64 rs2)∧w'.cell? ⟨w0.heap.size,4,none⟩=some (.int .i32 imm)) kr (KP.out _ (Below.drew br)) (fun hHeld=> ?_)
    refine tak 0 (.pointer (some ⟨w0.heap.size,0,none⟩)) ?_
    try simp only[sA,sB,sC,Act.put,sD,sE,sG]
    refine tak 1 (.int .i64 op) ?_
    try simp only[sA,sB,sC,Act.put,sD,sE,sG]
    refine tak 2 (.pointer (some ⟨w0.heap.size,1,none⟩)) ?_
    try simp only[sA,sB,sC,Act.put,sD,sE,sG]
    refine tak 3 (.int .i64 rd) ?_
    try simp only[sA,sB,sC,Act.put,sD,sE,sG]
    refine tak 4 (.pointer (some ⟨w0.heap.size,2,none⟩)) ?_
    try simp only[sA,sB,sC,Act.put,sD,sE,sG]
    refine tak 5 (.int .i64 rs1) ?_
    try simp only[sA,sB,sC,Act.put,sD,sE,sG]
    refine tak 6 (.pointer (some ⟨w0.heap.size,3,none⟩)) ?_
    try simp only[sA,sB,sC,Act.put,sD,sE,sG]
    refine tak 7 (.int .i64 rs2) ?_
    try simp only[sA,sB,sC,Act.put,sD,sE,sG]
    refine tak 10 (.pointer (some ⟨w0.heap.size,4,none⟩)) ?_
    try simp only[sA,sB,sC,Act.put,sD,sE,sG]
    refine tak 11 (.int .i32 imm) ?_
    try simp only[sA,sB,sC,Act.put,sD,sE,sG]
    refine tak 12 (.int .u32 (imm%4294967296)) ?_
    try simp only[sA,sB,sC,Act.put,sD,sE,sG]
    refine wpAnyH_ready (rs:=[8,13]) kr zC ?_
    refine sS rfl (fun K hK=> ?_) (sS rfl (fun K hK=> ?_) AllReadyH.nil)
    · go_simp
      obtain⟨wa,ewa⟩:∃x,x=(w1.alloc (.cells #[.int .i64 op,.int .i64 rd,.int .i64 rs1,.int .i64 rs2] 3)).drew:=⟨_,rfl⟩
      rw[←ewa]
      have ba:Below w1.heap.size w1 wa:=yY
      have va:Ints .i64 wa (.slice (some ⟨w1.heap.size,0,none⟩) 4 4) [op,rd,rs1,rs2]:=by rw[ewa];exact(Qu .i64 w1 [op,rd,rs1,rs2] 3 zC).below (Below.drew br)
      have ha:Below w1.heap.size w1 wa:=ba
      clear ewa
      refine hK.out _ _ (KP.out _ ha) (fun hHeld2=> ?_)
      clear hK K
      refine wpAnyH_ready (rs:=[9,13]) kr zC ?_
      refine sS rfl (fun K hK=> ?_) (sS rfl (fun K hK=> ?_) AllReadyH.nil)
      · skip
        go_simp
        refine(UM (pb:=pb) (wd:=[105,115]) zF zC HLI.out va (HE1.out.keep (ha.mono hpb)) (by have:=ha.size;omega)).mono ?_
        rintro e wb ⟨rfl,bb⟩
        have hb:Below w1.heap.size w1 wb:=ha.trans (bb.mono ha.size)
        refine hK.out _ _ (KP.out _ hb) (fun hHeld3=> ?_)
        clear hK K
        refine wpAnyH_ready (rs:=[13]) kr zC ?_
        refine sS rfl (fun K hK=> ?_) AllReadyH.nil
        go_simp
        obtain⟨wc,ewc⟩:∃x,x=wb.alloc (.cells #[.int .u32 (imm%4294967296)] 40):=⟨_,rfl⟩
        rw[←ewc]
        have bc:Below wb.heap.size wb wc:=xG
        have vc:Ints .u32 wc (.slice (some ⟨wb.heap.size,0,none⟩) 1 1) [(imm%4294967296)]:=by rw[ewc];exact Qu .u32 wb [(imm%4294967296)] 40 zC
        have hc:Below w1.heap.size w1 wc:=hb.trans (bc.mono hb.size)
        clear ewc
        refine hK.out _ _ (KP.out _ hc) (fun hHeld4=> ?_)
        clear hK K
        refine wpAnyH_ready (rs:=[14]) kr zC ?_
        refine sS rfl (fun K hK=> ?_) AllReadyH.nil
        go_simp
        refine(JV (pb:=pb) (wd:=sayS [105,115] [op,rd,rs1,rs2]) HLEN.out zC HXU.out vc (HE1.out.keep (hc.mono hpb)) zX).mono ?_
        rintro e wd ⟨rfl,bd⟩
        have hd:Below w1.heap.size w1 wd:=hc.trans (bd.mono hc.size)
        exact dQ
      · skip
        go_simp
        obtain⟨wc,ewc⟩:∃x,x=wa.alloc (.cells #[.int .u32 (imm%4294967296)] 40):=⟨_,rfl⟩
        rw[←ewc]
        have bc:Below wa.heap.size wa wc:=xG
        have vc:Ints .u32 wc (.slice (some ⟨wa.heap.size,0,none⟩) 1 1) [(imm%4294967296)]:=by rw[ewc];exact Qu .u32 wa [(imm%4294967296)] 40 zC
        have hc:Below w1.heap.size w1 wc:=ha.trans (bc.mono ha.size)
        clear ewc
        refine hK.out _ _ (KP.out _ hc) (fun hHeld3=> ?_)
        clear hK K
        refine wpAnyH_ready (rs:=[9]) kr zC ?_
        refine sS rfl (fun K hK=> ?_) AllReadyH.nil
        go_simp
        refine(UM (pb:=pb) (wd:=[105,115]) zF zC HLI.out (va.below bc) (HE1.out.keep (hc.mono hpb)) zX).mono ?_
        rintro e wb ⟨rfl,bb⟩
        have hb:Below w1.heap.size w1 wb:=hc.trans (bb.mono hc.size)
        refine hK.out _ _ (KP.out _ hb) (fun hHeld4=> ?_)
        clear hK K
        refine wpAnyH_ready (rs:=[14]) kr zC ?_
        refine sS rfl (fun K hK=> ?_) AllReadyH.nil
        go_simp
        refine(JV (pb:=pb) (wd:=sayS [105,115] [op,rd,rs1,rs2]) HLEN.out zC HXU.out (vc.below bb) (HE1.out.keep (hb.mono hpb)) (by have:=hb.size;omega)).mono ?_
        rintro e wd ⟨rfl,bd⟩
        have hd:Below w1.heap.size w1 wd:=hb.trans (bd.mono hb.size)
        exact dQ
    · go_simp
      obtain⟨wc,ewc⟩:∃x,x=(w1.alloc (.cells #[.int .u32 (imm%4294967296)] 40)).drew:=⟨_,rfl⟩
      rw[←ewc]
      have bc:Below w1.heap.size w1 wc:=by rw[ewc];exact Below.drew (Below.alloc br (sN _) _)
      have vc:Ints .u32 wc (.slice (some ⟨w1.heap.size,0,none⟩) 1 1) [(imm%4294967296)]:=by rw[ewc];exact(Qu .u32 w1 [(imm%4294967296)] 40 zC).below (Below.drew br)
      have hc:Below w1.heap.size w1 wc:=bc
      clear ewc
      refine hK.out _ _ (KP.out _ hc) (fun hHeld2=> ?_)
      clear hK K
      refine wpAnyH_ready (rs:=[8]) kr zC ?_
      refine sS rfl (fun K hK=> ?_) AllReadyH.nil
      go_simp
      obtain⟨wa,ewa⟩:∃x,x=wc.alloc (.cells #[.int .i64 op,.int .i64 rd,.int .i64 rs1,.int .i64 rs2] 3):=⟨_,rfl⟩
      rw[←ewa]
      have ba:Below wc.heap.size wc wa:=by rw[ewa];exact Below.alloc br (sN _) _
      have va:Ints .i64 wa (.slice (some ⟨wc.heap.size,0,none⟩) 4 4) [op,rd,rs1,rs2]:=by rw[ewa];exact Qu .i64 wc [op,rd,rs1,rs2] 3 zC
      have ha:Below w1.heap.size w1 wa:=hc.trans (ba.mono hc.size)
      clear ewa
      refine hK.out _ _ (KP.out _ ha) (fun hHeld3=> ?_)
      clear hK K
      refine wpAnyH_ready (rs:=[9]) kr zC ?_
      refine sS rfl (fun K hK=> ?_) AllReadyH.nil
      go_simp
      refine(UM (pb:=pb) (wd:=[105,115]) zF zC HLI.out va (HE1.out.keep (ha.mono hpb)) (by have:=ha.size;omega)).mono ?_
      rintro e wb ⟨rfl,bb⟩
      have hb:Below w1.heap.size w1 wb:=ha.trans (bb.mono ha.size)
      refine hK.out _ _ (KP.out _ hb) (fun hHeld4=> ?_)
      clear hK K
      refine wpAnyH_ready (rs:=[14]) kr zC ?_
      refine sS rfl (fun K hK=> ?_) AllReadyH.nil
      go_simp
      refine(JV (pb:=pb) (wd:=sayS [105,115] [op,rd,rs1,rs2]) HLEN.out zC HXU.out (vc.below (ba.trans (bb.mono ba.size))) (HE1.out.keep (hb.mono hpb)) (by have:=hb.size;omega)).mono ?_
      rintro e wd ⟨rfl,bd⟩
      have hd:Below w1.heap.size w1 wd:=hb.trans (bd.mono hb.size)
      exact dQ
end Go.Proofs.YtlfnddmncbkjaabGreatDoor.W
namespace Go.Proofs.YtlfnddmncbkjaabGreatDoor.Fb
open Go.Lib
theorem say_more:∀(l:List Int) (wd:List UInt8),∃r,sayS wd l=wd++r
  |[],wd=>⟨[],(List.append_nil _).symm⟩
  | n :: l, wd => by
    obtain⟨r,h⟩:=say_more l (wd++32::decDigits n.toNat)
    exact⟨32::decDigits n.toNat++r,by rw[show sayS wd (n::l)=sayS (wd++32::decDigits n.toNat) l from rfl,h,List.append_assoc]⟩
theorem look_trim(a b c:Int)(l:List Int):trimPrefix (sayS (sayS (sayS [] [a,b]) [c]) l) [32]=(sayS (sayS (sayS [] [a,b]) [c]) l).drop 1:=by
  obtain⟨r,h⟩:=say_more l (sayS (sayS [] [a,b]) [c])
  rw[h]
  unfold trimPrefix
  have e:∃t,sayS (sayS [] [a,b]) [c]++r=32::t:=⟨_,rfl⟩
  obtain⟨t,e⟩:=e
  rw[e,if_pos (by simp[hasPrefix])]
  rfl
theorem ok_rng{h:Hart}(e:h.ok=true):(0≤h.state∧h.state≤2)∧0≤h.cause∧h.cause≤6:=by
  unfold Hart.ok at e
  simp only[Bool.and_eq_true,Bool.or_eq_true,beq_iff_eq,decide_eq_true_eq]at e
  omega
end Go.Proofs.YtlfnddmncbkjaabGreatDoor.Fb
namespace Go.Proofs.YtlfnddmncbkjaabGreatDoor.W
open Go.RowKit Fb Go.Lib
theorem dP{p:Prop}(h:p:=by
 refine hK.out _ _ (KP.out _ hd) (fun hHeld9=> ?_)
 clear hK K
 clear ba va ha bb hb bc vc hc bd
 refine wpAnyH_ready (rs:=[12]) kr zC ?_
 refine sS rfl (fun K hK=> ?_) AllReadyH.nil
 go_simp
 refine(JV (pb:=pb) (wd:=sayS (sayS [] [st,ca]) [pc]) HLEN2.out om HRG.out (HRO.out _ hd) (HE1.out.keep (hd.mono hpb)) (by have:=hd.size;omega)).mono ?_
 rintro e we ⟨rfl,be⟩
 have he:Below w1.heap.size w1 we:=hd.trans (be.mono hd.size)
 refine hK.out _ _ (KP.out _ he) (fun hHeldX=> ?_)
 clear hK K hd be
 refine wpAnyH_ready (rs:=[13]) kr zC ?_
 refine sS rfl (fun K hK=> ?_) AllReadyH.nil
 go_simp
 refine(HTP.out _).mono ?_
 rintro e wf ⟨rfl,rfl⟩
 refine hK.out _ _ (KP.out _ he) (fun hHeldY=> ?_)
 clear hK K
 refine tak 14 (.string (bs S)) ?_
 try simp only[sA,sB,sC,Act.put,sD,sE,sG]
 refine wpAnyH_done kr ?_ _
 have HD:=lI he
 clear he
 go_wp2_with fail
 go_ret
 exact⟨rfl,HB1.out.trans (HD.out.mono HB1.out.size)⟩):p:=h
theorem plook_any{pb:Nat}{vm vh vp vd:Value}{us:List UndD}{w:World}{p:PlD}(hp:PAt pb vm vh vp vd us w p)(k:Int)(hk:U32 k)(HE:Hid (Env pb w)):
    Calls Tryz.prog 15 #[.pointer (some ⟨pb,0,none⟩),.int .u32 k] w fun e w'=>e=.returned (.string (bs (lookS p k)))∧Below w.heap.size w w':=by
  obtain⟨ah,ch,rfl⟩:=qE hp.oh
  have c1:=hp.at_.get (j:=1) rfl
  simp only[sM]at c1
  have hhl:=hp.lim.2.1
  have hlt:=hp.lt
  obtain⟨hk0,hk1⟩:=hk
  have hw32:(p.m.harts.length:Int)%4294967296=p.m.harts.length:=om
  obtain⟨S,hS⟩:∃S,S=lookS p k:=⟨_,rfl⟩
  rw[←hS]
  unfold lookS at hS
  by_cases hb:(p.m.harts.length:Int)≤k
  · rw[if_pos hb]at hS
    have HS:=lI hS
    clear hS hp
    go_enter Tryz.func15,Tryz.ntmps15
    go_wp2_with fail
    go_ret
    rw[HS.out]
    exact⟨rfl,Below.refl _ _⟩
  · rw[if_neg hb]at hS
    obtain⟨j,rfl⟩:=sQ hk0
    rw[sV]at hS
    have hj:j<p.m.harts.length:=om
    have ej:p.m.harts.getD j qz=p.m.harts[j]:=by rw[List.getD_eq_getElem?_getD,sU hj];rfl
    rw[ej]at hS
    obtain⟨g,rfl,hat⟩:∃g,ah=some ⟨g,0,none⟩∧At w g 0 (p.m.harts.flatMap qJ):=by
      rcases jF hp.oh with⟨e,e2,-⟩|⟨g,cap,e,-,-,-,-,h7,-⟩
      · omega
      · injection e with e1
        exact⟨g,e1,h7⟩
    have hate:=jc hat (fun y hy=>qG (hp.wf.harts y hy)) hj
    have wx:=hp.wf.harts _ (sR hj)
    have ox:=ok_rng (hp.oks _ (sR hj))
    obtain⟨x,hx⟩:∃x,x=p.m.harts[j]:=⟨_,rfl⟩
    rw[←hx]at hate wx ox hS
    have hatx:At w g (j*37) (qQ x).toList:=by simpa[qQ]using hate
    have hszx:(Tryz.prog.info? 43).map (·.size)=some (qQ x).size:=by rw[Ql wx];kernel_rfl
    have hsx37:(qQ qz).size=(qQ x).size:=by rw[Ql wx];rfl
    have honex:=jY x
    obtain⟨w1,hw1⟩:∃w1,w1=w.alloc (.cells (qQ x) 43):=⟨_,rfl⟩
    have hb1:Below w.heap.size w w1:=by rw[hw1];exact Below.alloc br (sN _) _
    have hs1:w.heap.size<w1.heap.size:=zO
    have hat1:At w1 w.heap.size 0 (qJ x):=by rw[hw1];exact QN w (qJ x) _ _
    have x35:=hat1.get (jg wx)
    have x36:=hat1.get (uH wx)
    have x32:=hat1.get (QM wx)
    simp only[sM]at x35 x36 x32
    obtain⟨st,hst⟩:∃y,y=x.state:=⟨_,rfl⟩
    obtain⟨ca,hca⟩:∃y,y=x.cause:=⟨_,rfl⟩
    obtain⟨pc,hpc⟩:∃y,y=x.pc:=⟨_,rfl⟩
    obtain⟨rg,hrg⟩:∃y,y=x.regs:=⟨_,rfl⟩
    rw[←hst]at x35 ox hS
    rw[←hca]at x36 ox hS
    rw[←hpc]at x32 hS
    rw[←hrg]at hS
    have KP:Hid (∀w',Below w1.heap.size w1 w'→w'.cell? ⟨w.heap.size,35,none⟩=some (.int .i64 st)∧w'.cell? ⟨w.heap.size,36,none⟩=some (.int .i64 ca)∧w'.cell? ⟨w.heap.size,32,none⟩=some (.int .u32 pc)):=
      lI (fun w' h=>⟨(h.cell (p:=⟨w.heap.size,35,none⟩) hs1).trans x35,(h.cell (p:=⟨w.heap.size,36,none⟩) hs1).trans x36,(h.cell (p:=⟨w.heap.size,32,none⟩) hs1).trans x32⟩)
    have hr32:rg.length=32:=by rw[hrg];exact wx.len
    have HRO:Hid (∀w',Below w1.heap.size w1 w'→Ints .u32 w' (.slice (some ⟨w.heap.size,0,none⟩) 32 32) rg):=lI (fun w' h=>by
      have h1:At w1 w.heap.size 0 (rg.map (Value.int .u32)):=by rw[hrg];exact At.append_left hat1
      have h2:Ints .u32 w1 (.slice (some ⟨w.heap.size,0,none⟩) rg.length rg.length) rg:=Sl.mk h1 zC (sN _) zZ
      rw[hr32]at h2
      exact h2.below h)
    have HLI:Hid (∀n∈[st,ca],0≤n∧n≤9223372036854775807):=lI (by intro n hn;simp only[List.mem_cons,List.not_mem_nil,or_false]at hn;rcases hn with rfl|rfl<;>omega)
    have hpcu:U32 pc:=by rw[hpc];exact wx.pc
    have HXU:Hid (∀n∈[pc],0≤n∧n≤4294967295):=lI (by intro n hn;rw[List.mem_singleton]at hn;unfold U32 at hpcu;omega)
    have HRG:Hid (∀n∈rg,0≤n∧n≤4294967295):=lI (by intro n hn;rw[hrg]at hn;have:=wx.regs n hn;unfold U32 at this;omega)
    have hl1:=Jz [st,ca] [] HLI.out
    have HLEN:Hid ((sayS [] [st,ca]).length≤1000000000):=lI (by simp at hl1;omega)
    have HLEN2:Hid ((sayS (sayS [] [st,ca]) [pc]).length≤1000000000):=lI (by
      have:=Jz [pc] (sayS [] [st,ca]) (fun n hn=>by have:=HXU.out n hn;omega)
      simp at hl1 this
      omega)
    have hr32':rg.length≤1000000000:=om
    have HTP:Hid (∀W,Calls Tryz.prog 32 #[.string (bs (sayS (sayS (sayS [] [st,ca]) [pc]) rg)),.string ⟨#[32]⟩] W fun e w'=>e=.returned (.string (bs S))∧w'=W):=lI (fun W=>by
      refine(Tryz.strings_TrimPrefix (bs (sayS (sayS (sayS [] [st,ca]) [pc]) rg)) ⟨#[32]⟩ W).mono ?_
      rintro e w' ⟨rfl,rfl⟩
      refine⟨?_,rfl⟩
      rw[hS,←look_trim]
      simp[bs])
    have HB1:=lI hb1
    have HE1:=lI (HE.out.keep (hb1.mono (Nat.le_of_lt hlt)))
    have HW1:=lI hw1
    have hpb:pb≤w1.heap.size:=om
    clear hS hp hat hate ox hx hw1 hb1 hat1 x35 x36 x32 hst hca hpc hrg hl1 hpcu hk0 hk1 hr32
    go_enter Tryz.func15,Tryz.ntmps15
    go_upto_region 4 with(first|(refine Qb rfl 43 _ rfl g (j*37) rfl (qQ x) _ hatx Tryz.underlying43 rfl hszx ?_)|(refine jE rfl 43 _ _ rfl w _ (qQ x) rfl rfl rfl hszx hsx37 honex ?_))
    rw[←HW1.out]
    clear HW1 hatx hszx hsx37 honex c1
    refine wp_region_held_drew (S:=fun w'=>w'.cell? ⟨w.heap.size,35,none⟩=some (.int .i64 st)∧w'.cell? ⟨w.heap.size,36,none⟩=some (.int .i64 ca)∧w'.cell? ⟨w.heap.size,32,none⟩=some (.int .u32 pc)) kr (KP.out _ (Below.drew br)) (fun hHeld=> ?_)
    refine tak 0 (.pointer (some ⟨w.heap.size,35,none⟩)) ?_
    try simp only[sA,sB,sC,Act.put,sD,sE,sG]
    refine tak 1 (.int .i64 st) ?_
    try simp only[sA,sB,sC,Act.put,sD,sE,sG]
    refine tak 2 (.pointer (some ⟨w.heap.size,36,none⟩)) ?_
    try simp only[sA,sB,sC,Act.put,sD,sE,sG]
    refine tak 3 (.int .i64 ca) ?_
    try simp only[sA,sB,sC,Act.put,sD,sE,sG]
    refine tak 6 (.pointer (some ⟨w.heap.size,32,none⟩)) ?_
    try simp only[sA,sB,sC,Act.put,sD,sE,sG]
    refine tak 7 (.int .u32 pc) ?_
    try simp only[sA,sB,sC,Act.put,sD,sE,sG]
    refine tak 10 (.pointer (some ⟨w.heap.size,0,none⟩)) ?_
    try simp only[sA,sB,sC,Act.put,sD,sE,sG]
    refine tak 11 (.slice (some ⟨w.heap.size,0,none⟩) 32 32) ?_
    try simp only[sA,sB,sC,Act.put,sD,sE,sG]
    refine wpAnyH_ready (rs:=[4,8]) kr zC ?_
    refine sS rfl (fun K hK=> ?_) (sS rfl (fun K hK=> ?_) AllReadyH.nil)
    · go_simp
      obtain⟨wa,ewa⟩:∃x,x=(w1.alloc (.cells #[.int .i64 st,.int .i64 ca] 3)).drew:=⟨_,rfl⟩
      rw[←ewa]
      have ba:Below w1.heap.size w1 wa:=yY
      have va:Ints .i64 wa (.slice (some ⟨w1.heap.size,0,none⟩) 2 2) [st,ca]:=by rw[ewa];exact(Qu .i64 w1 [st,ca] 3 zC).below (Below.drew br)
      have ha:Below w1.heap.size w1 wa:=ba
      clear ewa
      refine hK.out _ _ (KP.out _ ha) (fun hHeld2=> ?_)
      clear hK K
      refine wpAnyH_ready (rs:=[5,8]) kr zC ?_
      refine sS rfl (fun K hK=> ?_) (sS rfl (fun K hK=> ?_) AllReadyH.nil)
      · skip
        go_simp
        refine(UM (pb:=pb) (wd:=[]) zF zC HLI.out va (HE1.out.keep (ha.mono hpb)) (by have:=ha.size;omega)).mono ?_
        rintro e wb ⟨rfl,bb⟩
        have hb:Below w1.heap.size w1 wb:=ha.trans (bb.mono ha.size)
        refine hK.out _ _ (KP.out _ hb) (fun hHeld3=> ?_)
        clear hK K
        refine wpAnyH_ready (rs:=[8]) kr zC ?_
        refine sS rfl (fun K hK=> ?_) AllReadyH.nil
        go_simp
        obtain⟨wc,ewc⟩:∃x,x=wb.alloc (.cells #[.int .u32 pc] 40):=⟨_,rfl⟩
        rw[←ewc]
        have bc:Below wb.heap.size wb wc:=xG
        have vc:Ints .u32 wc (.slice (some ⟨wb.heap.size,0,none⟩) 1 1) [pc]:=by rw[ewc];exact Qu .u32 wb [pc] 40 zC
        have hc:Below w1.heap.size w1 wc:=hb.trans (bc.mono hb.size)
        clear ewc
        refine hK.out _ _ (KP.out _ hc) (fun hHeld4=> ?_)
        clear hK K
        refine wpAnyH_ready (rs:=[9]) kr zC ?_
        refine sS rfl (fun K hK=> ?_) AllReadyH.nil
        go_simp
        refine(JV (pb:=pb) (wd:=sayS [] [st,ca]) HLEN.out zC HXU.out vc (HE1.out.keep (hc.mono hpb)) zX).mono ?_
        rintro e wd ⟨rfl,bd⟩
        have hd:Below w1.heap.size w1 wd:=hc.trans (bd.mono hc.size)
        exact dP
      · skip
        go_simp
        obtain⟨wc,ewc⟩:∃x,x=wa.alloc (.cells #[.int .u32 pc] 40):=⟨_,rfl⟩
        rw[←ewc]
        have bc:Below wa.heap.size wa wc:=xG
        have vc:Ints .u32 wc (.slice (some ⟨wa.heap.size,0,none⟩) 1 1) [pc]:=by rw[ewc];exact Qu .u32 wa [pc] 40 zC
        have hc:Below w1.heap.size w1 wc:=ha.trans (bc.mono ha.size)
        clear ewc
        refine hK.out _ _ (KP.out _ hc) (fun hHeld3=> ?_)
        clear hK K
        refine wpAnyH_ready (rs:=[5]) kr zC ?_
        refine sS rfl (fun K hK=> ?_) AllReadyH.nil
        go_simp
        refine(UM (pb:=pb) (wd:=[]) zF zC HLI.out (va.below bc) (HE1.out.keep (hc.mono hpb)) zX).mono ?_
        rintro e wb ⟨rfl,bb⟩
        have hb:Below w1.heap.size w1 wb:=hc.trans (bb.mono hc.size)
        refine hK.out _ _ (KP.out _ hb) (fun hHeld4=> ?_)
        clear hK K
        refine wpAnyH_ready (rs:=[9]) kr zC ?_
        refine sS rfl (fun K hK=> ?_) AllReadyH.nil
        go_simp
        refine(JV (pb:=pb) (wd:=sayS [] [st,ca]) HLEN.out zC HXU.out (vc.below bb) (HE1.out.keep (hb.mono hpb)) (by have:=hb.size;omega)).mono ?_
        rintro e wd ⟨rfl,bd⟩
        have hd:Below w1.heap.size w1 wd:=hb.trans (bd.mono hb.size)
        exact dP
    · go_simp
      obtain⟨wc,ewc⟩:∃x,x=(w1.alloc (.cells #[.int .u32 pc] 40)).drew:=⟨_,rfl⟩
      rw[←ewc]
      have bc:Below w1.heap.size w1 wc:=by rw[ewc];exact Below.drew (Below.alloc br (sN _) _)
      have vc:Ints .u32 wc (.slice (some ⟨w1.heap.size,0,none⟩) 1 1) [pc]:=by rw[ewc];exact(Qu .u32 w1 [pc] 40 zC).below (Below.drew br)
      have hc:Below w1.heap.size w1 wc:=bc
      clear ewc
      refine hK.out _ _ (KP.out _ hc) (fun hHeld2=> ?_)
      clear hK K
      refine wpAnyH_ready (rs:=[4]) kr zC ?_
      refine sS rfl (fun K hK=> ?_) AllReadyH.nil
      go_simp
      obtain⟨wa,ewa⟩:∃x,x=wc.alloc (.cells #[.int .i64 st,.int .i64 ca] 3):=⟨_,rfl⟩
      rw[←ewa]
      have ba:Below wc.heap.size wc wa:=by rw[ewa];exact Below.alloc br (sN _) _
      have va:Ints .i64 wa (.slice (some ⟨wc.heap.size,0,none⟩) 2 2) [st,ca]:=by rw[ewa];exact Qu .i64 wc [st,ca] 3 zC
      have ha:Below w1.heap.size w1 wa:=hc.trans (ba.mono hc.size)
      clear ewa
      refine hK.out _ _ (KP.out _ ha) (fun hHeld3=> ?_)
      clear hK K
      refine wpAnyH_ready (rs:=[5]) kr zC ?_
      refine sS rfl (fun K hK=> ?_) AllReadyH.nil
      go_simp
      refine(UM (pb:=pb) (wd:=[]) zF zC HLI.out va (HE1.out.keep (ha.mono hpb)) (by have:=ha.size;omega)).mono ?_
      rintro e wb ⟨rfl,bb⟩
      have hb:Below w1.heap.size w1 wb:=ha.trans (bb.mono ha.size)
      refine hK.out _ _ (KP.out _ hb) (fun hHeld4=> ?_)
      clear hK K
      refine wpAnyH_ready (rs:=[9]) kr zC ?_
      refine sS rfl (fun K hK=> ?_) AllReadyH.nil
      go_simp
      refine(JV (pb:=pb) (wd:=sayS [] [st,ca]) HLEN.out zC HXU.out (vc.below (ba.trans (bb.mono ba.size))) (HE1.out.keep (hb.mono hpb)) (by have:=hb.size;omega)).mono ?_
      rintro e wd ⟨rfl,bd⟩
      have hd:Below w1.heap.size w1 wd:=hb.trans (bd.mono hb.size)
      exact dP
theorem bytes_getD{l:List Int}(h:jC l)(i:Nat):0≤l.getD i 0∧l.getD i 0<256:=by
  by_cases hi:i<l.length
  · rw[List.getD_eq_getElem?_getD,sU hi]
    have:=h _ (sR hi)
    exact⟨this.1,by have:=this.2;show l[i]<256;omega⟩
  · rw[List.getD_eq_getElem?_getD,List.getElem?_eq_none om]
    decide
theorem ptext_any{pb:Nat}{vm vh vp vd:Value}{us:List UndD}{w:World}{p:PlD}(hp:PAt pb vm vh vp vd us w p)(x:Int)(hx:U32 x)(HE:Hid (Env pb w)):
    Calls Tryz.prog 17 #[.pointer (some ⟨pb,0,none⟩),.int .u32 x] w fun e w'=>e=.returned (.string (bs (showS p x)))∧Below w.heap.size w w':=by
  obtain⟨am,cm,rfl⟩:=qE hp.oy
  have c0:=hp.at_.get (j:=0) rfl
  simp only[sM]at c0
  have hlt:=hp.lt
  have hml:=hp.lim.1
  have HF:=lI (fetch_any (.slice am p.m.mem.length cm) p.m.mem x w (ql hp.oy) hx (bytes_getD hp.wf.mem))
  have HI:=lI (fetchS_ins p.m.mem x)
  obtain⟨S,hS⟩:∃S,S=showS p x:=⟨_,rfl⟩
  rw[←hS]
  unfold showS at hS
  obtain⟨⟨i,c⟩,hic⟩:∃y,y=qc p.m.mem x:=⟨_,rfl⟩
  rw[←hic]at HF HI hS
  clear hp hic
  obtain⟨op,rd,rs1,rs2,imm⟩:=i
  simp only[qr]at HF
  by_cases h0:c=0
  · subst h0
    have hi:=HI.out rfl
    rw[if_pos ⟨rfl,hml⟩,if_pos hi.1]at hS
    have HS:=lI hS
    obtain⟨ht,hw⟩:=hi
    have HPR:Hid (∀W,Below w.heap.size w W→Calls Tryz.prog 35 #[.agg #[.int .i64 op,.int .i64 rd,.int .i64 rs1,.int .i64 rs2,.int .i32 imm]] W fun e w'=>e=.returned (.tuple #[.string (bs S),.int .i64 0])∧Below W.heap.size W w'):=lI (fun W hW=>by
      have hE:=(HE.out.keep (hW.mono (Nat.le_of_lt hlt))).up (C:=W.heap.size) (by have:=hW.size;omega)
      have:=print_any ⟨op,rd,rs1,rs2,imm⟩ hw W (lI hE.t) (lI hE.s)
      rw[if_pos ht,if_pos ht]at this
      rw[hS]
      exact this)
    clear hS HI ht hw
    go_enter Tryz.func17,Tryz.ntmps17
    go_wp2_with fail
    refine HF.out.mono ?_
    rintro e w0 ⟨rfl,hb⟩
    have HB:=lI hb
    have c0':=(hb.cell (p:=⟨pb,0,none⟩) hlt).trans c0
    obtain⟨w1,hw1⟩:∃w1,w1=w0.alloc (.cells #[.int .i64 op,.int .i64 rd,.int .i64 rs1,.int .i64 rs2,.int .i32 imm] 91):=⟨_,rfl⟩
    have hb1:Below w0.heap.size w0 w1:=zI
    have g0:(w1).cell? ⟨w0.heap.size,0,none⟩=some (.int .i64 op):=zA
    have g1:(w1).cell? ⟨w0.heap.size,1,none⟩=some (.int .i64 rd):=zA
    have g2:(w1).cell? ⟨w0.heap.size,2,none⟩=some (.int .i64 rs1):=zA
    have g3:(w1).cell? ⟨w0.heap.size,3,none⟩=some (.int .i64 rs2):=zA
    have g4:(w1).cell? ⟨w0.heap.size,4,none⟩=some (.int .i32 imm):=zA
    have c1:=(hb1.cell (p:=⟨pb,0,none⟩) (by have:=hb.size;show pb<_;omega)).trans c0'
    have HB1:=lI (hb.trans (hb1.mono hb.size))
    have HP1:=lI (HPR.out w1 HB1.out)
    have HW1:=lI hw1
    clear c0 c0' hw1 hb1 hb HF HPR
    go_upto_region 2 with(fail)
    rw[←HW1.out]
    go_wp2_with fail
    refine HP1.out.mono ?_
    rintro e w2 ⟨rfl,hb2⟩
    have HB2:=lI hb2
    clear hb2 g0 g1 g2 g3 g4 c1 HP1
    go_wp2_with fail
    go_ret
    exact⟨rfl,HB1.out.trans (HB2.out.mono HB1.out.size)⟩
  · rw[if_neg (fun h=>h0 h.1)]at hS
    have HS:=lI hS
    have hcn:(c !=0)=true:=by simpa using h0
    clear hS HI
    go_enter Tryz.func17,Tryz.ntmps17
    go_wp2_with fail
    refine HF.out.mono ?_
    rintro e w0 ⟨rfl,hb⟩
    have HB:=lI hb
    clear hb
    go_wp2_with fail
    go_ret
    rw[HS.out]
    exact⟨rfl,HB.out.alloc HB.out.size _⟩
end Go.Proofs.YtlfnddmncbkjaabGreatDoor.W
