import Derived.Test.YtlfnddmncbkjaabGreatDoorZHD
set_option linter.unusedVariables false
set_option linter.unusedSimpArgs false
set_option maxRecDepth 100000
set_option maxHeartbeats 4000000
namespace Go.Proofs.YtlfnddmncbkjaabGreatDoor.Fb
open Go.RowKit
theorem qh{w:World}{b o:Nat}{cs:Array Value}{t:TypeId}{v:Value}(h:w.heap[b]? =some (.cells cs t (0,0)))(hv:cs[o]? =some v):w.cell? ⟨b,o,none⟩=some v:=by
  simp only[World.cell?,h];exact hv
theorem trap_goM{s:St}(g:s.Good){k:Nat}(hk:k<s.harts.length)(he:(QS s.mem (s.hart k).pc).2=[])(c:qF)(hc:c=goS (⟨s.hart k,s.mem,[],0,0⟩:qF)):goM k s=⟨s.harts.set k c.h,c.m,s.out++c.out,s.steps+1⟩:=by
  have hm:=g.wf.mlen
  have e2:(QS s.mem (s.hart k).pc).2=rowS s.mem 16 (s.hart k).pc:=by unfold QS;rw[if_neg om]
  rw[e2,row_step]at he
  have hf:¬(qc s.mem (s.hart k).pc).2=0:=fun e=>by rw[if_pos e]at he;cases he
  have hfr:c.fr=0∧c.tw=0:=by rw[hc];unfold goS;rw[if_neg hf];exact⟨rfl,rfl⟩
  have hwf:c.Wf:=by rw[hc];exact goS_wf (g.wf.core k) zC
  have hw:∀h∈s.harts.set k c.h,h.Wf:=fun h hh=>by
    rcases List.mem_or_eq_of_mem_set hh with h1|h1
    · exact g.wf.harts h h1
    · rw[h1];exact hwf.h
  have e:goM k s=⟨QA k c.fr c.tw s.harts.length (s.harts.set k c.h),c.m,s.out++c.out,s.steps+1⟩:=by rw[hc];rfl
  have h0:=loseTo_none k _ hw
  rw[List.length_set]at h0
  rw[e,hfr.1,hfr.2,h0]
theorem jU.goM_trap{s:St}{k:Nat}{room:Int}{zs:List BlkD}(h:jU s.mem room zs)(he:(QS s.mem (s.hart k).pc).2=[])(hm:s.mem.length≤4096):jU (goM k s).mem room zs:=by
  have e2:(QS s.mem (s.hart k).pc).2=rowS s.mem 16 (s.hart k).pc:=by unfold QS;rw[if_neg om]
  rw[e2,row_step]at he
  have hf:¬(qc s.mem (s.hart k).pc).2=0:=fun e=>by rw[if_pos e]at he;cases he
  have e:(goM k s).mem=s.mem:=by
    show(goS (⟨s.hart k,s.mem,[],0,0⟩:qF)).m=_
    unfold goS
    rw[if_neg hf]
    rfl
  rw[e];exact h
theorem goS_ol1{s:St}(g:s.Good){k:Nat}(hs:(s.hart k).state=0):(goS (⟨s.hart k,s.mem,[],0,0⟩:qF)).out.length≤1:=by
  have:=(goS_fin (s.hart k) s.mem (g.hart k) hs).ol
  omega
end Go.Proofs.YtlfnddmncbkjaabGreatDoor.Fb
namespace Go.Proofs.YtlfnddmncbkjaabGreatDoor.W
open Go.RowKit Fb
theorem einfo_u32:(Tryz.prog.info? 40).map (fun i=>(i.zero,i.size,i.bytes))=some (some (.int .u32 0),1,4):=by kernel_rfl
structure Ee (ep mp bp bh hc:Nat) (vm vo:Value) (room:Int) (w:World) (s:St) (pu st:Int) (v:Value) (zs:List BlkD) (n:Nat):Prop where
  bd:Bd bp bh hc vm vo 40 w s
  b:EnB (fun q=>ep<q) 84 62 91 ep mp bp w room pu st v zs
  c:EnC (fun q=>ep<q) Tryz.prog 40 211 ep mp w zs n
  tot:(zs.length:Int)+pu+st=n∧0≤pu∧0≤st
  ok:jU s.mem room zs
  good:s.Good
  geo:bp<ep∧mp≠bp∧mp≠bh∧vm.ownBlock≠some mp
def EngT(ep mp bp bh:Nat)(vm vo:Value)(j:Nat):Prop:=j=ep∨j=mp∨j=bp∨j=bh∨vm.ownBlock=some j∨vo.ownBlock=some j
def TurnPost(ep mp bp bh hc k N:Nat)(vm vo:Value)(room:Int)(s:St)(n:Nat)(w:World)(e:Ending)(w':World):Prop:=
  e=.returned (.tuple #[])∧∃(vo' v':Value) (zs':List BlkD) (pu' st':Int) (n':Nat),Ee ep mp bp bh hc vm vo' room w' (qk k N s) pu' st' v' zs' n'∧n≤n'∧n'≤n+N∧(0<N→(s.hart k).state=0→(QS s.mem (s.hart k).pc).2≠[]→1≤n')∧Fr (EngT ep mp bp bh vm vo) w w'∧Sh bh vm w w'
theorem vo_apart{ep mp bp:Nat}{A:Nat→Prop}{w:World}{room pu st:Int}{v vo:Value}{zs:List BlkD}{n B k:Nat}{xs:List Value}(h:w.ownsRow B 40 1 vo k xs)(hb:EnB A 84 62 91 ep mp bp w room pu st v zs)(hc:EnC A Tryz.prog 40 211 ep mp w zs n):∀q,vo.ownBlock=some q→q≠ep∧q≠mp∧¬Row3 62 91 211 w q:=fun q hq=>by
  obtain⟨cs,f,h1⟩:=Qj h hq
  obtain⟨cs2,f2,h2⟩:=hb.ty
  obtain⟨_,D,⟨es,clock,h3,_⟩,_⟩:=hc
  refine⟨fun e=> ?_,fun e=> ?_,fun h4=>(row3_not h4).1 cs f h1⟩
  · rw[e,h2]at h1;cases h1
  · rw[e,h3]at h1;cases h1
structure TurnFin (ep mp bp bh cp k N:Nat) (vm:Value) (room:Int) (w wz:World) (s sz:St) (o:List Int) (pu st:Int) (zs:List BlkD) (n n':Nat):Prop where
  pk:qk k N s=sz
  good:sz.Good
  out:sz.out=s.out++o
  tot:(zs.length:Int)+pu+st=n'∧0≤pu∧0≤st
  ok:jU sz.mem room zs
  le:n≤n'
  le2:n'≤n+N
  did:0<N→(s.hart k).state=0→(QS s.mem (s.hart k).pc).2≠[]→1≤n'
  fr:Fr (EngS ep mp bp bh cp vm) w wz
  geo:bp<ep∧mp≠bp∧mp≠bh∧vm.ownBlock≠some mp
  far:w.heap.size<cp
  shp:Sh bh vm w wz
theorem turn_end{ep mp bp bh hc cp k N:Nat}{vm vo v3 v:Value}{room:Int}{w wz w9:World}{s sz:St}{o:List Int}{fr tw pu st:Int}{zs:List BlkD}{n n':Nat}(hwk:Wk bp bh hc cp k vm vo 40 s.out o fr tw wz sz)(hEB:EnB (fun q=>ep<q∧q≠cp) 84 62 91 ep mp bp wz room pu st v zs)(hEC:EnC (fun q=>ep<q∧q≠cp) Tryz.prog 40 211 ep mp wz zs n')
    (hva:∀q,vo.ownBlock=some q→q≠ep∧q≠mp∧¬Row3 62 91 211 wz q) (hown:w9.ownsRow (bp+1) 40 1 v3 (s.out.length+o.length) (s.out.map (Value.int .u32)++o.map (Value.int .u32))) (hg:wz.drew.grownBy w9 vo.ownBlock) (hf:TurnFin ep mp bp bh cp k N vm room w wz s sz o pu st zs n n'):
    TurnPost ep mp bp bh hc k N vm vo room s n w (.returned (.tuple #[])) (w9.setCell ⟨bp,2,none⟩ v3):=by
  obtain⟨g1,g2,g3,g4⟩:=hf.geo
  have hbd:=(hwk.below (w':=wz.drew) (Below.drew br)).stop hown hg
  have e3:({sz with out:=s.out++o}:St)=sz:=by rw[←hf.out]
  rw[e3]at hbd
  have hblk:∀q,q<wz.heap.size→vo.ownBlock≠some q→q≠bp→(w9.setCell ⟨bp,2,none⟩ v3).heap[q]? =wz.heap[q]? :=fun q h1 h2 h3=>(sT _ _ _ _ (by show q≠bp;exact h3)).trans (hg.block q h1 (fun e=>h2 e.symm))
  have hb:EnB (fun q=>ep<q) 84 62 91 ep mp bp (w9.setCell ⟨bp,2,none⟩ v3) room pu st v zs:=(hEB.keep (TM:=211) (fun q h=>h.1) (fun q h1 h2=>hblk q h1 (fun e=>by
    obtain⟨a1,a2,a3⟩:=hva q e
    exact h2.elim a1 (fun h=>a3 h.2.2)) om)).weak (fun q _ h=>h.1)
  have hc':EnC (fun q=>ep<q) Tryz.prog 40 211 ep mp (w9.setCell ⟨bp,2,none⟩ v3) zs n':=(hEC.keep (TB:=62) (TI:=91) (fun q h=>h.1) (fun q h1 h2=>hblk q h1 (fun e=>by
    obtain⟨a1,a2,a3⟩:=hva q e
    exact h2.elim a2 (fun h=>a3 h.2.2)) om)).weak (fun q _ h=>h.1)
  refine⟨rfl,v3,v,zs,pu,st,n',⟨by rw[hf.pk];exact hbd,hb,hc',hf.tot,by rw[hf.pk];exact hf.ok,by rw[hf.pk];exact hf.good,hf.geo⟩,hf.le,hf.le2,hf.did,⟨hg.os.trans hf.fr.os,hg.tape.trans hf.fr.tape,hg.output.trans hf.fr.output,by have h1:=hf.fr.size;have h2:wz.heap.size≤w9.heap.size:=hg.size;simp;omega,fun q hq hn=> ?_⟩,hf.shp.trans (b:=wz) ((show Sh bh vm wz w9 from Sh.of_grown (a:=wz.drew) hg (fun q hq=>by
    have h1:=hwk.b1
    have h2:=hwk.b2
    have h3:=hwk.clt
    have h4:q<bp:=by rcases hq with rfl|e;exact h1;exact(hwk.mlt q e).1
    exact⟨by show q<wz.heap.size;omega,fun e=>by have:=(hwk.own.lt q e.symm).1;omega⟩)).set _ _)⟩
  have hfar:=hf.far
  have hns:¬EngS ep mp bp bh cp vm q:=fun h=>by
    rcases h with h|h|h|h|h|h
    · exact hn (.inl h)
    · exact hn (.inr (.inl h))
    · exact hn (.inr (.inr (.inl h)))
    · exact hn (.inr (.inr (.inr (.inl h))))
    · exact hn (.inr (.inr (.inr (.inr (.inl h)))))
    · omega
  exact(hblk q (by have:=hf.fr.size;omega) (fun e=>hn (.inr (.inr (.inr (.inr (.inr e)))))) (fun e=>hn (.inr (.inr (.inl e))))).trans (hf.fr.block q hq hns)
theorem eturn_any{ep mp bp bh hc:Nat}{vm vo:Value}{room:Int}{w:World}{s:St}{pu st:Int}{v:Value}{zs:List BlkD}{n:Nat}(hE:Ee ep mp bp bh hc vm vo room w s pu st v zs n)(k N:Nat)(hk:k<s.harts.length)(h4:s.harts.length≤4)(hN:N≤400)(hn:n≤500000)(hss:s.steps≤500000):
    Calls Tryz.prog 30 #[.pointer (some ⟨ep,0,none⟩),.agg #[.int .i64 k,.int .i64 N]] w fun e w'=>TurnPost ep mp bp bh hc k N vm vo room s n w e w':=by
  obtain⟨g1,g2,g3,g4⟩:=hE.geo
  have hep:=hE.b.lt
  have hml:=hE.good.wf.mlen
  have hbhb:=hE.bd.b1
  obtain⟨w1,hw1⟩:∃w1,w1=w.alloc (.cells #[.int .i64 k,.int .i64 N] 47):=⟨_,rfl⟩
  have hb1:Below w.heap.size w w1:=zI
  have hs1:w1.heap.size=w.heap.size+1:=zO
  have hP1:w1.heap[w.heap.size]? =some (.cells #[.int .i64 k,.int .i64 N] 47 (0,0)):=xJ
  have r0:w1.cell? ⟨w.heap.size,0,none⟩=some (.int .i64 k):=zA
  have hbd:=lI (hE.bd.below hb1)
  have HB1:=lI (hE.b.below hb1)
  have HC1:=lI (hE.c.below hb1)
  have e0:=HB1.out.at_.get (j:=0) rfl
  simp only[sM]at e0
  have HCO:=lI (core_any k w1.drew (hbd.out.below (Below.drew br)) hk h4)
  have HTOT:=lI hE.tot
  have HOK:=lI hE.ok
  have HG:=lI hE.good
  have HBW1:=lI hb1
  have HP:=lI hP1
  have HW1:=lI hw1
  clear hE hb1 hw1 hP1
  go_enter Tryz.func30,Tryz.ntmps30
  go_upto_region 1 with(fail)
  rw[←HW1.out]
  refine wp_region_held_drew (S:=fun W=>W.cell? ⟨ep,0,none⟩=some (.pointer (some ⟨bp,0,none⟩))∧W.cell? ⟨w.heap.size,0,none⟩=some (.int .i64 k)) kr ⟨e0,r0⟩ (fun hHeld=> ?_)
  refine tak 0 (.pointer (some ⟨ep,0,none⟩)) ?_
  try simp only[sA,sB,sC,Act.put,sD,sE,sG]
  refine tak 1 (.pointer (some ⟨ep,0,none⟩)) ?_
  try simp only[sA,sB,sC,Act.put,sD,sE,sG]
  refine tak 2 (.pointer (some ⟨ep,0,none⟩)) ?_
  try simp only[sA,sB,sC,Act.put,sD,sE,sG]
  refine tak 3 (.pointer (some ⟨bp,0,none⟩)) ?_
  try simp only[sA,sB,sC,Act.put,sD,sE,sG]
  refine tak 4 (.pointer (some ⟨w.heap.size,0,none⟩)) ?_
  try simp only[sA,sB,sC,Act.put,sD,sE,sG]
  refine tak 5 (.int .i64 k) ?_
  try simp only[sA,sB,sC,Act.put,sD,sE,sG]
  refine wpAnyH_ready (rs:=[6]) kr zC ?_
  refine sS rfl (fun K hK=> ?_) AllReadyH.nil
  go_simp
  refine HCO.out.mono ?_
  rintro e w5 ⟨nd,rfl,hw5⟩
  obtain⟨cp,hcp⟩:∃cp,cp=w1.heap.size:=⟨_,rfl⟩
  have hds:w1.drew.heap.size=cp:=hcp.symm
  have hwk:=((hbd.out.below (Below.drew br)).start (tC:=113) (k:=k) HG.out.wf hk).drewN nd
  rw[←hw5]at hwk
  rw[hds]at hwk ⊢
  have hb5:Below w1.heap.size w1 w5:=by rw[hw5];exact qB (Below.alloc (Below.drew br) (sN _) _) _
  have hs5:=hb5.size
  have hcl:=hwk.clt
  have B5:=(HB1.out.weak (A':=fun q=>ep<q∧q≠cp) (fun q h1 h2=>⟨h2,om⟩)).below hb5
  have C5:=(HC1.out.weak (A':=fun q=>ep<q∧q≠cp) (fun q h1 h2=>⟨h2,om⟩)).below hb5
  have HP5:=lI ((hb5.block w.heap.size om).trans HP.out)
  have HE5:Hid (Eg ep mp bp bh hc cp k vm vo room s.out [] w5 s pu st v zs n):=lI ⟨hwk,B5,C5,HTOT.out,HOK.out,HG.out,by simp,⟨g1,om,g2,g3,g4⟩,fun q hq=>by
      obtain⟨h1,h2,-⟩:=vo_apart hwk.own B5 C5 q hq
      exact⟨h1,h2⟩⟩
  have x0:=(hb5.cell (p:=⟨ep,0,none⟩) (qD e0)).trans e0
  have x1:=(hb5.cell (p:=⟨w.heap.size,0,none⟩) (qD r0)).trans r0
  refine hK.out _ _ ⟨x0,x1⟩ (fun hHeld2=> ?_)
  clear hK K
  refine tak 7 (.pointer (some ⟨cp,0,none⟩)) ?_
  try simp only[sA,sB,sC,Act.put,sD,sE,sG]
  refine wpAnyH_done kr ?_ _
  have HF5:Hid (Fr (EngS ep mp bp bh cp vm) w w5):=lI (Fr.of_below (HBW1.out.trans (hb5.mono om)) (fun j h1 h2=>om))
  have hlt0:∀q,(q=bh∨vm.ownBlock=some q)→q<bp:=fun q hq=>by rcases hq with rfl|e;exact hbhb;exact(hwk.mlt q e).1
  have HL0:=lI hlt0
  have HS5:Hid (Sh bh vm w w5):=lI (Sh.of_below (HBW1.out.trans (hb5.mono om)) (fun q hq=>by have:=hlt0 q hq;omega))
  clear hlt0
  have p1:=qh (o:=1) HP5.out rfl
  have hwc:w.heap.size<cp:=om
  have hwl:w.heap.size<w5.heap.size:=om
  have hcl5:cp<w5.heap.size:=om
  clear hHeld hHeld2 x0 x1 e0 r0 hwk B5 C5 hb5 HCO HB1 HC1 hbd hw5 HP hcp hds hs1 hs5 HW1 HBW1
  go_wp2_with fail
  go_loopw [5] (fun i wr=>∃(left:Nat) (s1:St) (o:List Int) (v':Value) (zs':List BlkD) (pu' st':Int) (n':Nat),i=.int .i64 left∧left≤N∧w5.heap.size≤wr.heap.size∧Hid (Eg ep mp bp bh hc cp k vm vo room s.out o wr s1 pu' st' v' zs' n'∧qk k N s=qk k left s1∧s1.harts.length=s.harts.length∧s1.steps+left≤s.steps+N∧o.length+left≤N∧n≤n'∧n'+left≤n+N∧(left<N→1≤n')∧(left=N→s1=s)∧Fr (EngS ep mp bp bh cp vm) w wr∧wr.heap[w.heap.size]? =some (.cells #[.int .i64 k,.int .i64 N] 47 (0,0)))∧Hid (Sh bh vm w wr)) (fun i _=>(intOf i).toNat)
  case atStart=>exact⟨N,s,[],v,zs,pu,st,n,rfl,sN _,sN _,lI ⟨HE5.out,rfl,rfl,sN _,by simp,sN _,sN _,fun h=>absurd h om,fun _=>rfl,HF5.out,HP5.out⟩,HS5⟩
  case round=>
    obtain⟨left,s1,o,v',zs',pu',st',n',rfl,hle,hsz,HR,HSR⟩:=hrel
    obtain⟨i1,i2,i3,i4,i5,i6,i7,i8,i9,i10,i11⟩:=HR.out
    have wfh:=i1.good.wf.hart k
    have hp0:wr.cell? ⟨cp,0,none⟩=some (.pointer (some ⟨bh,k*37,none⟩)):=i1.wk.core.ptr
    have hg35:wr.cell? ⟨bh,k*37+35,none⟩=some (.int .i64 (s1.hart k).state):=i1.wk.core.hart.get (jg wfh)
    have hg32:wr.cell? ⟨bh,k*37+32,none⟩=some (.int .u32 (s1.hart k).pc):=i1.wk.core.hart.get (QM wfh)
    have hob:s.out.length+o.length≤1000000:=by
      have h1:=HG.out.ol
      omega
    obtain⟨sx,hsx⟩:∃x,x=(s1.hart k).state:=⟨_,rfl⟩
    obtain⟨pc,hpc⟩:∃x,x=(s1.hart k).pc:=⟨_,rfl⟩
    rw[←hsx]at hg35
    rw[←hpc]at hg32
    have HSX:=lI hsx
    have HPC:=lI hpc
    have HEG:=lI i1
    have HI:=lI (And.intro i2 (And.intro i3 (And.intro i4 (And.intro i5 (And.intro i6 (And.intro i7 (And.intro i8 i9)))))))
    have HF:=lI i10
    have HPB:=lI i11
    have hpu:U32 pc:=by rw[hpc];exact wfh.pc
    have hn':n'≤999999:=om
    have hss':s1.steps≤1000000:=om
    have hol4:o.length≤40000:=om
    have h41:s1.harts.length≤4:=om
    clear hsx hpc i1 i2 i3 i4 i5 i6 i7 i8 i9 i10 i11 HR wfh
    by_cases hgo:0<left∧sx=0
    · obtain⟨hl0,rfl⟩:=hgo
      have hl0':(0:Int)<(left:Int):=om
      have HFI:=lI (efind_any (A:=fun q=>ep<q∧q≠cp) (fun _ h=>h.1) (fun q hq=>by have:=HEG.out.wk.clt;have:=HEG.out.geo.2.1;omega) vm s1.mem HEG.out.b HEG.out.c HEG.out.tot HEG.out.ok pc hpu HEG.out.wk.c0 g1 HEG.out.wk.core.bytes HEG.out.good.wf.mem HEG.out.good.wf.mlen om)
      go_wp2_with fail
      refine HFI.out.mono ?_
      rintro e w6 ⟨vi,vc,l,rfl,hbl,hfr,hcase⟩
      obtain⟨ai,ci,rfl,-⟩:=hbl.open (fun _ _=>rfl) om
      have hs6:=hfr.size
      obtain⟨w7,hw7⟩:∃w7,w7=w6.alloc (.cells #[.int .u32 pc,.slice ai l.length ci] 62):=⟨_,rfl⟩
      have hb7:Below w6.heap.size w6 w7:=by rw[hw7];exact Below.alloc br (sN _) _
      have hs7:w6.heap.size<w7.heap.size:=by rw[hw7];simp
      have b0:(w7).cell? ⟨w6.heap.size,0,none⟩=some (.int .u32 pc):=by rw[hw7];go_cell
      have b1:(w7).cell? ⟨w6.heap.size,1,none⟩=some (.slice ai l.length ci):=by rw[hw7];go_cell
      have HW7:=lI hw7
      have hclr:=HEG.out.wk.clt
      obtain⟨ge1,ge2,ge3,ge4,ge5⟩:=HEG.out.geo
      have hmp:=HEG.out.c.1
      have hmlt:=HEG.out.wk.mlt
      clear hw7 HFI
      rcases hcase with⟨hl,hmk,hb6⟩|⟨K,hsl,hty,v2,zs2,pu2,n2,B2,C2,T2,O2,N1,N2,N3⟩
      · subst hl
        have E7:Eg ep mp bp bh hc cp k vm vo room s.out o w7 s1 pu' st' v' zs' n':=HEG.out.below (hb6.trans (hb7.mono hs6))
        have hpb7:=((hb6.trans (hb7.mono hs6)).block w.heap.size om).trans HPB.out
        have hp7:w7.cell? ⟨cp,0,none⟩=some (.pointer (some ⟨bh,k*37,none⟩)):=E7.wk.core.ptr
        obtain⟨d0,hd0⟩:∃d,d=goS (⟨s1.hart k,s1.mem,[],0,0⟩:qF):=⟨_,rfl⟩
        have hgm:=trap_goM E7.good E7.wk.kl (by rw[←HPC.out];exact hmk) d0 hd0
        have hne:=trap_turn E7.wk.kl E7.good.wf.mlen (by rw[←HPC.out];exact hmk)
        have hwd:d0.Wf:=by rw[hd0];exact goS_wf (E7.good.wf.core k) zC
        have hwc':(⟨s1.hart k,s1.mem,o,0,0⟩:qF).Wf:=⟨E7.good.wf.hart k,E7.good.wf.mem,fun x hx=>E7.good.wf.out x (by rw[E7.out];simp[hx]),jp,jp,(by show s1.mem.length≤_;have:=E7.good.wf.mlen;omega),(by show o.length≤_;omega)⟩
        have HGO:=lI (go_any (d:=⟨s1.hart k,s1.mem,o,0,0⟩) E7.wk.core hwc' (by show o.length<_;omega))
        rw[goS_out,show goS (⟨(⟨s1.hart k,s1.mem,o,0,0⟩:qF).h,(⟨s1.hart k,s1.mem,o,0,0⟩:qF).m,[],0,0⟩:qF)=d0 from hd0.symm]at HGO
        have HOL1:Hid (d0.out.length≤1):=lI (by rw[hd0];exact goS_ol1 E7.good HSX.out.symm)
        have HE7:=lI E7
        have HGM:=lI hgm
        have HNE:=lI hne
        have HWD:=lI hwd
        have HMK:=lI hmk
        have HF7:Hid (Fr (EngS ep mp bp bh cp vm) w w7):=lI (HF.out.trans (S:=EngS ep mp bp bh cp vm) (Fr.of_below (S:=EngS ep mp bp bh cp vm) (hb6.trans (hb7.mono hs6)) (fun g h1 h2=>om)) (fun _ _ h=>h))
        have HS7:Hid (Sh bh vm w w7):=lI (HSR.out.trans (Sh.of_below (hb6.trans (hb7.mono hs6)) (fun q hq=>by have:=HL0.out q hq;omega)))
        have hcl7:cp<w7.heap.size:=om
        simp only[List.length_nil]at b1
        clear E7 hgm hne hwd hwc' hmk hb6 hb7 hbl hp0 hg35 hg32 hpb7 hd0 hfr
        go_upto_region 5 with(fail)
        simp only[List.length_nil]at HW7
        rw[←HW7.out]
        go_wp2_with fail
        refine HGO.out.mono ?_
        rintro e w8 ⟨rfl,hc8,hg8⟩
        have hs8:=hg8.size
        have hwk8:Wk bp bh hc cp k vm vo 40 s.out (o++d0.out) d0.fr d0.tw w8 ⟨s1.harts.set k d0.h,d0.m,s1.out,s1.steps⟩:=HE7.out.wk.go (d:=d0.pre o) HE7.out.good.wf HWD.out.h hc8 hg8
        have hkeep:∀q,q<w7.heap.size→(q=ep∨q=mp∨(ep<q∧q≠cp∧Row3 62 91 211 w7 q))→w8.heap[q]? =w7.heap[q]? :=fun q hq h=>by
          have hbq:=HE7.out.wk.b1
          rcases h with h|h|⟨h1,h2,h3⟩
          · exact hg8.block q hq om (fun e=>by have:=hmlt q e;omega) (.inl om)
          · exact hg8.block q hq om (fun e=>ge5 (by rw[e,h])) (.inl om)
          · obtain⟨n1,n2⟩:=row3_not h3
            refine hg8.block q hq om (fun e=>by have:=hmlt q e;omega) ?_
            by_cases h5:q<cp
            · exact .inl h5
            · exact .inr ⟨om,n1⟩
        have B8:EnB (fun q=>ep<q∧q≠cp) 84 62 91 ep mp bp w8 room pu' st' v' zs':=HE7.out.b.keep (TM:=211) (fun q h=>h.1) (fun q h1 h2=>hkeep q h1 (h2.imp id (fun h=>.inr ⟨h.1,h.2.1.2,h.2.2⟩)))
        have C8:EnC (fun q=>ep<q∧q≠cp) Tryz.prog 40 211 ep mp w8 zs' n':=HE7.out.c.keep (TB:=62) (TI:=91) (fun q h=>h.1) (fun q h1 h2=>hkeep q h1 (h2.elim (fun h=>.inr (.inl h)) (fun h=>.inr (.inr ⟨h.1,h.2.1.2,h.2.2⟩))))
        have F8:Fr (EngS ep mp bp bh cp vm) w w8:=HF7.out.trans (S:=EngS ep mp bp bh cp vm) (⟨hg8.os,hg8.tape,hg8.output,hg8.size,fun q hq hn=>hg8.block q hq (fun e=>hn (.inr (.inr (.inr (.inl e))))) (fun e=>hn (.inr (.inr (.inr (.inr (.inl e)))))) (.inl (Nat.lt_of_not_le (fun h=>hn (.inr (.inr (.inr (.inr (.inr h))))))))⟩:Fr (EngS ep mp bp bh cp vm) w7 w8) (fun _ _ h=>h)
        have S8:Sh bh vm w w8:=HS7.out.trans (fun q hq=>hg8.shape q (by have:=HL0.out q hq;omega) (by have:=HL0.out q hq;omega))
        have HS9:Hid (∀p v,Sh bh vm w (w8.setCell p v)):=lI (fun p v=>S8.set p v)
        clear S8
        have e08:=B8.at_.get (j:=0) rfl
        simp only[sM]at e08
        have b38:=hwk8.c3
        have f38:=hwk8.frz 3
        obtain⟨ss,hs'⟩:∃x,x=(s1.steps:Int):=⟨_,rfl⟩
        simp only at b38
        rw[←hs']at b38
        have hwj:wrap64 (ss+1)=ss+1:=yU
        have hsb:0≤ss∧ss≤1000000:=om
        obtain⟨w9,hw9⟩:∃w9,w9=w8.setCell ⟨bp,3,none⟩ (.int .i64 (ss+1)):=⟨_,rfl⟩
        have hF9:Fr (fun g=>g=bp) w8 w9:=by rw[hw9];exact(Fr.refl _ _).setCell ⟨bp,3,none⟩ _ rfl
        have hob2:s.out.length+(o++d0.out).length≤2000000:=by have:=HOL1.out;rw[sW];omega
        have hsteps:ss+1=((s1.steps+1:Nat):Int):=om
        have HWK9:=lI (show Wk bp bh hc cp k vm vo 40 s.out (o++d0.out) d0.fr d0.tw w9 (goM k s1)from by
          have:=(hwk8.tick (s1.steps+1)).out (s1.out++d0.out)
          rw[HGM.out,hw9,hsteps]
          exact this)
        have HB9:=lI (show EnB (fun q=>ep<q∧q≠cp) 84 62 91 ep mp bp w9 room pu' st' v' zs' from B8.keep (TM:=211) (fun q h=>h.1) (fun q h1 h2=>hF9.block q h1 (by show q≠bp;omega)))
        have HC9:=lI (show EnC (fun q=>ep<q∧q≠cp) Tryz.prog 40 211 ep mp w9 zs' n' from C8.keep (TB:=62) (TI:=91) (fun q h=>h.1) (fun q h1 h2=>hF9.block q h1 (by show q≠bp;omega)))
        have HF9:=lI (F8.trans (S:=EngS ep mp bp bh cp vm) (hF9.mono (fun g _ h=>(show EngS ep mp bp bh cp vm g from .inr (.inr (.inl h))))) (fun _ _ h=>h))
        obtain⟨q1,q2,q3,q4,q5,q6,q7,q8⟩:=HI.out
        have HFIN:=lI (TurnFin.mk (N:=N) (s:=s) (sz:=goM k s1) (o:=o++d0.out) (by
          rw[q1,show left=(left-1)+1 by omega,qk,if_pos HSX.out.symm,JQ HNE.out]) (goM_good HE7.out.good HSX.out.symm) (by rw[HGM.out];show s1.out++d0.out=_;rw[HE7.out.out,List.append_assoc]) HE7.out.tot (jU.goM_trap HE7.out.ok (by rw[←HPC.out];exact HMK.out) HE7.out.good.wf.mlen) q5 om (fun h1 h2 h3=>by
            by_cases e:left<N
            · exact q7 e
            · have e2:left=N:=om
              rw[←q8 e2,←HPC.out]at h3
              exact absurd HMK.out h3) HF9.out ⟨g1,g2,g3,g4⟩ hwc (by rw[hw9];exact HS9.out _ _))
        have HW9:=lI hw9
        clear hw9 hsteps hwk8 B8 C8 F8 hF9 hkeep hc8 hg8 q1 q2 q3 q4 q5 q6 q7 q8 hob hs'
        go_upto_region 9 with(fail)
        rw[←HW9.out]
        clear e08 b38 f38
        have hwk:=HWK9.out
        have hEB:=HB9.out
        have hEC:=HC9.out
        have hob:=hob2
        clear hob2
        obtain⟨sz,hsz⟩:∃x,x=goM k s1:=⟨_,rfl⟩
        rw[←hsz]at hwk HFIN
        obtain⟨oo,hoo⟩:∃x,x=o++d0.out:=⟨_,rfl⟩
        rw[←hoo]at hwk HFIN hob
        clear HWK9 HB9 HC9 HGM HNE hsz hoo
        obtain⟨v2,cv2,own2⟩:=hwk.core.row
        have cv2':w9.cell? ⟨cp,2,none⟩=some v2:=cv2
        have c2:=hwk.c2
        have f2:=hwk.frz 2
        have e0:=hEB.at_.get (j:=0) rfl
        simp only[sM]at e0
        have hlo:∀g,vo.ownBlock=some g→bp+1≤g:=fun g e=>(hwk.own.lt g e).1
        have hfar:Hid (some bp≠vo.ownBlock):=lI (fun e=>by have:=hlo bp e.symm;omega)
        have hbw:Hid (bp<w9.heap.size):=lI (Nat.lt_trans hwk.b2 hwk.clt)
        have HVA:=lI (vo_apart hwk.own hEB hEC)
        have hfe:Hid (some ep≠vo.ownBlock):=lI (fun e=>(HVA.out ep e.symm).1 rfl)
        have hel:Hid (ep<w9.heap.size):=lI hEB.lt
        have HSL:=lI ((ql own2).below (Below.drew br))
        obtain⟨a2,k2,rfl⟩:=qE own2
        have HWK:=lI hwk
        have HEB:=lI hEB
        have HEC:=lI hEC
        have HBH:=lI hbhb
        have hol:s.out.length+oo.length≤2000000:=om
        have HOL:=lI hol
        clear own2 cv2 hwk hEB hEC hlo hob hol
        obtain⟨i0,hi,hz0,hz1,hz2⟩:=info_parts einfo_u32
        go_region_law (
          refine Qs zK _ _ _ zK (bp+1) 40 i0 _ 1 4 Tryz.underlying36 hi hz0 hz1 hz2 rfl om vo s.out.length _ zK HWK.out.own.drew
              _ oo.length (oo.map (Value.int .u32)) zK HSL.out xY (by have:=HOL.out;omega) (by have:=HOL.out;unfold maxLen;omega) (by have:=hbw.out;show _≤w9.heap.size;omega) ?_
          intro v3 w10 hown3 hgrow
          obtain⟨ao3,cp3,rfl⟩:=qE hown3
          have ee:w10.cell? ⟨ep,0,none⟩=some (.pointer (some ⟨bp,0,none⟩)):=(hgrow.cell_far _ hel.out hfe.out).trans e0
          have e0:w10.cell? ⟨bp,2,none⟩=some vo:=(hgrow.cell_far _ hbw.out hfar.out).trans c2
          have e1:w10.frozen? ⟨bp,2,none⟩=false:=(hgrow.frozen_far _ hbw.out hfar.out).trans f2
          have HO3:=lI hown3
          have HG3:=lI hgrow
          clear hown3 hgrow)
        all_goals
          go_wp2_with fail
          go_end0
          exact turn_end HWK.out HEB.out HEC.out HVA.out HO3.out HG3.out HFIN.out
      · have hwk6:=HEG.out.wk.other hfr (by show ¬(bp=ep∨bp=mp);omega) (by show ¬(bh=ep∨bh=mp);have:=HEG.out.wk.b1;omega) (fun g hg=>by show ¬(g=ep∨g=mp);omega) (fun g hg=>by have:=hmlt g hg;show ¬(g=ep∨g=mp);intro e;rcases e with e|e;omega;exact ge5 (by rw[hg,e])) (fun g hg=>by have:=HEG.out.vlo g hg;show ¬(g=ep∨g=mp);omega)
        have HE7:Hid (Eg ep mp bp bh hc cp k vm vo room s.out o w7 s1 pu2 st' v2 zs2 n2):=lI ((⟨hwk6,B2,C2,T2,O2,HEG.out.good,HEG.out.out,HEG.out.geo,HEG.out.vlo⟩:Eg ep mp bp bh hc cp k vm vo room s.out o w6 s1 pu2 st' v2 zs2 n2).below hb7)
        have hll:¬(l.length:Int)=0:=by have:=List.length_pos_iff.2 K.ne;omega
        have HSP:=lI (esteps_any HE7.out HSX.out.symm h41 om hss' hol4 pc HPC.out (.slice ai l.length ci) vc l K (Sl.below hbl hb7) (Sl.below hsl hb7) (fun q hq=>by
          obtain⟨h1,cs,f,h2⟩:=hty q hq
          exact⟨h1,cs,f,(hb7.block q (qR h2)).trans h2⟩) left om om)
        have HF7:Hid (Fr (EngS ep mp bp bh cp vm) w w7):=lI ((HF.out.trans (S:=EngS ep mp bp bh cp vm) (hfr.mono (fun g _ h=>(show EngS ep mp bp bh cp vm g from h.elim (fun h=>.inl h) (fun h=>.inr (.inl h))))) (fun _ _ h=>h)).trans (S:=EngS ep mp bp bh cp vm) (Fr.of_below (S:=EngS ep mp bp bh cp vm) hb7 (fun g h1 h2=>om)) (fun _ _ h=>h))
        have HS7:Hid (Sh bh vm w w7):=lI ((HSR.out.trans (Sh.of_fr hfr (fun q hq=>⟨by have:=HL0.out q hq;omega,by
          have h0:=HL0.out q hq
          show ¬(q=ep∨q=mp)
          intro e
          rcases e with e|e
          · omega
          · rcases hq with h|h
            · omega
            · exact ge5 (by rw[h,e])⟩))).trans (Sh.of_below hb7 (fun q hq=>by have:=HL0.out q hq;omega)))
        have hpb6:=(hfr.block w.heap.size om (by show ¬(w.heap.size=ep∨w.heap.size=mp);omega)).trans HPB.out
        have hpb7:=(hb7.block w.heap.size om).trans hpb6
        have x0:=qh (o:=0) hpb7 rfl
        have HPB7:=lI hpb7
        have HN:=lI (And.intro N1 (And.intro N2 N3))
        clear hwk6 hbl hsl hty B2 C2 T2 O2 N1 N2 N3 K hb7 hfr hpb6 hpb7 hp0 hg35 hg32
        go_upto_region 5 with(fail)
        rw[←HW7.out]
        go_wp2_with fail
        refine HSP.out.mono ?_
        rintro e w8 ⟨j,o',v3,zs3,st3,j1,j2,rfl,E8,F8,S8⟩
        have hs8:=F8.size
        have hsub:wrap64 ((left:Int)-(j:Int))=((left-j:Nat):Int):=yU
        have hpb8:=(F8.block w.heap.size om (by show ¬(w.heap.size=ep∨w.heap.size=mp∨w.heap.size=bp∨w.heap.size=bh∨vm.ownBlock=some w.heap.size∨cp≤w.heap.size);have:=hmlt w.heap.size;intro e;rcases e with e|e|e|e|e|e;omega;omega;omega;omega;(have:=this e;omega);omega)).trans HPB7.out
        obtain⟨lf,hlf⟩:∃x:Nat,x=left-j:=⟨_,rfl⟩
        have HLF:=lI hlf
        obtain⟨q1,q2,q3,q4,q5,q6,q7,q8⟩:=HI.out
        have hadd:qk k left s1=qk k lf (qk k j s1):=by rw[←pickM_add,hlf];congr 1;omega
        have hps:=pickM_steps (k:=k) j s1
        have hpo:=pickM_ol (k:=k) j HEG.out.good
        have ho1:=congrArg List.length E8.out
        have ho2:=congrArg List.length HEG.out.out
        rw[sW]at ho1 ho2
        have HNX:Hid (Eg ep mp bp bh hc cp k vm vo room s.out o' w8 (qk k j s1) pu2 st3 v3 zs3 n2∧qk k N s=qk k lf (qk k j s1)∧(qk k j s1).harts.length=s.harts.length∧(qk k j s1).steps+lf≤s.steps+N∧o'.length+lf≤N∧n≤n2∧n2+lf≤n+N∧(lf<N→1≤n2)∧(lf=N→qk k j s1=s)∧Fr (EngS ep mp bp bh cp vm) w w8∧w8.heap[w.heap.size]? =some (.cells #[.int .i64 k,.int .i64 N] 47 (0,0))):=lI ⟨E8,q1.trans hadd,by rw[ub];exact q2,om,om,by have:=HN.out;omega,by have:=HN.out;omega,fun _=>HN.out.2.2,fun e=>om,HF7.out.trans (S:=EngS ep mp bp bh cp vm) F8 (fun _ _ h=>h),hpb8⟩
        have HS8:Hid (Sh bh vm w w8):=lI (HS7.out.trans S8)
        rw[←hlf]at hsub
        clear E8 F8 S8 hpb8 hadd hps hpo ho1 ho2 q1 q2 q3 q4 q5 q6 q7 q8 hlf
        go_wp2_with fail
        go_roundw
        case rel=>exact⟨lf,_,o',v3,zs3,pu2,st3,n2,by first|rfl|(simp;have:=HLF.out;omega),by have:=HLF.out;omega,om,HNX,HS8⟩
        case measure=>have:=HLF.out;simp[intOf];omega
    · have hwk:=HEG.out.wk
      have hEB:=HEG.out.b
      have hEC:=HEG.out.c
      have hex:left=0∨(0<left∧¬sx=0):=om
      have hpk:qk k left s1=s1:=by
        rcases hex with e|⟨_,e⟩
        · rw[e];rfl
        · exact JQ (by rw[←HSX.out];exact e) _
      obtain⟨q1,q2,q3,q4,q5,q6,q7,q8⟩:=HI.out
      have HFIN:=lI (TurnFin.mk (q1.trans hpk) HEG.out.good HEG.out.out HEG.out.tot HEG.out.ok q5 om (fun h1 h2 h3=>by
        by_cases e:left<N
        · exact q7 e
        · have e2:left=N:=om
          rw[←q8 e2,←HSX.out]at h2
          exact absurd ⟨om,h2⟩ hgo) HF.out ⟨g1,g2,g3,g4⟩ hwc HSR.out)
      clear q1 q2 q3 q4 q5 q6 q7 q8 hpk hgo
      rcases hex with rfl|⟨hl1,hst1⟩
      all_goals
        obtain⟨v2,cv2,own2⟩:=hwk.core.row
        have cv2':wr.cell? ⟨cp,2,none⟩=some v2:=cv2
        have c2:=hwk.c2
        have f2:=hwk.frz 2
        have e0:=hEB.at_.get (j:=0) rfl
        simp only[sM]at e0
        have hlo:∀g,vo.ownBlock=some g→bp+1≤g:=fun g e=>(hwk.own.lt g e).1
        have hfar:Hid (some bp≠vo.ownBlock):=lI (fun e=>by have:=hlo bp e.symm;omega)
        have hbw:Hid (bp<wr.heap.size):=lI (Nat.lt_trans hwk.b2 hwk.clt)
        have HVA:=lI (vo_apart hwk.own hEB hEC)
        have hfe:Hid (some ep≠vo.ownBlock):=lI (fun e=>(HVA.out ep e.symm).1 rfl)
        have hel:Hid (ep<wr.heap.size):=lI hEB.lt
        have HSL:=lI ((ql own2).below (Below.drew br))
        obtain⟨a2,k2,rfl⟩:=qE own2
        have HWK:=lI hwk
        have HEB:=lI hEB
        have HEC:=lI hEC
        have HBH:=lI hbhb
        have hol:s.out.length+o.length≤2000000:=om
        have HOL:=lI hol
        clear own2 cv2 hwk hEB hEC hlo hob hol
        obtain⟨i0,hi,hz0,hz1,hz2⟩:=info_parts einfo_u32
        go_upto_region 9 with(fail)
        go_region_law (
          refine Qs zK _ _ _ zK (bp+1) 40 i0 _ 1 4 Tryz.underlying36 hi hz0 hz1 hz2 rfl om vo s.out.length _ zK HWK.out.own.drew
              _ o.length (o.map (Value.int .u32)) zK HSL.out xY (by have:=HOL.out;omega) (by have:=HOL.out;unfold maxLen;omega) (by have:=hbw.out;show _≤wr.heap.size;omega) ?_
          intro v3 w9 hown3 hgrow
          obtain⟨ao3,cp3,rfl⟩:=qE hown3
          have ee:w9.cell? ⟨ep,0,none⟩=some (.pointer (some ⟨bp,0,none⟩)):=(hgrow.cell_far _ hel.out hfe.out).trans e0
          have e0:w9.cell? ⟨bp,2,none⟩=some vo:=(hgrow.cell_far _ hbw.out hfar.out).trans c2
          have e1:w9.frozen? ⟨bp,2,none⟩=false:=(hgrow.frozen_far _ hbw.out hfar.out).trans f2
          have HO3:=lI hown3
          have HG3:=lI hgrow
          clear hown3 hgrow)
        all_goals
          go_wp2_with fail
          go_end0
          exact turn_end HWK.out HEB.out HEC.out HVA.out HO3.out HG3.out HFIN.out
end Go.Proofs.YtlfnddmncbkjaabGreatDoor.W
