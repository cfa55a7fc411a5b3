import Derived.Test.YtlfnddmncbkjaacGreatZGX
set_option linter.unusedVariables false
set_option linter.unusedSimpArgs false
set_option maxRecDepth 100000
set_option maxHeartbeats 4000000
namespace Go.Proofs.YtlfnddmncbkjaacGreat.W
open Go.RowKit Fb
theorem bbytes_any(pc:Int)(ai:Option Addr)(n ci:Nat)(w:World)(h0:0≤pc)(h1:pc+4*(n:Int)≤4096):
    Calls Tryz.prog 46 #[.agg #[.int .u32 pc,.slice ai n ci]] w fun e w'=>e=.returned (.agg #[.int .u32 pc,.int .u32 (Fb.u32 (pc+4*(n:Int)))])∧Below w.heap.size w w':=by
  have e1:(n:Int)%4294967296=n:=om
  have e2:(4*(n:Int))%4294967296=4*n:=om
  have e3:(pc+4*(n:Int))%4294967296=pc+4*n:=om
  have e4:Fb.u32 (pc+4*(n:Int))=pc+4*n:=e3
  rw[e4]
  obtain⟨q,hq⟩:∃q,q=pc+4*(n:Int):=⟨_,rfl⟩
  go_enter Tryz.func46,Tryz.ntmps46
  go_wp2_with fail
  exact sP (qk zP _ (by first|rfl|(simp;done)) (load_new (w.alloc (.cells #[.int .u32 pc,.slice ai n ci] 65)) _ _ Tryz.underlying108 rfl kr)) rfl ⟨rfl,Fb.blw⟩
structure Eg (ep mp bp bh hc cp k:Nat) (vm vo:Value) (room:Int) (o0 o:List Int) (w:World) (s:St) (pu st:Int) (v:Value) (zs:List BlkD) (n:Nat):Prop where
  wk:Wk bp bh hc cp k vm vo 43 o0 o 0 0 w s
  b:EnB (fun q=>ep<q∧q≠cp) 56 65 82 ep mp bp w room pu st v zs
  c:EnC (fun q=>ep<q∧q≠cp) Tryz.prog 43 144 ep mp w zs n
  tot:(zs.length:Int)+pu+st=n∧0≤pu∧0≤st
  ok:jk s.mem room zs
  good:s.Good
  out:s.out=o0++o
  geo:bp<ep∧ep<cp∧mp≠bp∧mp≠bh∧vm.ownBlock≠some mp
  vlo:∀q,vo.ownBlock=some q→q≠ep∧q≠mp
theorem Eg.below{ep mp bp bh hc cp k:Nat}{vm vo:Value}{room:Int}{o0 o:List Int}{w w':World}{s:St}{pu st:Int}{v:Value}{zs:List BlkD}{n:Nat}(h:Eg ep mp bp bh hc cp k vm vo room o0 o w s pu st v zs n)(hb:Below w.heap.size w w'):Eg ep mp bp bh hc cp k vm vo room o0 o w' s pu st v zs n:=
  ⟨h.wk.below hb,h.b.below hb,h.c.below hb,h.tot,h.ok,h.good,h.out,h.geo,h.vlo⟩
def EngS(ep mp bp bh cp:Nat)(vm:Value)(j:Nat):Prop:=j=ep∨j=mp∨j=bp∨j=bh∨vm.ownBlock=some j∨cp≤j
def StepsPost(ep mp bp bh hc cp k:Nat)(vm vo:Value)(room:Int)(o0:List Int)(left:Nat)(s1:St)(pu:Int)(n:Nat)(w:World)(e:Ending)(w':World):Prop:=
  ∃(j:Nat) (o':List Int) (v':Value) (zs':List BlkD) (st':Int),1≤j∧j≤left∧e=.returned (.int .i64 j)∧Eg ep mp bp bh hc cp k vm vo room o0 o' w' (qv k j s1) pu st' v' zs' n∧Fr (EngS ep mp bp bh cp vm) w w'
theorem row3_not{w:World}{q:Nat}(h:Row3 65 82 144 w q):(∀cs f,w.heap[q]? ≠some (.cells cs 43 f))∧(∀cs f,w.heap[q]? ≠some (.cells cs 113 f)):=by
  obtain⟨cs,f,h|h|h⟩:=h
  all_goals(constructor<;>(intro cs2 f2 e;rw[h]at e;cases e))
theorem esteps_any{ep mp bp bh hc cp k:Nat}{vm vo:Value}{room:Int}{o0 o:List Int}{w:World}{s1:St}{pu st:Int}{v:Value}{zs:List BlkD}{n:Nat}(hE:Eg ep mp bp bh hc cp k vm vo room o0 o w s1 pu st v zs n)(hst:(s1.hart k).state=0)(h4:s1.harts.length≤4)(hn:n≤1000000)(hss:s1.steps≤1000000)(hol:o.length≤40000)
    (pc:Int) (hpc:pc=(s1.hart k).pc) (vi vc:Value) (l:List InsD) (K:Kept s1.mem pc l) (hb:jV w vi l) (hcs:Sl w vc 5 (mkM pc l).length ((mkM pc l).flatMap JC)) (hct:∀q,vc.ownBlock=some q→(ep<q∧q≠cp)∧∃cs f,w.heap[q]? =some (.cells cs 144 f)) (left:Nat) (hl0:1≤left) (hl1:left≤400):
    Calls Tryz.prog 26 #[.pointer (some ⟨ep,0,none⟩),.int .i64 k,.pointer (some ⟨cp,0,none⟩),.agg #[.int .u32 pc,vi],vc,.int .i64 left] w fun e w'=>StepsPost ep mp bp bh hc cp k vm vo room o0 left s1 pu n w e w':=by
  obtain⟨ai,ci,rfl,-⟩:=hb.open (fun _ _=>rfl) om
  obtain⟨ac,cc,rfl,-⟩:=hcs.open (fun _ _=>rfl) om
  have hgeo:=hE.geo
  obtain⟨g1,g2,g3,g4,g5⟩:=hgeo
  have hcp:=hE.wk.clt
  have hbb:=hE.wk.b1
  have hkl:=hE.wk.kl
  have hml:=hE.good.wf.mlen
  obtain⟨w1,hw1⟩:∃w1,w1=w.alloc (.cells #[.int .u32 pc,.slice ai l.length ci] 65):=⟨_,rfl⟩
  have hb1:Below w.heap.size w w1:=zK
  have hs1:w1.heap.size=w.heap.size+1:=yD
  have r0:(w1).cell? ⟨w.heap.size,0,none⟩=some (.int .u32 pc):=zA
  have r1:(w1).cell? ⟨w.heap.size,1,none⟩=some (.slice ai l.length ci):=zA
  have HBY:=lI (bbytes_any pc ai l.length ci w1 K.pos (by have:=K.fits;omega))
  have HX:=fun X hX=>block_turn hE.good hkl hst (l:=l) (by rw[←hpc];exact K) (left:=left) om hE.out X hX
  rw[←hpc]at HX
  have hbt:U32 (Fb.u32 (pc+4*(l.length:Int))):=jG _
  have hpu:U32 pc:=by rw[hpc];exact(hE.good.wf.hart k).pc
  obtain⟨bt,hbtq⟩:∃bt,bt=Fb.u32 (pc+4*(l.length:Int)):=⟨_,rfl⟩
  rw[←hbtq]at HBY HX hbt
  obtain⟨X,hX⟩:∃X,X=(runL left (mkM pc l) (runB (s1.hart k) s1.mem o pc bt)).fin:=⟨_,rfl⟩
  obtain⟨j,hj,hj1,hj2,hpk,hsto,hen,hxm⟩:=HX X hX
  clear HX
  have HW1:=lI hw1
  have HE1:=lI (hE.below hb1)
  have HB1:=lI hb1
  have HCS1:=lI (Sl.below hcs hb1)
  have HCT1:Hid (∀q,(Value.slice ac (mkM pc l).length cc).ownBlock=some q→(ep<q∧q≠cp)∧∃cs f,w1.heap[q]? =some (.cells cs 144 f)):=lI (fun q hq=>by
    obtain⟨h1,cs,f,h2⟩:=hct q hq
    exact⟨h1,cs,f,(hb1.block q (QV h2)).trans h2⟩)
  have HXX:=lI hX
  have HPK:=lI hpk
  have HSTO:=lI hsto
  have HEN:=lI hen
  have HXM:=lI hxm
  have HST:=lI hst
  have HPCQ:=lI hpc
  have HPU:=lI hpu
  have HBT:=lI hbt
  have HJ:=lI hj
  clear hw1 hE hb1 hcs hct hX hpk hsto hen hxm hst hpc hpu hbt hj hbtq K hb
  go_enter Tryz.func26,Tryz.ntmps26
  go_upto_region 1 with(fail)
  rw[←HW1.out]
  go_wp2_with fail
  refine HBY.out.mono ?_
  rintro e w2 ⟨rfl,hb2⟩
  have hs2:=hb2.size
  have HE2:=lI (HE1.out.below hb2)
  have HB2:=lI (HB1.out.trans (hb2.mono om))
  have HCS2:=lI (Sl.below HCS1.out hb2)
  have HCT2:Hid (∀q,(Value.slice ac (mkM pc l).length cc).ownBlock=some q→(ep<q∧q≠cp)∧∃cs f,w2.heap[q]? =some (.cells cs 144 f)):=lI (fun q hq=>by
    obtain⟨h1,cs,f,h2⟩:=HCT1.out q hq
    exact⟨h1,cs,f,(hb2.block q (QV h2)).trans h2⟩)
  obtain⟨rl,hrl⟩:∃rl,rl=(QN (runE (s1.hart k) s1.mem o pc bt) cp (.slice none 0 0) left).toArray:=⟨_,rfl⟩
  have hrl':rl=#[.pointer (some ⟨cp,0,none⟩),.int .u32 pc,.int .u32 bt,.int .i64 left,.int .i64 0,.slice none 0 0,.int .u32 0,.int .u32 0,.int .u32 0,.int .u32 0,.int .u32 0,.bool false]:=by
    rw[hrl];simp[QN,runE,run0]
  obtain⟨w3,hw3⟩:∃w3,w3=w2.alloc (.cells rl 113):=⟨_,rfl⟩
  have hb3:Below w2.heap.size w2 w3:=by rw[hw3];exact Below.alloc br (sO _) _
  have hs3:w3.heap.size=w2.heap.size+1:=by rw[hw3];simp
  have HR3:Hid (R8 w2.heap.size cp bh (k*37) vm 43 108 113 w3 (runE (s1.hart k) s1.mem o pc bt) (.slice none 0 0) left 0 0):=lI (
    R8.initE (TS:=108) (TR:=113) (steps:=left) HE2.out.wk.core (HE2.out.good.wf.hart k) HE2.out.good.wf.mem hml (fun x hx=>HE2.out.good.wf.out x (by rw[HE2.out.out];exact List.mem_append_right _ hx)) om HPU.out HBT.out (by rw[hw3,hrl]))
  have HE3:=lI (HE2.out.below hb3)
  have HB3:=lI (HB2.out.trans (hb3.mono om))
  have HRP:Hid (∃cs f,w3.heap[w2.heap.size]? =some (.cells cs 113 f)):=lI ⟨_,_,by rw[hw3];exact sQ _ _⟩
  have HFAR:Hid (∀b off n c,(Value.slice ac (mkM pc l).length cc)=.slice (some ⟨b,off,none⟩) n c→mkM pc l≠[]→b<w3.heap.size∧b≠bh∧vm.ownBlock≠some b∧(b<cp∨(cp<b∧b<w2.heap.size∧∀cs f,w3.heap[b]? ≠some (.cells cs 43 f)))):=lI (fun b off n c e _=>by
    obtain⟨h1,cs,f,h2⟩:=HCT2.out b xF
    have hlt:=QV h2
    have h3:=(hb3.block b hlt).trans h2
    have hm:=HE2.out.wk.mlt
    refine⟨om,om,fun e2=>by have:=hm b e2;omega, ?_⟩
    by_cases h5:b<cp
    · exact .inl h5
    · exact .inr ⟨om,hlt,fun cs2 f2 e3=>by rw[h3]at e3;cases e3⟩)
  have HDO:=lI (do8_any HR3.out (.slice ac (mkM pc l).length cc) (mkM pc l) (Sl.below HCS2.out hb3) HFAR.out (mkM_may pc l) (mkM_ok pc l) ⟨om,om⟩ ⟨Int.le_refl 0,by show(0:Int)≤50000;omega⟩ (by show 0≤(left:Int)-0;omega) (Nat.zero_le _) (by show o.length≤50000;omega) rfl X (by rw[HXX.out];rfl))
  have HW3:=lI hw3
  have HRL:=lI hrl'
  clear hw3 hrl hrl' hb2 hb3 HE1 HE2 HB1 HB2 HCS1 HCS2 HCT1 HCT2 HFAR HR3 HBY r0 r1
  go_upto_region 2 with(fail)
  rw[←HRL.out,←HW3.out]
  go_wp2_with fail
  refine HDO.out.mono ?_
  rintro e w4 ⟨rfl,vs',h8,g8⟩
  have hs4:w3.heap.size≤w4.heap.size:=g8.size
  have hmlt:=HE3.out.wk.mlt
  have hwk4:Wk bp bh hc cp k vm vo 43 o0 X.out 0 0 w4 ⟨s1.harts.set k X.h,X.m,s1.out,s1.steps⟩:=HE3.out.wk.go8 (d:=X.core 0 0) HE3.out.good.wf h8.wf.h h8.core g8
  have hkeep:∀q,q<w3.heap.size→(q=ep∨q=mp∨(ep<q∧q≠cp∧Row3 65 82 144 w3 q))→w4.heap[q]? =w3.heap[q]? :=fun q hq h=>by
    have hmp:=HE3.out.c.1
    rcases h with h|h|⟨h1,h2,h3⟩
    · exact g8.block q hq om (fun e=>by have:=hmlt q e;omega) (.inl om)
    · exact g8.block q hq om (fun e=>g5 (by rw[e,h])) (.inl om)
    · obtain⟨n1,n2⟩:=row3_not h3
      refine g8.block q hq om (fun e=>by have:=hmlt q e;omega) ?_
      by_cases h5:q<cp
      · exact .inl h5
      · refine .inr ⟨om, ?_,n1⟩
        obtain⟨cs,f,h6⟩:=HRP.out
        have:q≠w2.heap.size:=fun e=>by rw[e]at n2;exact n2 _ _ h6
        omega
  have B4:EnB (fun q=>ep<q∧q≠cp) 56 65 82 ep mp bp w4 room pu st v zs:=HE3.out.b.keep (TM:=144) (fun q h=>h.1) (fun q h1 h2=>hkeep q h1 (h2.imp id (fun h=>.inr ⟨h.1,h.2.1.2,h.2.2⟩)))
  have C4:EnC (fun q=>ep<q∧q≠cp) Tryz.prog 43 144 ep mp w4 zs n:=HE3.out.c.keep (TB:=65) (TI:=82) (fun q h=>h.1) (fun q h1 h2=>hkeep q h1 (h2.elim (fun h=>.inr (.inl h)) (fun h=>.inr (.inr ⟨h.1,h.2.1.2,h.2.2⟩))))
  have F34:Fr (EngS ep mp bp bh cp vm) w3 w4:=⟨g8.os,g8.tape,g8.output,g8.size,fun q hq hn=>g8.block q hq (fun e=>hn (.inr (.inr (.inr (.inl e))))) (fun e=>hn (.inr (.inr (.inr (.inr (.inl e)))))) (.inl (Nat.lt_of_not_le (fun h=>hn (.inr (.inr (.inr (.inr (.inr h))))))))⟩
  have F4:Fr (EngS ep mp bp bh cp vm) w w4:=(Fr.of_below HB3.out (fun q h1 h2=>om)).trans (S:=EngS ep mp bp bh cp vm) F34 (fun _ _ h=>h)
  have k4:=h8.at_.get (QT 4 om)
  have k5:=h8.at_.get (QT 5 om)
  simp only[sM]at k4 k5
  have k4':w4.cell? ⟨w2.heap.size,4,none⟩=some (.int .i64 j):=by rw[←HJ.out];exact k4
  have k5':w4.cell? ⟨w2.heap.size,5,none⟩=some vs':=k5
  have hvl:∀q,vs'.ownBlock=some q→w2.heap.size<q:=fun q e=>by have:=(h8.sto.lt q e).1;omega
  have hrl4:=qH k4'
  obtain⟨as',cs',rfl,hcs1,hcs2,-,hos⟩:=(Qs h8.sto).open (fun _ _=>rfl) om
  unfold maxLen at hcs2
  have HOS:=lI hos
  have HVL:=lI hvl
  have HWK4:=lI hwk4
  have HB4:=lI B4
  have HC4:=lI C4
  have HF4:=lI F4
  have HTOT:=lI HE3.out.tot
  have HZ:=lI HE3.out.ok
  have HGOOD:=lI HE3.out.good
  have HVLO:=lI HE3.out.vlo
  have HXW:=lI (And.intro h8.wf.h h8.wf.m)
  have HMLT:=lI hmlt
  have HSTL:Hid (∀p∈X.stores,U32 p.1∧U32 p.2):=lI (fun p hp=>by have:=HSTO.out p hp;unfold U32;omega)
  clear hos hvl hwk4 B4 C4 F4 F34 hkeep h8 g8 k4 k5 hmlt HE3 HDO HB3
  have k5:=k5'
  clear k5'
  go_wp2_with fail
  go_loopw [30] (fun i wr=>∃(q:Nat) (v':Value) (zs':List BlkD) (st':Int),i=.int .i64 q∧q≤X.stores.length∧w4.heap.size≤wr.heap.size∧Hid (Wk bp bh hc cp k vm vo 43 o0 X.out 0 0 wr ⟨qx k (X.stores.take q) (s1.harts.set k X.h),X.m,s1.out,s1.steps⟩∧EnB (fun q=>ep<q∧q≠cp) 56 65 82 ep mp bp wr room pu st' v' zs'∧EnC (fun q=>ep<q∧q≠cp) Tryz.prog 43 144 ep mp wr zs' n∧((zs'.length:Int)+pu+st'=n∧0≤pu∧0≤st')∧zs'.map BlkD.abs=(jK (X.stores.take q) zs).map BlkD.abs∧Fr (fun j=>j=ep∨j=bh) w4 wr)) (fun i _=>X.stores.length-(intOf i).toNat)
  case atStart=>exact⟨0,v,zs,st,rfl,om,om,lI ⟨HWK4.out,HB4.out,HC4.out,HTOT.out,rfl,Fr.refl _ _⟩⟩
  case round=>
    obtain⟨q,v',zs',st',rfl,hq,hsz,HR⟩:=hrel
    by_cases hlt:q<X.stores.length
    · obtain⟨b,off,rfl,hbl,hel⟩:=HOS.out zR
      have hbv:w2.heap.size<b:=HVL.out b rfl
      have hsame:∀g,w2.heap.size≤g→g<w4.heap.size→wr.heap[g]? =w4.heap[g]? :=fun g h1 h2=>HR.out.2.2.2.2.2.block g h2 (by show ¬(g=ep∨g=bh);omega)
      have hat:At wr b (off+q*2) (rg X.stores[q]):=fun i hi=>(qE (hsame b om hbl) _).trans (hel q hlt i hi)
      obtain⟨pf,pt⟩:∃p,p=X.stores[q]:=⟨_,rfl⟩
      obtain⟨p,hp⟩:∃p,p=X.stores[q]:=⟨_,rfl⟩
      have hpm:p∈X.stores:=by rw[hp];exact sU hlt
      rw[←hp]at hat
      obtain⟨p1,p2⟩:=p
      have c0:=hat.get (j:=0) (v:=.int .u32 p1) rfl
      have c1:=hat.get (j:=1) (v:=.int .u32 p2) rfl
      simp only[sN]at c0
      have hu:=HSTL.out _ hpm
      have HTK:Hid (X.stores.take (q+1)=X.stores.take q++[(p1,p2)]):=lI (by rw[hp];exact List.take_succ_eq_append_getElem hlt)
      obtain⟨w5,hw5⟩:∃w5,w5=wr.alloc (.cells #[.int .u32 p1,.int .u32 p2] 108):=⟨_,rfl⟩
      have hb5:Below wr.heap.size wr w5:=by rw[hw5];exact Below.alloc br (sO _) _
      have hs5:wr.heap.size≤w5.heap.size:=hb5.size
      have u0:(w5).cell? ⟨wr.heap.size,0,none⟩=some (.int .u32 p1):=by rw[hw5];go_cell
      have u1:(w5).cell? ⟨wr.heap.size,1,none⟩=some (.int .u32 p2):=by rw[hw5];go_cell
      have HWK5:=lI (HR.out.1.below hb5)
      have HB5:=lI (HR.out.2.1.below hb5)
      have HC5:=lI (HR.out.2.2.1.below hb5)
      have HF5:Hid (Fr (fun j=>j=ep∨j=bh) w4 w5):=lI (HR.out.2.2.2.2.2.trans (S:=fun j=>j=ep∨j=bh) (S':=fun j=>j=ep∨j=bh) (Fr.of_below hb5 (fun j h1 h2=>om)) (fun _ _ h=>h))
      have HT5:=lI HR.out.2.2.2.1
      have HA5:=lI HR.out.2.2.2.2.1
      have hzl:zs'.length≤zs.length:=by rw[len_abs HA5.out];exact(UE _ _).length_le
      have hz64:zs.length≤64:=by have:=HZ.out.len;have:=HZ.out.room1;omega
      have hins:∀x∈zs',x.ins.length≤16:=ins_abs HA5.out (fun x hx=>HZ.out.ins x (UF _ _ x hx).1)
      have hlen:(qx k (X.stores.take q) (s1.harts.set k X.h)).length=s1.harts.length:=by rw[JQ,List.length_set]
      have hwf5:∀h∈qx k (X.stores.take q) (s1.harts.set k X.h),h.Wf:=loseAll_mem k (fun _ _ _ h=>uP h) _ _ (fun h hh=>by
        rcases List.mem_or_eq_of_mem_set hh with h1|h1
        · exact HGOOD.out.wf.harts h h1
        · rw[h1];exact HXW.out.1)
      have HWF5:=lI hwf5
      have HLN:=lI hlen
      have HSD:=lI (estored_any (A:=fun q=>ep<q∧q≠cp) (fun _ h=>h.1) (fun g hg=>om) HB5.out HC5.out HT5.out hins om hn k p1 p2 _ g1 hbb g4 HWK5.out.c1 HWK5.out.harts HWK5.out.core.hfz hwf5 (by show(qx k _ _).length≤4;omega) HWK5.out.hcap hu.1 hu.2)
      have HW5:=lI hw5
      have HAT2:=lI hsame
      clear hel hat hp hpm hw5 hb5 hsame hwf5 hlen hins HR hu pf pt
      go_upto_region 6 with(fail)
      rw[←HW5.out]
      clear c0 c1
      go_wp2_with fail
      refine HSD.out.mono ?_
      rintro e w6 ⟨rfl,w6a,hat6,hg6,hf6,v6,zs6,st6,B6,C6,T6,A6⟩
      have hk0:k<(qx k (X.stores.take q) (s1.harts.set k X.h)).length:=by rw[HLN.out];exact hkl
      have hwk6a:=HWK5.out.lost (hs:=qp k p1 p2 (qx k (X.stores.take q) (s1.harts.set k X.h)).length (qx k (X.stores.take q) (s1.harts.set k X.h))) (JL (P:=Hart.Wf) HWF5.out (fun _=>uP)) (QO _ _ _ _ _) (fun h'=>by
        rw[Qh _ _ _ _ _ _ hk0,if_neg om];exact(St.hart_at (s:=⟨qx k (X.stores.take q) (s1.harts.set k X.h),X.m,s1.out,s1.steps⟩) hk0).symm) hat6 hg6
      have hwk6:=hwk6a.other hf6 (by show ¬bp=ep;omega) (by show ¬bh=ep;omega) (fun g hg=>by show ¬g=ep;omega) (fun g hg=>by have:=HMLT.out g hg;show ¬g=ep;omega) (fun g hg=>by have:=HVLO.out g hg;show ¬g=ep;omega)
      have hf46:Fr (fun j=>j=ep∨j=bh) w4 w6:=(HF5.out.trans (S:=fun j=>j=ep∨j=bh) (S':=fun j=>j=ep∨j=bh) (Fr.of_chg hg6 (fun j o h=>.inr h)) (fun _ _ h=>h)).trans (S:=fun j=>j=ep∨j=bh) (S':=fun j=>j=ep∨j=bh) (hf6.mono (fun _ _ h=>.inl h)) (fun _ _ h=>h)
      have HN:Hid (Wk bp bh hc cp k vm vo 43 o0 X.out 0 0 w6 ⟨qx k (X.stores.take (q+1)) (s1.harts.set k X.h),X.m,s1.out,s1.steps⟩∧EnB (fun q=>ep<q∧q≠cp) 56 65 82 ep mp bp w6 room pu st6 v6 zs6∧EnC (fun q=>ep<q∧q≠cp) Tryz.prog 43 144 ep mp w6 zs6 n∧((zs6.length:Int)+pu+st6=n∧0≤pu∧0≤st6)∧zs6.map BlkD.abs=(jK (X.stores.take (q+1)) zs).map BlkD.abs∧Fr (fun j=>j=ep∨j=bh) w4 w6):=lI ⟨by rw[HTK.out,loseAll_snoc];exact hwk6,B6,C6,T6,by rw[A6,HTK.out,staleAll_snoc];exact estale_abs HA5.out,hf46⟩
      have hs6:=hf46.size
      clear hwk6 hwk6a hf46 B6 C6 T6 A6 hat6 hg6 hf6 HSD HWK5 HB5 HC5 HF5 HT5 HA5 hk0
      go_wp2_with fail
      go_roundw
      case rel=>exact⟨q+1,v6,zs6,st6,by simp,om,om,HN⟩
      case measure=>simp[intOf];omega
    · obtain rfl:q=X.stores.length:=om
      rw[List.take_length]at HR
      have hrp:∀g,w2.heap.size≤g→g<w4.heap.size→wr.heap[g]? =w4.heap[g]? :=fun g h1 h2=>HR.out.2.2.2.2.2.block g h2 (by show ¬(g=ep∨g=bh);omega)
      have r4:=(qE (hrp _ (sO _) hrl4) 4).trans k4'
      have e0:=HR.out.2.1.at_.get (j:=0) rfl
      simp only[sM]at e0
      have b3:=HR.out.1.c3
      have f3:=HR.out.1.frz 3
      have hwj:wrap64 ((s1.steps:Int)+(j:Int))=((s1.steps+j:Nat):Int):=yH
      obtain⟨sj,hsj⟩:∃x,x=((s1.steps+j:Nat):Int):=⟨_,rfl⟩
      obtain⟨ss,hs'⟩:∃x,x=(s1.steps:Int):=⟨_,rfl⟩
      obtain⟨jj,hjj⟩:∃x,x=(j:Int):=⟨_,rfl⟩
      simp only at b3
      rw[←hsj,←hs',←hjj]at hwj
      rw[←hs']at b3
      rw[←hjj]at r4
      have HSJ:=lI hsj
      have HJJ:=lI hjj
      have HR9:=lI HR.out
      clear hsj hjj hs' HR hrp k4' k5
      go_wp2_with fail
      go_region
      go_wp2_with fail
      go_ret
      obtain⟨x1,x2,x3,x4,x5,x6⟩:=HR9.out
      obtain⟨w9,hw9⟩:∃w9,w9=(wr.setCell ⟨bp,3,none⟩ (.int .i64 sj)).drew:=⟨_,rfl⟩
      have hpk:=HPK.out
      have hbd:Below wr.heap.size (wr.setCell ⟨bp,3,none⟩ (.int .i64 sj)) w9:=by rw[hw9];exact Below.drew br
      have hF9:Fr (fun g=>g=bp) wr w9:=by rw[hw9];exact Fr.drew ((Fr.refl _ _).setCell ⟨bp,3,none⟩ _ rfl)
      have hwk9:Wk bp bh hc cp k vm vo 43 o0 X.out 0 0 w9 (qv k j s1):=by
        have:=(x1.tick (s1.steps+j)).out (o0++X.out)
        rw[←hpk,hw9]
        have e:((s1.steps+j:Nat):Int)=sj:=HSJ.out.symm
        rw[e]at this
        exact this.below (Below.drew br)
      have hb9:EnB (fun q=>ep<q∧q≠cp) 56 65 82 ep mp bp w9 room pu st' v' zs':=x2.keep (TM:=144) (fun q h=>h.1) (fun q h1 h2=>hF9.block q h1 (by show q≠bp;omega))
      have hc9:EnC (fun q=>ep<q∧q≠cp) Tryz.prog 43 144 ep mp w9 zs' n:=x3.keep (TB:=65) (TI:=82) (fun q h=>h.1) (fun q h1 h2=>hF9.block q h1 (by show q≠bp;omega))
      have hfin:Fr (EngS ep mp bp bh cp vm) w w9:=(HF4.out.trans (S:=EngS ep mp bp bh cp vm) (x6.mono (fun g _ h=>(show EngS ep mp bp bh cp vm g from h.elim (fun h=>.inl h) (fun h=>.inr (.inr (.inr (.inl h))))))) (fun _ _ h=>h)).trans (S:=EngS ep mp bp bh cp vm) (hF9.mono (fun g _ h=>(show EngS ep mp bp bh cp vm g from .inr (.inr (.inl h))))) (fun _ _ h=>h)
      have hok9:jk (qv k j s1).mem room zs':=by
        rw[←hpk]
        exact(HEN.out room zs HZ.out).abs x5
      exact⟨j,X.out,v',zs',st',hj1,hj2,by rw[HJJ.out];rfl,⟨by rw[←hw9];exact hwk9,by rw[←hw9];exact hb9,by rw[←hw9];exact hc9,x4,hok9,pickM_good _ HGOOD.out,by rw[←hpk],⟨g1,g2,g3,g4,g5⟩,HVLO.out⟩,by rw[←hw9];exact hfin⟩
section
variable {cp hb ho : Nat} {vm : Value} {d : qD} {w : World}
theorem do_lui(h:qP cp hb ho vm 43 w d)(wf:d.Wf)(hlen:d.out.length<1099511627776)(kd k1 k2:Nat)(imm:Int)(hd:kd<32)(h1:k1<32)(h2:k2<32)(hi: -2147483648≤imm∧imm≤2147483647):
    Calls Tryz.prog 45 #[.pointer (some ⟨cp,0,none⟩),.agg #[.int .i64 1,.int .i64 kd,.int .i64 k1,.int .i64 k2,.int .i32 imm]] w fun e w'=>e=.returned (.tuple #[])∧qP cp hb ho vm 43 w' (doS ⟨1,kd,k1,k2,imm⟩ d)∧Cgo cp hb ho vm 43 w w':=by
  obtain⟨i0,i1⟩:=hi
  obtain⟨xa,hxa⟩:∃x,x=d.h.regs.getD k1 0:=⟨_,rfl⟩
  obtain⟨xb,hxb⟩:∃x,x=d.h.regs.getD k2 0:=⟨_,rfl⟩
  obtain⟨xn,hxn⟩:∃x,x=imm%4294967296:=⟨_,rfl⟩
  obtain⟨pc,hpc⟩:∃x,x=d.h.pc:=⟨_,rfl⟩
  have era:d.h.reg (k1:Int)=xa:=zX
  have erb:d.h.reg (k2:Int)=xb:=zW
  have ua:U32 xa:=zZ
  have ub:U32 xb:=zY
  have un:U32 xn:=zO
  have up:U32 pc:=yG
  have e:doS ⟨1,kd,k1,k2,imm⟩ d=(d.set kd xn).setPc ((pc+4)%4294967296):=by
    unfold doS
    dsimp only
    rw[era,erb,←hxn,←hpc]
    rw[if_pos om]
  rw[e]
  clear e
  have hne:=h.hbl
  have HA:=lI ua
  have HB:=lI ub
  have HN:=lI un
  have HU:=lI up
  obtain⟨w1,hw1⟩:∃w1,w1=w.alloc (.cells #[.int .i64 1,.int .i64 kd,.int .i64 k1,.int .i64 k2,.int .i32 imm] 82):=⟨_,rfl⟩
  have H1:Hid (qP cp hb ho vm 43 w1 d):=lI zN
  have G1:Hid (Cgo cp hb ho vm 43 w w1):=lI zJ
  have hbx:cp<w.heap.size:=h.lt
  have HX:Hid (w1.heap[w.heap.size]? =some (.cells #[.int .i64 1,.int .i64 kd,.int .i64 k1,.int .i64 k2,.int .i32 imm] 82 (0,0))):=lI zI
  have q0:(w1).cell? ⟨w.heap.size,0,none⟩=some (.int .i64 1):=zA
  have q1:(w1).cell? ⟨w.heap.size,1,none⟩=some (.int .i64 kd):=zA
  have q2:(w1).cell? ⟨w.heap.size,2,none⟩=some (.int .i64 k1):=zA
  have q3:(w1).cell? ⟨w.heap.size,3,none⟩=some (.int .i64 k2):=zA
  have q4:(w1).cell? ⟨w.heap.size,4,none⟩=some (.int .i32 imm):=zA
  have HW1:=lI hw1
  clear hw1 h
  have hp:=H1.out.ptr
  have hca:=H1.out.hart.get (qV wf.h k1 h1)
  have hcb:=H1.out.hart.get (qV wf.h k2 h2)
  have hc32:=H1.out.hart.get (qe wf.h)
  rw[←hxa]at hca
  rw[←hxb]at hcb
  rw[←hpc]at hc32
  have HPC:=lI hpc
  have HIM:=lI hxn
  clear hxa hxb era erb hpc ua ub un up hxn
  obtain⟨b1,b2⟩:=HU.out
  have j1:(k1:Int)<32:=om
  have j2:(k2:Int)<32:=om
  go_enter Tryz.func45,Tryz.ntmps45
  go_upto_region 1 with(fail)
  rw[←HW1.out]
  go_quiet (fail)
  rw[←HIM.out]
  clear hca hcb
  go_upto_region 37 with(go_at_call 71;refine(uN (H1.out.drewN _) wf.h kd hd _).mono ?_;rintro e w2 ⟨rfl,hc,hg⟩)
  have HG:Hid (Cgo cp hb ho vm 43 w w2):=lI (((G1.out.drewN _)).trans hg)
  have wf2:=(wf.set kd xn HN.out).h
  clear hg q0 q1 q2 q3 q4
  clear hp hc32
  have hp:=hc.ptr
  have h32:=hc.hart.get (qe wf2)
  have f32:=hc.hfz (ho+32)
  have HC:=lI hc
  clear hc
  go_wp2_with fail
  go_end0
  exact⟨rfl,HC.out.setHart 32 _ _ (qh wf2.len _) yS,HG.out.trans (Cgo.setHart _ 32 om _)⟩
theorem do_jal(h:qP cp hb ho vm 43 w d)(wf:d.Wf)(hlen:d.out.length<1099511627776)(kd k1 k2:Nat)(imm:Int)(hd:kd<32)(h1:k1<32)(h2:k2<32)(hi: -2147483648≤imm∧imm≤2147483647):
    Calls Tryz.prog 45 #[.pointer (some ⟨cp,0,none⟩),.agg #[.int .i64 3,.int .i64 kd,.int .i64 k1,.int .i64 k2,.int .i32 imm]] w fun e w'=>e=.returned (.tuple #[])∧qP cp hb ho vm 43 w' (doS ⟨3,kd,k1,k2,imm⟩ d)∧Cgo cp hb ho vm 43 w w':=by
  obtain⟨i0,i1⟩:=hi
  obtain⟨xa,hxa⟩:∃x,x=d.h.regs.getD k1 0:=⟨_,rfl⟩
  obtain⟨xb,hxb⟩:∃x,x=d.h.regs.getD k2 0:=⟨_,rfl⟩
  obtain⟨xn,hxn⟩:∃x,x=imm%4294967296:=⟨_,rfl⟩
  obtain⟨pc,hpc⟩:∃x,x=d.h.pc:=⟨_,rfl⟩
  have era:d.h.reg (k1:Int)=xa:=zX
  have erb:d.h.reg (k2:Int)=xb:=zW
  have ua:U32 xa:=zZ
  have ub:U32 xb:=zY
  have un:U32 xn:=zO
  have up:U32 pc:=yG
  have e:doS ⟨3,kd,k1,k2,imm⟩ d=(d.set kd ((pc+4)%4294967296)).setPc ((pc+xn)%4294967296):=by
    unfold doS
    dsimp only
    rw[era,erb,←hxn,←hpc]
    rw[if_neg om,if_neg om,if_pos om]
  rw[e]
  clear e
  have hne:=h.hbl
  have HA:=lI ua
  have HB:=lI ub
  have HN:=lI un
  have HU:=lI up
  obtain⟨w1,hw1⟩:∃w1,w1=w.alloc (.cells #[.int .i64 3,.int .i64 kd,.int .i64 k1,.int .i64 k2,.int .i32 imm] 82):=⟨_,rfl⟩
  have H1:Hid (qP cp hb ho vm 43 w1 d):=lI zN
  have G1:Hid (Cgo cp hb ho vm 43 w w1):=lI zJ
  have hbx:cp<w.heap.size:=h.lt
  have HX:Hid (w1.heap[w.heap.size]? =some (.cells #[.int .i64 3,.int .i64 kd,.int .i64 k1,.int .i64 k2,.int .i32 imm] 82 (0,0))):=lI zI
  have q0:(w1).cell? ⟨w.heap.size,0,none⟩=some (.int .i64 3):=zA
  have q1:(w1).cell? ⟨w.heap.size,1,none⟩=some (.int .i64 kd):=zA
  have q2:(w1).cell? ⟨w.heap.size,2,none⟩=some (.int .i64 k1):=zA
  have q3:(w1).cell? ⟨w.heap.size,3,none⟩=some (.int .i64 k2):=zA
  have q4:(w1).cell? ⟨w.heap.size,4,none⟩=some (.int .i32 imm):=zA
  have HW1:=lI hw1
  clear hw1 h
  have hp:=H1.out.ptr
  have hca:=H1.out.hart.get (qV wf.h k1 h1)
  have hcb:=H1.out.hart.get (qV wf.h k2 h2)
  have hc32:=H1.out.hart.get (qe wf.h)
  rw[←hxa]at hca
  rw[←hxb]at hcb
  rw[←hpc]at hc32
  have HPC:=lI hpc
  have HIM:=lI hxn
  clear hxa hxb era erb hpc ua ub un up hxn
  obtain⟨b1,b2⟩:=HU.out
  have j1:(k1:Int)<32:=om
  have j2:(k2:Int)<32:=om
  go_enter Tryz.func45,Tryz.ntmps45
  go_upto_region 1 with(fail)
  rw[←HW1.out]
  go_quiet (fail)
  rw[←HIM.out]
  clear hca hcb
  obtain⟨n0,n1⟩:=HN.out
  go_upto_region 10 with(go_at_call 71;refine(uN (H1.out.drewN _) wf.h kd hd _).mono ?_;rintro e w2 ⟨rfl,hc,hg⟩)
  have HG:Hid (Cgo cp hb ho vm 43 w w2):=lI (((G1.out.drewN _)).trans hg)
  have wf2:=(wf.set kd ((pc+4)%4294967296) (QG _)).h
  clear hg q0 q1 q2 q3 q4
  clear hp hc32
  have hp:=hc.ptr
  have h32:=hc.hart.get (qe wf2)
  have ep:(d.set kd ((pc+4)%4294967296)).h.pc=pc:=by rw[HPC.out];unfold qD.set Hart.setReg;split<;>rfl
  rw[ep]at h32
  have f32:=hc.hfz (ho+32)
  have HC:=lI hc
  clear hc
  go_wp2_with fail
  go_end0
  exact⟨rfl,HC.out.setHart 32 _ _ (qh wf2.len _) yS,HG.out.trans (Cgo.setHart _ 32 om _)⟩
theorem do_jalr(h:qP cp hb ho vm 43 w d)(wf:d.Wf)(hlen:d.out.length<1099511627776)(kd k1 k2:Nat)(imm:Int)(hd:kd<32)(h1:k1<32)(h2:k2<32)(hi: -2147483648≤imm∧imm≤2147483647):
    Calls Tryz.prog 45 #[.pointer (some ⟨cp,0,none⟩),.agg #[.int .i64 4,.int .i64 kd,.int .i64 k1,.int .i64 k2,.int .i32 imm]] w fun e w'=>e=.returned (.tuple #[])∧qP cp hb ho vm 43 w' (doS ⟨4,kd,k1,k2,imm⟩ d)∧Cgo cp hb ho vm 43 w w':=by
  obtain⟨i0,i1⟩:=hi
  obtain⟨xa,hxa⟩:∃x,x=d.h.regs.getD k1 0:=⟨_,rfl⟩
  obtain⟨xb,hxb⟩:∃x,x=d.h.regs.getD k2 0:=⟨_,rfl⟩
  obtain⟨xn,hxn⟩:∃x,x=imm%4294967296:=⟨_,rfl⟩
  obtain⟨pc,hpc⟩:∃x,x=d.h.pc:=⟨_,rfl⟩
  have era:d.h.reg (k1:Int)=xa:=zX
  have erb:d.h.reg (k2:Int)=xb:=zW
  have ua:U32 xa:=zZ
  have ub:U32 xb:=zY
  have un:U32 xn:=zO
  have up:U32 pc:=yG
  have e:doS ⟨4,kd,k1,k2,imm⟩ d=(d.set kd ((pc+4)%4294967296)).setPc ((xa+xn)%4294967296-(xa+xn)%4294967296%2):=by
    unfold doS
    dsimp only
    rw[era,erb,←hxn,←hpc]
    rw[if_neg om,if_neg om,if_neg om,if_pos om]
  rw[e]
  clear e
  obtain⟨xt,hxt⟩:∃x,x=(xa+xn)%4294967296-(xa+xn)%4294967296%2:=⟨_,rfl⟩
  rw[←hxt]
  have HT:=lI hxt
  clear hxt
  have hne:=h.hbl
  have HA:=lI ua
  have HB:=lI ub
  have HN:=lI un
  have HU:=lI up
  obtain⟨w1,hw1⟩:∃w1,w1=w.alloc (.cells #[.int .i64 4,.int .i64 kd,.int .i64 k1,.int .i64 k2,.int .i32 imm] 82):=⟨_,rfl⟩
  have H1:Hid (qP cp hb ho vm 43 w1 d):=lI zN
  have G1:Hid (Cgo cp hb ho vm 43 w w1):=lI zJ
  have hbx:cp<w.heap.size:=h.lt
  have HX:Hid (w1.heap[w.heap.size]? =some (.cells #[.int .i64 4,.int .i64 kd,.int .i64 k1,.int .i64 k2,.int .i32 imm] 82 (0,0))):=lI zI
  have q0:(w1).cell? ⟨w.heap.size,0,none⟩=some (.int .i64 4):=zA
  have q1:(w1).cell? ⟨w.heap.size,1,none⟩=some (.int .i64 kd):=zA
  have q2:(w1).cell? ⟨w.heap.size,2,none⟩=some (.int .i64 k1):=zA
  have q3:(w1).cell? ⟨w.heap.size,3,none⟩=some (.int .i64 k2):=zA
  have q4:(w1).cell? ⟨w.heap.size,4,none⟩=some (.int .i32 imm):=zA
  have HW1:=lI hw1
  clear hw1 h
  have hp:=H1.out.ptr
  have hca:=H1.out.hart.get (qV wf.h k1 h1)
  have hcb:=H1.out.hart.get (qV wf.h k2 h2)
  have hc32:=H1.out.hart.get (qe wf.h)
  rw[←hxa]at hca
  rw[←hxb]at hcb
  rw[←hpc]at hc32
  have HPC:=lI hpc
  have HIM:=lI hxn
  clear hxa hxb era erb hpc ua ub un up hxn
  obtain⟨b1,b2⟩:=HU.out
  have j1:(k1:Int)<32:=om
  have j2:(k2:Int)<32:=om
  go_enter Tryz.func45,Tryz.ntmps45
  go_upto_region 1 with(fail)
  rw[←HW1.out]
  go_quiet (fail)
  rw[←HIM.out]
  clear hca hcb
  obtain⟨n0,n1⟩:=HN.out
  obtain⟨a0,a1⟩:=HA.out
  have hand:bits .andNot .u32 ((xa+xn)%4294967296) 1=xt:=by rw[HT.out];exact andNot1 _ (QG _)
  go_upto_region 37 with(go_at_call 71;refine(uN (H1.out.drewN _) wf.h kd hd _).mono ?_;rintro e w2 ⟨rfl,hc,hg⟩)
  have HG:Hid (Cgo cp hb ho vm 43 w w2):=lI (((G1.out.drewN _)).trans hg)
  have wf2:=(wf.set kd ((pc+4)%4294967296) (QG _)).h
  clear hg q0 q1 q2 q3 q4
  clear hp hc32
  have hp:=hc.ptr
  have h32:=hc.hart.get (qe wf2)
  have f32:=hc.hfz (ho+32)
  have HC:=lI hc
  clear hc
  go_wp2_with fail
  go_end0
  exact⟨rfl,HC.out.setHart 32 _ _ (qh wf2.len _) yS,HG.out.trans (Cgo.setHart _ 32 om _)⟩
end
section
variable {cp hb ho : Nat} {vm : Value} {d : qD} {w : World}
theorem do_branch_true(h:qP cp hb ho vm 43 w d)(wf:d.Wf)(hlen:d.out.length<1099511627776)(op:Int)(kd k1 k2:Nat)(imm:Int)(hop:5≤op∧op≤10)(hd:kd<32)(h1:k1<32)(h2:k2<32)(hq:holds op (d.h.reg k1) (d.h.reg k2)=true)(hi: -2147483648≤imm∧imm≤2147483647):
    Calls Tryz.prog 45 #[.pointer (some ⟨cp,0,none⟩),.agg #[.int .i64 op,.int .i64 kd,.int .i64 k1,.int .i64 k2,.int .i32 imm]] w fun e w'=>e=.returned (.tuple #[])∧qP cp hb ho vm 43 w' (doS ⟨op,kd,k1,k2,imm⟩ d)∧Cgo cp hb ho vm 43 w w':=by
  obtain⟨o0,o1⟩:=hop
  have f1:(op==1)=false:=sH.2 om
  have f2:(op==2)=false:=sH.2 om
  have f3:(op==3)=false:=sH.2 om
  have f4:(op==4)=false:=sH.2 om
  obtain⟨i0,i1⟩:=hi
  obtain⟨xa,hxa⟩:∃x,x=d.h.regs.getD k1 0:=⟨_,rfl⟩
  obtain⟨xb,hxb⟩:∃x,x=d.h.regs.getD k2 0:=⟨_,rfl⟩
  obtain⟨xn,hxn⟩:∃x,x=imm%4294967296:=⟨_,rfl⟩
  obtain⟨pc,hpc⟩:∃x,x=d.h.pc:=⟨_,rfl⟩
  have era:d.h.reg (k1:Int)=xa:=zX
  have erb:d.h.reg (k2:Int)=xb:=zW
  rw[era,erb]at hq
  have ua:U32 xa:=zZ
  have ub:U32 xb:=zY
  have un:U32 xn:=zO
  have up:U32 pc:=yG
  have e:doS ⟨op,kd,k1,k2,imm⟩ d=d.setPc (if holds op xa xb=true then(pc+xn)%4294967296 else(pc+4)%4294967296):=by
    unfold doS
    dsimp only
    rw[era,erb,←hxn,←hpc]
    rw[if_neg om,if_neg om,if_neg om,if_neg om,if_pos om]
  rw[e]
  clear e
  have HH:=lI (fun W=>holds_any op xa xb W ua.1 ua.2 ub.1 ub.2)
  rw[show holds op xa xb=true from hq]at HH
  rw[show holds op xa xb=true from hq,if_pos rfl]
  have hne:=h.hbl
  have HA:=lI ua
  have HB:=lI ub
  have HN:=lI un
  have HU:=lI up
  obtain⟨w1,hw1⟩:∃w1,w1=w.alloc (.cells #[.int .i64 op,.int .i64 kd,.int .i64 k1,.int .i64 k2,.int .i32 imm] 82):=⟨_,rfl⟩
  have H1:Hid (qP cp hb ho vm 43 w1 d):=lI zN
  have G1:Hid (Cgo cp hb ho vm 43 w w1):=lI zJ
  have hbx:cp<w.heap.size:=h.lt
  have HX:Hid (w1.heap[w.heap.size]? =some (.cells #[.int .i64 op,.int .i64 kd,.int .i64 k1,.int .i64 k2,.int .i32 imm] 82 (0,0))):=lI zI
  have q0:(w1).cell? ⟨w.heap.size,0,none⟩=some (.int .i64 op):=zA
  have q1:(w1).cell? ⟨w.heap.size,1,none⟩=some (.int .i64 kd):=zA
  have q2:(w1).cell? ⟨w.heap.size,2,none⟩=some (.int .i64 k1):=zA
  have q3:(w1).cell? ⟨w.heap.size,3,none⟩=some (.int .i64 k2):=zA
  have q4:(w1).cell? ⟨w.heap.size,4,none⟩=some (.int .i32 imm):=zA
  have HW1:=lI hw1
  clear hw1 h
  have hp:=H1.out.ptr
  have hca:=H1.out.hart.get (qV wf.h k1 h1)
  have hcb:=H1.out.hart.get (qV wf.h k2 h2)
  have hc32:=H1.out.hart.get (qe wf.h)
  rw[←hxa]at hca
  rw[←hxb]at hcb
  rw[←hpc]at hc32
  have HPC:=lI hpc
  have HIM:=lI hxn
  clear hxa hxb era erb hpc ua ub un up hxn
  obtain⟨b1,b2⟩:=HU.out
  have j1:(k1:Int)<32:=om
  have j2:(k2:Int)<32:=om
  go_enter Tryz.func45,Tryz.ntmps45
  go_upto_region 1 with(fail)
  rw[←HW1.out]
  go_quiet (fail)
  rw[←HIM.out]
  clear hca hcb
  obtain⟨n0,n1⟩:=HN.out
  go_upto_region 15 with(fail)
  go_upto_region 37 with(go_at_call 72;refine(HH.out _).mono ?_;rintro e w2 ⟨rfl,rfl⟩)
  have h32:=hc32
  have f32:=H1.out.hfz (ho+32)
  clear q0 q1 q2 q3 q4 hc32
  go_wp2_with fail
  go_end0
  exact⟨rfl,(H1.out.drewN _).setHart 32 _ _ (qh wf.h.len _) xV,(G1.out.drewN _).trans (Cgo.setHart _ 32 om _)⟩
theorem do_branch_false(h:qP cp hb ho vm 43 w d)(wf:d.Wf)(hlen:d.out.length<1099511627776)(op:Int)(kd k1 k2:Nat)(imm:Int)(hop:5≤op∧op≤10)(hd:kd<32)(h1:k1<32)(h2:k2<32)(hq:holds op (d.h.reg k1) (d.h.reg k2)=false)(hi: -2147483648≤imm∧imm≤2147483647):
    Calls Tryz.prog 45 #[.pointer (some ⟨cp,0,none⟩),.agg #[.int .i64 op,.int .i64 kd,.int .i64 k1,.int .i64 k2,.int .i32 imm]] w fun e w'=>e=.returned (.tuple #[])∧qP cp hb ho vm 43 w' (doS ⟨op,kd,k1,k2,imm⟩ d)∧Cgo cp hb ho vm 43 w w':=by
  obtain⟨o0,o1⟩:=hop
  have f1:(op==1)=false:=sH.2 om
  have f2:(op==2)=false:=sH.2 om
  have f3:(op==3)=false:=sH.2 om
  have f4:(op==4)=false:=sH.2 om
  obtain⟨i0,i1⟩:=hi
  obtain⟨xa,hxa⟩:∃x,x=d.h.regs.getD k1 0:=⟨_,rfl⟩
  obtain⟨xb,hxb⟩:∃x,x=d.h.regs.getD k2 0:=⟨_,rfl⟩
  obtain⟨xn,hxn⟩:∃x,x=imm%4294967296:=⟨_,rfl⟩
  obtain⟨pc,hpc⟩:∃x,x=d.h.pc:=⟨_,rfl⟩
  have era:d.h.reg (k1:Int)=xa:=zX
  have erb:d.h.reg (k2:Int)=xb:=zW
  rw[era,erb]at hq
  have ua:U32 xa:=zZ
  have ub:U32 xb:=zY
  have un:U32 xn:=zO
  have up:U32 pc:=yG
  have e:doS ⟨op,kd,k1,k2,imm⟩ d=d.setPc (if holds op xa xb=true then(pc+xn)%4294967296 else(pc+4)%4294967296):=by
    unfold doS
    dsimp only
    rw[era,erb,←hxn,←hpc]
    rw[if_neg om,if_neg om,if_neg om,if_neg om,if_pos om]
  rw[e]
  clear e
  have HH:=lI (fun W=>holds_any op xa xb W ua.1 ua.2 ub.1 ub.2)
  rw[show holds op xa xb=false from hq]at HH
  rw[show holds op xa xb=false from hq,if_neg zL]
  have hne:=h.hbl
  have HA:=lI ua
  have HB:=lI ub
  have HN:=lI un
  have HU:=lI up
  obtain⟨w1,hw1⟩:∃w1,w1=w.alloc (.cells #[.int .i64 op,.int .i64 kd,.int .i64 k1,.int .i64 k2,.int .i32 imm] 82):=⟨_,rfl⟩
  have H1:Hid (qP cp hb ho vm 43 w1 d):=lI zN
  have G1:Hid (Cgo cp hb ho vm 43 w w1):=lI zJ
  have hbx:cp<w.heap.size:=h.lt
  have HX:Hid (w1.heap[w.heap.size]? =some (.cells #[.int .i64 op,.int .i64 kd,.int .i64 k1,.int .i64 k2,.int .i32 imm] 82 (0,0))):=lI zI
  have q0:(w1).cell? ⟨w.heap.size,0,none⟩=some (.int .i64 op):=zA
  have q1:(w1).cell? ⟨w.heap.size,1,none⟩=some (.int .i64 kd):=zA
  have q2:(w1).cell? ⟨w.heap.size,2,none⟩=some (.int .i64 k1):=zA
  have q3:(w1).cell? ⟨w.heap.size,3,none⟩=some (.int .i64 k2):=zA
  have q4:(w1).cell? ⟨w.heap.size,4,none⟩=some (.int .i32 imm):=zA
  have HW1:=lI hw1
  clear hw1 h
  have hp:=H1.out.ptr
  have hca:=H1.out.hart.get (qV wf.h k1 h1)
  have hcb:=H1.out.hart.get (qV wf.h k2 h2)
  have hc32:=H1.out.hart.get (qe wf.h)
  rw[←hxa]at hca
  rw[←hxb]at hcb
  rw[←hpc]at hc32
  have HPC:=lI hpc
  have HIM:=lI hxn
  clear hxa hxb era erb hpc ua ub un up hxn
  obtain⟨b1,b2⟩:=HU.out
  have j1:(k1:Int)<32:=om
  have j2:(k2:Int)<32:=om
  go_enter Tryz.func45,Tryz.ntmps45
  go_upto_region 1 with(fail)
  rw[←HW1.out]
  go_quiet (fail)
  rw[←HIM.out]
  clear hca hcb
  obtain⟨n0,n1⟩:=HN.out
  go_upto_region 15 with(fail)
  go_upto_region 37 with(go_at_call 72;refine(HH.out _).mono ?_;rintro e w2 ⟨rfl,rfl⟩)
  have h32:=hc32
  have f32:=H1.out.hfz (ho+32)
  clear q0 q1 q2 q3 q4 hc32
  go_wp2_with fail
  go_end0
  exact⟨rfl,(H1.out.drewN _).setHart 32 _ _ (qh wf.h.len _) xV,(G1.out.drewN _).trans (Cgo.setHart _ 32 om _)⟩
end
section
variable {cp hb ho : Nat} {vm : Value} {d : qD} {w : World}
theorem do_load_no(h:qP cp hb ho vm 43 w d)(wf:d.Wf)(hlen:d.out.length<1099511627776)(op:Int)(kd k1 k2:Nat)(imm:Int)(hop:11≤op∧op≤15)(hd:kd<32)(h1:k1<32)(h2:k2<32)(hq:qN d.m op ((d.h.reg k1+imm%4294967296)%4294967296)=false)(hi: -2147483648≤imm∧imm≤2147483647):
    Calls Tryz.prog 45 #[.pointer (some ⟨cp,0,none⟩),.agg #[.int .i64 op,.int .i64 kd,.int .i64 k1,.int .i64 k2,.int .i32 imm]] w fun e w'=>e=.returned (.tuple #[])∧qP cp hb ho vm 43 w' (doS ⟨op,kd,k1,k2,imm⟩ d)∧Cgo cp hb ho vm 43 w w':=by
  obtain⟨o0,o1⟩:=hop
  have f1:(op==1)=false:=sH.2 om
  have f2:(op==2)=false:=sH.2 om
  have f3:(op==3)=false:=sH.2 om
  have f4:(op==4)=false:=sH.2 om
  obtain⟨i0,i1⟩:=hi
  obtain⟨xa,hxa⟩:∃x,x=d.h.regs.getD k1 0:=⟨_,rfl⟩
  obtain⟨xb,hxb⟩:∃x,x=d.h.regs.getD k2 0:=⟨_,rfl⟩
  obtain⟨xn,hxn⟩:∃x,x=imm%4294967296:=⟨_,rfl⟩
  obtain⟨pc,hpc⟩:∃x,x=d.h.pc:=⟨_,rfl⟩
  have era:d.h.reg (k1:Int)=xa:=zX
  have erb:d.h.reg (k2:Int)=xb:=zW
  rw[era,←hxn]at hq
  have ua:U32 xa:=zZ
  have ub:U32 xb:=zY
  have un:U32 xn:=zO
  have up:U32 pc:=yG
  have e:doS ⟨op,kd,k1,k2,imm⟩ d=d.trap 3:=by
    unfold doS
    dsimp only
    rw[era,erb,←hxn,←hpc]
    rw[if_neg om,if_neg om,if_neg om,if_neg om,if_neg om,if_pos om,if_neg wF]
  rw[e]
  clear e
  have HL:=lI (fun W hW=>load_any vm d.m op ((xa+xn)%4294967296) W hW (QG _) wf.m.getD)
  rw[hq]at HL
  have hne:=h.hbl
  have HA:=lI ua
  have HB:=lI ub
  have HN:=lI un
  have HU:=lI up
  obtain⟨w1,hw1⟩:∃w1,w1=w.alloc (.cells #[.int .i64 op,.int .i64 kd,.int .i64 k1,.int .i64 k2,.int .i32 imm] 82):=⟨_,rfl⟩
  have H1:Hid (qP cp hb ho vm 43 w1 d):=lI zN
  have G1:Hid (Cgo cp hb ho vm 43 w w1):=lI zJ
  have hbx:cp<w.heap.size:=h.lt
  have HX:Hid (w1.heap[w.heap.size]? =some (.cells #[.int .i64 op,.int .i64 kd,.int .i64 k1,.int .i64 k2,.int .i32 imm] 82 (0,0))):=lI zI
  have q0:(w1).cell? ⟨w.heap.size,0,none⟩=some (.int .i64 op):=zA
  have q1:(w1).cell? ⟨w.heap.size,1,none⟩=some (.int .i64 kd):=zA
  have q2:(w1).cell? ⟨w.heap.size,2,none⟩=some (.int .i64 k1):=zA
  have q3:(w1).cell? ⟨w.heap.size,3,none⟩=some (.int .i64 k2):=zA
  have q4:(w1).cell? ⟨w.heap.size,4,none⟩=some (.int .i32 imm):=zA
  have HW1:=lI hw1
  clear hw1 h
  have hp:=H1.out.ptr
  have hca:=H1.out.hart.get (qV wf.h k1 h1)
  have hcb:=H1.out.hart.get (qV wf.h k2 h2)
  have hc32:=H1.out.hart.get (qe wf.h)
  rw[←hxa]at hca
  rw[←hxb]at hcb
  rw[←hpc]at hc32
  have HPC:=lI hpc
  have HIM:=lI hxn
  clear hxa hxb era erb hpc ua ub un up hxn
  obtain⟨b1,b2⟩:=HU.out
  have j1:(k1:Int)<32:=om
  have j2:(k2:Int)<32:=om
  go_enter Tryz.func45,Tryz.ntmps45
  go_upto_region 1 with(fail)
  rw[←HW1.out]
  go_quiet (fail)
  rw[←HIM.out]
  clear hca hcb
  obtain⟨n0,n1⟩:=HN.out
  obtain⟨a0,a1⟩:=HA.out
  have hm:=H1.out.mem
  go_upto_region 18 with(fail)
  go_upto_region 20 with(go_at_call 69;refine(HL.out _ (H1.out.drewN _).bytes).mono ?_;rintro e w2 ⟨rfl,rfl⟩)
  clear hm q0 q1 q2 q3 q4
  clear hp hc32
  go_wp2_with (go_at_call 44;refine(uC (H1.out.drewN _) wf.h _).mono ?_;rintro e w2 ⟨rfl,hc,hg⟩)
  exact sP (results_none zP _ _ _) rfl ⟨rfl,hc,(G1.out.drewN _).trans hg⟩
theorem do_load_yes(h:qP cp hb ho vm 43 w d)(wf:d.Wf)(hlen:d.out.length<1099511627776)(op:Int)(kd k1 k2:Nat)(imm:Int)(hop:11≤op∧op≤15)(hd:kd<32)(h1:k1<32)(h2:k2<32)(hq:qN d.m op ((d.h.reg k1+imm%4294967296)%4294967296)=true)(hi: -2147483648≤imm∧imm≤2147483647):
    Calls Tryz.prog 45 #[.pointer (some ⟨cp,0,none⟩),.agg #[.int .i64 op,.int .i64 kd,.int .i64 k1,.int .i64 k2,.int .i32 imm]] w fun e w'=>e=.returned (.tuple #[])∧qP cp hb ho vm 43 w' (doS ⟨op,kd,k1,k2,imm⟩ d)∧Cgo cp hb ho vm 43 w w':=by
  obtain⟨o0,o1⟩:=hop
  have f1:(op==1)=false:=sH.2 om
  have f2:(op==2)=false:=sH.2 om
  have f3:(op==3)=false:=sH.2 om
  have f4:(op==4)=false:=sH.2 om
  obtain⟨i0,i1⟩:=hi
  obtain⟨xa,hxa⟩:∃x,x=d.h.regs.getD k1 0:=⟨_,rfl⟩
  obtain⟨xb,hxb⟩:∃x,x=d.h.regs.getD k2 0:=⟨_,rfl⟩
  obtain⟨xn,hxn⟩:∃x,x=imm%4294967296:=⟨_,rfl⟩
  obtain⟨pc,hpc⟩:∃x,x=d.h.pc:=⟨_,rfl⟩
  have era:d.h.reg (k1:Int)=xa:=zX
  have erb:d.h.reg (k2:Int)=xb:=zW
  rw[era,←hxn]at hq
  have ua:U32 xa:=zZ
  have ub:U32 xb:=zY
  have un:U32 xn:=zO
  have up:U32 pc:=yG
  have e:doS ⟨op,kd,k1,k2,imm⟩ d=(d.set kd (qa d.m op ((xa+xn)%4294967296))).setPc ((pc+4)%4294967296):=by
    unfold doS
    dsimp only
    rw[era,erb,←hxn,←hpc]
    rw[if_neg om,if_neg om,if_neg om,if_neg om,if_neg om,if_pos om,if_pos hq]
  rw[e]
  clear e
  have HL:=lI (fun W hW=>load_any vm d.m op ((xa+xn)%4294967296) W hW (QG _) wf.m.getD)
  rw[hq]at HL
  have HLU:=lI (Ju d.m op ((xa+xn)%4294967296) ⟨o0,o1⟩ (QG _) wf.m.getD)
  obtain⟨xl,hxl⟩:∃x,x=qa d.m op ((xa+xn)%4294967296):=⟨_,rfl⟩
  rw[←hxl]at HLU ⊢
  have HL2:Hid (∀W,Ints .u8 W vm d.m→Calls Tryz.prog 69 #[vm,.int .i64 op,.int .u32 ((xa+xn)%4294967296)] W fun e w'=>e=.returned (.tuple #[.int .u32 xl,.bool true])∧W=w'):=lI (by rw[hxl];exact HL.out)
  clear hxl HL
  have HL:=HL2
  clear HL2
  have hne:=h.hbl
  have HA:=lI ua
  have HB:=lI ub
  have HN:=lI un
  have HU:=lI up
  obtain⟨w1,hw1⟩:∃w1,w1=w.alloc (.cells #[.int .i64 op,.int .i64 kd,.int .i64 k1,.int .i64 k2,.int .i32 imm] 82):=⟨_,rfl⟩
  have H1:Hid (qP cp hb ho vm 43 w1 d):=lI zN
  have G1:Hid (Cgo cp hb ho vm 43 w w1):=lI zJ
  have hbx:cp<w.heap.size:=h.lt
  have HX:Hid (w1.heap[w.heap.size]? =some (.cells #[.int .i64 op,.int .i64 kd,.int .i64 k1,.int .i64 k2,.int .i32 imm] 82 (0,0))):=lI zI
  have q0:(w1).cell? ⟨w.heap.size,0,none⟩=some (.int .i64 op):=zA
  have q1:(w1).cell? ⟨w.heap.size,1,none⟩=some (.int .i64 kd):=zA
  have q2:(w1).cell? ⟨w.heap.size,2,none⟩=some (.int .i64 k1):=zA
  have q3:(w1).cell? ⟨w.heap.size,3,none⟩=some (.int .i64 k2):=zA
  have q4:(w1).cell? ⟨w.heap.size,4,none⟩=some (.int .i32 imm):=zA
  have HW1:=lI hw1
  clear hw1 h
  have hp:=H1.out.ptr
  have hca:=H1.out.hart.get (qV wf.h k1 h1)
  have hcb:=H1.out.hart.get (qV wf.h k2 h2)
  have hc32:=H1.out.hart.get (qe wf.h)
  rw[←hxa]at hca
  rw[←hxb]at hcb
  rw[←hpc]at hc32
  have HPC:=lI hpc
  have HIM:=lI hxn
  clear hxa hxb era erb hpc ua ub un up hxn
  obtain⟨b1,b2⟩:=HU.out
  have j1:(k1:Int)<32:=om
  have j2:(k2:Int)<32:=om
  go_enter Tryz.func45,Tryz.ntmps45
  go_upto_region 1 with(fail)
  rw[←HW1.out]
  go_quiet (fail)
  rw[←HIM.out]
  clear hca hcb
  obtain⟨n0,n1⟩:=HN.out
  obtain⟨a0,a1⟩:=HA.out
  have hm:=H1.out.mem
  go_upto_region 18 with(fail)
  go_upto_region 21 with(go_at_call 69;refine(HL.out _ (H1.out.drewN _).bytes).mono ?_;rintro e w2 ⟨rfl,rfl⟩)
  clear hm
  go_upto_region 37 with(go_at_call 71;refine(uN (H1.out.drewN _) wf.h kd hd _).mono ?_;rintro e w2 ⟨rfl,hc,hg⟩)
  have HG:Hid (Cgo cp hb ho vm 43 w w2):=lI (((G1.out.drewN _)).trans hg)
  have wf2:=(wf.set kd xl HLU.out).h
  clear hg q0 q1 q2 q3 q4
  clear hp hc32
  have hp:=hc.ptr
  have h32:=hc.hart.get (qe wf2)
  have f32:=hc.hfz (ho+32)
  have HC:=lI hc
  clear hc
  go_wp2_with fail
  go_end0
  exact⟨rfl,HC.out.setHart 32 _ _ (qh wf2.len _) yS,HG.out.trans (Cgo.setHart _ 32 om _)⟩
end
end Go.Proofs.YtlfnddmncbkjaacGreat.W
