import Derived.Test.YtlfnddmncbkjaabGreatDoorZGI
set_option linter.unusedVariables false
set_option linter.unusedSimpArgs false
set_option maxRecDepth 100000
set_option maxHeartbeats 4000000
namespace Go.Proofs.YtlfnddmncbkjaabGreatDoor.W
open Go.RowKit Fb Go.Lib
theorem cell_fourD(w:World)(a b c d:Value)(t:TypeId):∀j u,[a,b,c,d][j]? =some u→(w.alloc (.cells #[a,b,c,d] t)).cell? ((⟨w.heap.size,0,none⟩:Addr).add j)=some u:=by
  intro j u hj
  match j,hj with
  |0,hj=>simp at hj;subst hj;simp[Addr.add]
  |1,hj=>simp at hj;subst hj;simp[Addr.add]
  |2,hj=>simp at hj;subst hj;simp[Addr.add]
  |3,hj=>simp at hj;subst hj;simp[Addr.add]
  |(j+4),hj=>simp at hj
theorem say1_any(w:World)(pb:Nat)(wd:List UInt8)(n:Int)(hwd:wd.length≤1000000000)(hn:0≤n∧n≤9223372036854775807)(hpb:pb<w.heap.size)(hE:Env pb w):
    Calls Tryz.prog 10 #[.string (bs wd),.slice (some ⟨w.heap.size,0,none⟩) 1 1] (w.alloc (.cells #[.int .i64 n] 3)) fun e w'=>e=.returned (.string (bs (sayS wd [n])))∧Below (w.alloc (.cells #[.int .i64 n] 3)).heap.size (w.alloc (.cells #[.int .i64 n] 3)) w':=
  sayI_any _ wd [n] hwd zC (by intro m hm;rw[List.mem_singleton]at hm;rw[hm];exact hn) _ (Qu .i64 w [n] 3 zC) (lI (Jk hE.t (Below.alloc br (Nat.le_of_lt hpb) _) zL))
theorem uK:∀l:List Int,(l.flatMap JZ).length=4*l.length
  |[]=>rfl
  | x :: l => by
    rw[List.flatMap_cons,sW,uK l,List.length_cons]
    show 4+_=_
    omega
theorem pwords_any{pb:Nat}{vm vh vp vd:Value}{us:List UndD}{w:World}{p:PlD}(hp:PAt pb vm vh vp vd us w p)(hr:p.ran=false)(v:Value)(l:List Int)(hl:w.ownsRow (pb+1) 40 1 v l.length (l.map (Value.int .u32)))(hu:∀x∈l,U32 x)(hll:l.length≤1000000000)(HE:Hid (Env pb w)):
    Calls Tryz.prog 9 #[.pointer (some ⟨pb,0,none⟩),v] w fun e w'=>e=.returned (.string (bs (wordsS p l).1))∧PlAt pb w' (wordsS p l).2∧Below pb w w':=by
  obtain⟨al,cl,rfl⟩:=qE hl
  obtain⟨am,cm,rfl⟩:=qE hp.oy
  have c0:=hp.at_.get (j:=0) rfl
  simp only[sM]at c0
  have hml:=hp.lim.1
  have HP:=lI hp
  have HL:=lI hl
  have HU:=lI hu
  have HR:=lI hr
  clear hp hl hu hr
  by_cases hbig:4096<p.m.mem.length+4*l.length
  · have hS:wordsS p l=(qS,p):=if_pos hbig
    rw[hS]
    have hi:(4096:Int)<(p.m.mem.length:Int)+4*(l.length:Int):=om
    clear hS hbig
    go_enter Tryz.func9,Tryz.ntmps9
    go_wp2_with fail
    go_ret
    exact⟨rfl,⟨_,_,_,_,_,HP.out⟩,Below.refl _ _⟩
  · have hi:¬(4096:Int)<(p.m.mem.length:Int)+4*(l.length:Int):=om
    go_enter Tryz.func9,Tryz.ntmps9
    go_wp2_with fail
    have HW0:Hid (wordsS p l=(sayS okS [((p.m.mem++l.flatMap JZ).length:Int)],{p with m:={p.m with mem:=p.m.mem++l.flatMap JZ}})):=lI (if_neg hbig)
    obtain⟨i0,hi0,hz0,hz1,hz2⟩:=info_parts info_u8
    clear c0 hi
    go_loopw [20] (fun i wr=>∃j:Nat,i=.int .i64 j∧j≤l.length∧∃vm,Hid (PAt pb vm vh vp vd us wr {p with m:={p.m with mem:=p.m.mem++(l.take j).flatMap JZ}}∧wr.ownsRow (pb+1) 40 1 (.slice al l.length cl) l.length (l.map (Value.int .u32))∧Below pb w wr)) (fun i _=>l.length-(intOf i).toNat)
    case atStart=>exact⟨0,rfl,Nat.zero_le _,_,lI ⟨by simpa using HP.out,HL.out,Below.refl _ _⟩⟩
    case round=>
      obtain⟨j,rfl,hj,vm,HI⟩:=hrel
      by_cases hlt:j<l.length
      · obtain⟨mj,hmj⟩:∃mj,mj=p.m.mem++(l.take j).flatMap JZ:=⟨_,rfl⟩
        rw[←hmj]at HI
        have hmjl:mj.length=p.m.mem.length+4*j:=by rw[hmj,sW,uK,List.length_take,Nat.min_eq_left hj]
        have HMJ:=lI hmj
        clear hmj
        obtain⟨g,rfl,h7⟩:∃g,al=some ⟨g,0,none⟩∧At wr g 0 (l.map (Value.int .u32)):=by
          rcases jF HI.out.2.1 with⟨e,e2,-⟩|⟨g,cap,e,-,-,-,-,h7,-⟩
          · omega
          · injection e with e1
            exact⟨g,e1,h7⟩
        have e0:=h7.get (j:=j) (v:=.int .u32 l[j]) (by simp[hlt])
        simp only[sM]at e0
        have hx:=HU.out l[j] (sR hlt)
        have HT:=lI (List.take_succ_eq_append_getElem hlt)
        generalize l[j]=x at *
        obtain⟨hx0,hx1⟩:=hx
        have c0:=HI.out.1.at_.get (j:=0) rfl
        simp only[sM]at c0
        have f0:=HI.out.1.frz 0
        obtain⟨am,cm,rfl⟩:=qE HI.out.1.oy
        have k0:(0:Int)≤(j:Int):=om
        have k1:(j:Int)<(l.length:Int):=om
        have hwb:x / 16777216%256=x / 16777216:=om
        have HN:=lI (show mj++[x%256,x / 256%256,x / 65536%256,x / 16777216]=p.m.mem++(l.take (j+1)).flatMap JZ by
          rw[HT.out,List.flatMap_append,←List.append_assoc,←HMJ.out]
          show _=mj++(JZ x++[])
          unfold JZ
          rw[hwb,List.append_nil])
        obtain⟨mm,hmm⟩:∃mm,mm=p.m.mem.length:=⟨_,rfl⟩
        rw[←hmm]at hmjl hml hbig
        have HOM:Hid (wr.ownsRow (pb+1) 5 1 (.slice am mj.length cm) mj.length (mj.map (Value.int .u8))):=lI HI.out.1.oy
        have hmb:mj.length+4≤4096:=om
        have HMM:=lI (And.intro hmm hmjl)
        clear h7 hwb hmm hmjl
        go_wp2_with (at_builtin;go_must (refine wpList_append_own _ rfl (.tmp 29) (.tmp 41) 27 rfl (pb+1) 5 i0 (.int .u8 0) 1 1 Tryz.underlying27 hi0 hz0 hz1 hz2 rfl zF _ _ _ rfl (HOM.out.alloc _) ⟨wr.heap.size,0,none⟩ 4 4 [.int .u8 (x%256),.int .u8 (x / 256%256),.int .u8 (x / 65536%256),.int .u8 (x / 16777216)] rfl rfl (cell_fourD _ _ _ _ _ _) (by intro u hu;simp at hu;rcases hu with rfl|rfl|rfl|rfl<;>rfl) zZ om (by have:=HI.out.1.lt;simp;omega) ?_;intro v3 w3 hown3 hgrow3 hnil3;obtain⟨a3,c3,rfl⟩:=qE hown3;(have c0':=(hgrow3.cell_far ⟨pb,0,none⟩ (by simp;have:=HI.out.1.lt;omega) (fun e=>by have:=(HI.out.1.oy.lt pb e.symm).1;omega)).trans ((sI _ _ ⟨pb,0,none⟩ HI.out.1.lt).trans c0));(have f0':=(hgrow3.frozen_far ⟨pb,0,none⟩ (by simp;have:=HI.out.1.lt;omega) (fun e=>by have:=(HI.out.1.oy.lt pb e.symm).1;omega)).trans ((World.frozen?_alloc_old _ _ ⟨pb,0,none⟩ (Nat.ne_of_lt HI.out.1.lt)).trans f0));(have HO3:=lI hown3);(have HG3:=lI hgrow3);clear hown3 hgrow3 hnil3 c0 f0))
        go_wp2_with fail
        go_roundw
        case rel=>
          obtain⟨h1,h2,h3⟩:=HI.out.1.mem HR.out (br.alloc (sN _) _) (bs:=[x%256,x / 256%256,x / 65536%256,x / 16777216]) HO3.out HG3.out (by show mj.length+4≤4096;omega) (by
            intro y hy
            simp only[List.mem_cons,List.not_mem_nil,or_false]at hy
            rcases hy with rfl|rfl|rfl|rfl<;>(constructor<;>omega))
          rw[HN.out]at h1
          exact⟨j+1,by simp,hlt,.slice a3 (mj.length+4) c3,lI ⟨h1,qI HI.out.2.1 (fun q e=>h3 q (HI.out.2.1.lt q e).2 (by have:=(HI.out.2.1.lt q e).1;omega) (QP HI.out.2.1 HI.out.1.oy zF q e)),HI.out.2.2.trans h2⟩⟩
        case measure=>simp[intOf];omega
      · obtain rfl:j=l.length:=om
        rw[List.take_length]at HI
        have hbl:(p.m.mem++l.flatMap JZ).length≤4096:=by rw[sW,uK];omega
        obtain⟨mj,hmj⟩:∃mj,mj=p.m.mem++l.flatMap JZ:=⟨_,rfl⟩
        rw[←hmj]at HI HW0 hbl
        have c0:=HI.out.1.at_.get (j:=0) rfl
        simp only[sM]at c0
        obtain⟨am,cm,rfl⟩:=qE HI.out.1.oy
        have HS:Hid (Calls Tryz.prog 10 #[.string ⟨#[111,107]⟩,.slice (some ⟨wr.heap.size,0,none⟩) 1 1] (wr.alloc (.cells #[.int .i64 mj.length] 3)) fun e w'=>e=.returned (.string (bs (sayS okS [(mj.length:Int)])))∧Below (wr.alloc (.cells #[.int .i64 mj.length] 3)).heap.size (wr.alloc (.cells #[.int .i64 mj.length] 3)) w'):=lI (say1_any wr pb okS mj.length zF ⟨om,om⟩ HI.out.1.lt (HE.out.keep HI.out.2.2))
        have HW0':=lI HW0.out
        clear hmj HW0 hbig hlt
        go_wp2_with fail
        refine HS.out.mono ?_
        rintro e w5 ⟨rfl,hb5⟩
        have HB5:=lI hb5
        clear hb5
        go_wp2_with fail
        go_ret
        have hb:Below wr.heap.size wr w5:=((Below.refl wr.heap.size wr).alloc (sN _) _).trans (HB5.out.mono zC)
        rw[HW0'.out]
        exact⟨rfl,⟨_,_,_,_,_,HI.out.1.below hb⟩,HI.out.2.2.trans (hb.mono (Nat.le_of_lt HI.out.1.lt))⟩
theorem cf{p:Prop}(h:p:=by
 go_wp2_with fail
 go_ret
 rw[HS.out]
 exact⟨rfl,⟨_,_,_,_,_,HP.out⟩,Below.refl _ _⟩):p:=h
theorem pset_any{pb:Nat}{vm vh vp vd:Value}{us:List UndD}{w:World}{p:PlD}(hp:PAt pb vm vh vp vd us w p)(hr:p.ran=false)(h r x:Int)(hh:U32 h)(hrr:U32 r)(hx:U32 x):
    Calls Tryz.prog 11 #[.pointer (some ⟨pb,0,none⟩),.int .u32 h,.int .u32 r,.int .u32 x] w fun e w'=>e=.returned (.string (bs (setS p h r x).1))∧PlAt pb w' (setS p h r x).2∧Below pb w w':=by
  obtain⟨ah,ch,rfl⟩:=qE hp.oh
  have c1:=hp.at_.get (j:=1) rfl
  simp only[sM]at c1
  have hhl:=hp.lim.2.1
  obtain⟨hh0,hh1⟩:=hh
  obtain⟨hr0,hr1⟩:=hrr
  have HP:=lI hp
  have HR:=lI hr
  have HX:=lI hx
  have hw32:(p.m.harts.length:Int)%4294967296=p.m.harts.length:=om
  clear hp hr hx
  obtain⟨S,hS⟩:∃S,S=setS p h r x:=⟨_,rfl⟩
  rw[←hS]
  by_cases hb:(p.m.harts.length:Int)≤h∨r<1∨31<r
  · have HS:Hid (S=(qS,p)):=lI (by rw[hS];exact if_pos hb)
    clear hS
    go_enter Tryz.func11,Tryz.ntmps11
    by_cases h1:(p.m.harts.length:Int)≤h
    · exact cf
    · by_cases h2:r<1
      · exact cf
      · have h3:31<r:=om
        exact cf
  · have HS:Hid (S=(okS,{p with m:={p.m with harts:=p.m.harts.set h.toNat {(p.m.harts.getD h.toNat qz)with regs:=(p.m.harts.getD h.toNat qz).regs.set r.toNat x}}})):=lI (by rw[hS];exact if_neg hb)
    have h1:¬(p.m.harts.length:Int)≤h:=om
    have h2:¬r<1:=om
    have h3:¬31<r:=om
    obtain⟨k,rfl⟩:=sQ hh0
    obtain⟨q,rfl⟩:=sQ hr0
    have hk:k<p.m.harts.length:=om
    obtain⟨g,rfl,v0,cq,fq⟩:∃g,ah=some ⟨g,0,none⟩∧∃v0,w.cell? ⟨g,k*37+q,none⟩=some v0∧w.frozen? ⟨g,k*37+q,none⟩=false:=by
      rcases jF HP.out.oh with⟨e,e2,-⟩|⟨g,cap,e,-,-,-,-,h7,h8⟩
      · omega
      · injection e with e1
        have:=jc h7 (fun y hy=>qG (HP.out.wf.harts y hy)) hk
        exact⟨g,e1,_,this q (by rw[qG (HP.out.wf.harts _ (sR hk))];omega),h8 _⟩
    have H7:=lI (HP.out.reg HR.out rfl hk (r:=q) om om HX.out)
    rw[sV,sV]at HS
    clear hS hb hh0 hh1 hr0 hr1
    go_enter Tryz.func11,Tryz.ntmps11
    go_wp2_with fail
    go_ret
    rw[HS.out]
    exact⟨rfl,⟨_,_,_,_,_,H7.out.1⟩,H7.out.2⟩
theorem PAt.mach{pb:Nat}{vm vh vp vd vm2 vh2:Value}{us:List UndD}{w w1:World}{p:PlD}{m2:Mach}(h:PAt pb vm vh vp vd us w p)(hb:Below w.heap.size w w1)
    (o1:w1.ownsRow (pb+1) 5 1 vm2 m2.mem.length (m2.mem.map (Value.int .u8))) (o2:w1.ownsRow (pb+1) 43 37 vh2 m2.harts.length (m2.harts.flatMap qJ)) (wf:m2.Wf) (oks:∀x∈m2.harts,x.ok=true) (l1:m2.mem.length≤4096) (l2:m2.harts.length≤4):
    PAt pb vm2 vh2 (.slice none 0 0) vd us (((w1.setCell ⟨pb,0,none⟩ vm2).setCell ⟨pb,1,none⟩ vh2).setCell ⟨pb,2,none⟩ (.slice none 0 0)) {p with m:=m2,ps:=[]}∧Below pb w (((w1.setCell ⟨pb,0,none⟩ vm2).setCell ⟨pb,1,none⟩ vh2).setCell ⟨pb,2,none⟩ (.slice none 0 0)):=by
  have h1:=h.below hb
  have hk:∀q,pb+1≤q→(((w1.setCell ⟨pb,0,none⟩ vm2).setCell ⟨pb,1,none⟩ vh2).setCell ⟨pb,2,none⟩ (.slice none 0 0)).heap[q]? =w1.heap[q]? :=fun q hq=>
    ((sT _ _ _ _ yP).trans (sT _ _ _ _ yP)).trans (sT _ _ _ _ yP)
  refine⟨⟨by simpa using ((h1.at_.set 0 zC vm2).set 1 zC vh2).set 2 zC (.slice none 0 0),fun o=>(sL _ _ _ _).trans ((sL _ _ _ _).trans ((sL _ _ _ _).trans (h1.frz o))),qI o1 (fun g e=>hk g (o1.lt g e).1),qI o2 (fun g e=>hk g (o2.lt g e).1),World.ownsRow_nil _ _ _ _,fun e=>⟨(h1.up e).1.keep (fun q _ h2 _=>hk q h2),(h1.up e).2⟩,h.vd,wf,oks,⟨l1,l2,Nat.zero_le _⟩,(by intro q hq;cases hq)⟩, ?_⟩
  exact(((hb.mono (Nat.le_of_lt h.lt)).setCell (p:=⟨pb,0,none⟩) (sN _) _).setCell (p:=⟨pb,1,none⟩) (sN _) _).setCell (p:=⟨pb,2,none⟩) (sN _) _
theorem UM{pb:Nat}{W:World}{v:Value}{wd:List UInt8}{l:List Int}(hwd:wd.length≤1000000000)(hll:l.length≤1000000000)(hr:∀n∈l,0≤n∧n≤9223372036854775807)(hv:Ints .i64 W v l)(hE:Env pb W)(hle:pb≤W.heap.size):
    Calls Tryz.prog 10 #[.string (bs wd),v] W fun e w'=>e=.returned (.string (bs (sayS wd l)))∧Below W.heap.size W w':=sayI_any v wd l hwd hll hr W hv (lI (Jk hE.t br hle))
theorem JV{pb:Nat}{W:World}{v:Value}{wd:List UInt8}{l:List Int}(hwd:wd.length≤1000000000)(hll:l.length≤1000000000)(hr:∀n∈l,0≤n∧n≤4294967295)(hv:Ints .u32 W v l)(hE:Env pb W)(hle:pb≤W.heap.size):
    Calls Tryz.prog 31 #[.string (bs wd),v] W fun e w'=>e=.returned (.string (bs (sayS wd l)))∧Below W.heap.size W w':=sayU_any v wd l hwd hll hr W hv (lI (Jk hE.t br hle))
structure JM (B:Nat) (w:World) (vm vh vo:Value) (s:St):Prop where
  o1:w.ownsRow B 5 1 vm s.mem.length (s.mem.map (Value.int .u8))
  o2:w.ownsRow B 43 37 vh s.harts.length (s.harts.flatMap qJ)
  out:Ints .u32 w vo s.out
  far:∀q,vo.ownBlock=some q→B≤q
  wf:s.Wf
  oks:∀x∈s.harts,x.ok=true
  lim:s.harts.length≤4∧s.out.length≤1000000∧s.steps≤1000000
theorem JM.below{B:Nat}{w w':World}{vm vh vo:Value}{s:St}(h:JM B w vm vh vo s)(hb:Below w.heap.size w w'):JM B w' vm vh vo s:=⟨qP h.o1 hb,qP h.o2 hb,h.out.below hb,h.far,h.wf,h.oks,h.lim⟩
theorem JM.keep{B:Nat}{w w':World}{vm vh vo:Value}{s:St}(h:JM B w vm vh vo s)(hk:∀q,B≤q→w'.heap[q]? =w.heap[q]?):JM B w' vm vh vo s:=⟨qI h.o1 (fun g e=>hk g (h.o1.lt g e).1),qI h.o2 (fun g e=>hk g (h.o2.lt g e).1),QX h.out (fun g e=>hk g (h.far g e)),h.far,h.wf,h.oks,h.lim⟩
theorem JM.mono{B B':Nat}{w:World}{vm vh vo:Value}{s:St}(h:JM B w vm vh vo s)(hB:B'≤B):JM B' w vm vh vo s:=⟨qe h.o1 hB,qe h.o2 hB,h.out,fun q e=>Nat.le_trans hB (h.far q e),h.wf,h.oks,h.lim⟩
theorem pshown_any{pb:Nat}{vm vh vp vd:Value}{us:List UndD}{w:World}{p:PlD}(hp:PAt pb vm vh vp vd us w p)(vm2 vh2 vo:Value)(s:St)(steps e:Int)(HE:Hid (Env pb w))(he:0≤e∧e≤1000)(hz:(∃a n c,vm2=.slice a n c)∧(∃a n c,vh2=.slice a n c)∧∃a n c,vo=.slice a n c)(h0:e=0→steps=s.steps∧JM (pb+1) w vm2 vh2 vo s):
    Calls Tryz.prog 14 #[.pointer (some ⟨pb,0,none⟩),.agg #[vm2,vh2,vo,.int .i64 steps],.int .i64 e] w fun e' w'=>e'=.returned (.string (bs (ranS p s e).1))∧PlAt pb w' (ranS p s e).2∧Below pb w w':=by
  obtain⟨⟨a1,n1,c1',rfl⟩,⟨a2,n2,c2',rfl⟩,a3,n3,c3',rfl⟩:=hz
  have c0:=hp.at_.get (j:=0) rfl
  have c1:=hp.at_.get (j:=1) rfl
  have c2:=hp.at_.get (j:=2) rfl
  simp only[sM]at c0 c1 c2
  have f0:=hp.frz 0
  have f1:=hp.frz 1
  have f2:=hp.frz 2
  have hlt:=hp.lt
  have HP:=lI hp
  have H0:=lI h0
  obtain⟨w1,hw1⟩:∃w1,w1=w.alloc (.cells #[.slice a1 n1 c1',.slice a2 n2 c2',.slice a3 n3 c3',.int .i64 steps] 50):=⟨_,rfl⟩
  have hb1:Below w.heap.size w w1:=zI
  have s0:(w1).cell? ⟨w.heap.size,0,none⟩=some (.slice a1 n1 c1'):=zA
  have s1:(w1).cell? ⟨w.heap.size,1,none⟩=some (.slice a2 n2 c2'):=zA
  have s2:(w1).cell? ⟨w.heap.size,2,none⟩=some (.slice a3 n3 c3'):=zA
  have s3:(w1).cell? ⟨w.heap.size,3,none⟩=some (.int .i64 steps):=zA
  have hs1:w.heap.size<w1.heap.size:=zO
  have HW1:=lI hw1
  have HB1:=lI hb1
  clear hp h0 hw1
  go_enter Tryz.func14,Tryz.ntmps14
  go_upto_region 1 with(fail)
  rw[←HW1.out]
  by_cases hz0:e=0
  · subst hz0
    obtain⟨hst,hR⟩:=H0.out rfl
    subst hst
    have HRA:=lI hR
    clear hR
    have x0:=(hb1.cell (p:=⟨pb,0,none⟩) hlt).trans c0
    have x1:=(hb1.cell (p:=⟨pb,1,none⟩) hlt).trans c1
    have x2:=(hb1.cell (p:=⟨pb,2,none⟩) hlt).trans c2
    have g0:=(hb1.frozen (p:=⟨pb,0,none⟩) hlt).trans f0
    have g1:=(hb1.frozen (p:=⟨pb,1,none⟩) hlt).trans f1
    have g2:=(hb1.frozen (p:=⟨pb,2,none⟩) hlt).trans f2
    clear c0 c1 c2 f0 f1 f2
    have HRB:=lI (HRA.out.below HB1.out)
    have HPM:=lI (HP.out.mach HB1.out HRB.out.o1 HRB.out.o2 (m2:=s.mach) ⟨HRB.out.wf.mem,HRB.out.wf.harts⟩ HRB.out.oks HRB.out.wf.mlen HRB.out.lim.1)
    have hou:=HRB.out.wf.out
    have hol:=HRB.out.lim.2.1
    have hsl:=HRB.out.lim.2.2
    obtain⟨wz,hwz⟩:∃wz,wz=((w1.setCell ⟨pb,0,none⟩ (.slice a1 n1 c1')).setCell ⟨pb,1,none⟩ (.slice a2 n2 c2')).setCell ⟨pb,2,none⟩ (.slice none 0 0):=⟨_,rfl⟩
    have HWZ:=lI hwz
    rw[←hwz]at HPM
    have hkz:∀q,pb<q→wz.heap[q]? =w1.heap[q]? :=fun q hq=>by
      rw[hwz]
      exact((sT _ _ _ _ yP).trans (sT _ _ _ _ yP)).trans (sT _ _ _ _ yP)
    have hsz:wz.heap.size=w1.heap.size:=by rw[hwz];simp[World.setCell]
    have HOZ:Hid (Ints .u32 wz (.slice a3 n3 c3') s.out):=lI (QX HRB.out.out (fun q e=>hkz q (HRB.out.far q e)))
    have z2:=(qA (hkz _ hlt) 2).trans s2
    have z3:=(qA (hkz _ hlt) 3).trans s3
    have HRS:Hid (ranS p s 0=(sayS (sayS [114,97,110] [(s.steps:Int)]) s.out,{p with m:=s.mach,ps:=[]})):=lI (if_pos rfl)
    have HSZ:=lI hsz
    clear hsz hwz hkz HRA HRB H0
    go_upto_region 4 with(fail)
    rw[←HWZ.out]
    clear x0 x1 x2 g0 g1 g2 s0 s1 s2 s3
    refine wp_region_held_drew (S:=fun W=>W.cell? ⟨w.heap.size,2,none⟩=some (.slice a3 n3 c3')∧W.cell? ⟨w.heap.size,3,none⟩=some (.int .i64 s.steps)) kr ⟨z2,z3⟩ (fun hHeld=> ?_)
    refine tak 0 (.pointer (some ⟨w.heap.size,3,none⟩)) ?_
    try simp only[sA,sB,sC,Act.put,sD,sE,sG]
    refine tak 1 (.int .i64 s.steps) ?_
    try simp only[sA,sB,sC,Act.put,sD,sE,sG]
    refine tak 4 (.pointer (some ⟨w.heap.size,2,none⟩)) ?_
    try simp only[sA,sB,sC,Act.put,sD,sE,sG]
    refine tak 5 (.slice a3 n3 c3') ?_
    try simp only[sA,sB,sC,Act.put,sD,sE,sG]
    refine wpAnyH_ready (rs:=[2]) kr zC ?_
    refine sS rfl (fun K hK=> ?_) AllReadyH.nil
    go_simp
    obtain⟨wa,hwa⟩:∃wa,wa=(wz.alloc (.cells #[.int .i64 s.steps] 3)).drew:=⟨_,rfl⟩
    have hba:Below wz.heap.size wz wa:=by rw[hwa];exact Below.drew (Below.alloc br (sN _) _)
    have hva:Ints .i64 wa (.slice (some ⟨wz.heap.size,0,none⟩) 1 1) [(s.steps:Int)]:=by rw[hwa];exact(Qu .i64 wz [(s.steps:Int)] 3 zC).below (Below.drew br)
    rw[←hwa]
    clear hwa
    have hwzl:w.heap.size<wz.heap.size:=by rw[HSZ.out];omega
    have HBZ:=lI (HPM.out.2)
    have HEZ:=lI ((HE.out.keep HBZ.out).keep (hba.mono om))
    have HSI:=lI (UM (pb:=pb) (wd:=[114,97,110]) zF zC (by intro m hm;rw[List.mem_singleton]at hm;rw[hm];omega) hva HEZ.out (by have:=hba.size;omega))
    refine hK.out _ _ ⟨(hba.cell (p:=⟨w.heap.size,2,none⟩) hwzl).trans z2,(hba.cell (p:=⟨w.heap.size,3,none⟩) hwzl).trans z3⟩ (fun hHeld2=> ?_)
    clear hK K
    refine wpAnyH_ready (rs:=[3]) kr zC ?_
    refine sS rfl (fun K hK=> ?_) AllReadyH.nil
    go_simp
    refine HSI.out.mono ?_
    rintro e3 wb ⟨rfl,hbb⟩
    have hsa:=hba.size
    have hzb:=hba.trans (hbb.mono hsa)
    have HZB:=lI hzb
    have HSU:=lI (JV (pb:=pb) (wd:=sayS [114,97,110] [(s.steps:Int)]) (by
      have:=Jz [(s.steps:Int)] [114,97,110] (by intro m hm;rw[List.mem_singleton]at hm;rw[hm];omega)
      simp at this
      omega) om (fun x hx=>by have:=hou x hx;unfold U32 at this;omega) (HOZ.out.below hzb) ((HE.out.keep HBZ.out).keep (hzb.mono om)) (by have:=hzb.size;omega))
    refine hK.out _ _ ⟨(hzb.cell (p:=⟨w.heap.size,2,none⟩) hwzl).trans z2,(hzb.cell (p:=⟨w.heap.size,3,none⟩) hwzl).trans z3⟩ (fun hHeld3=> ?_)
    clear hK K hva hba hbb
    refine wpAnyH_ready (rs:=[6]) kr zC ?_
    refine sS rfl (fun K hK=> ?_) AllReadyH.nil
    go_simp
    refine HSU.out.mono ?_
    rintro e3 wc ⟨rfl,hbc⟩
    have hzc:=hzb.trans (hbc.mono hzb.size)
    refine hK.out _ _ ⟨(hzc.cell (p:=⟨w.heap.size,2,none⟩) hwzl).trans z2,(hzc.cell (p:=⟨w.heap.size,3,none⟩) hwzl).trans z3⟩ (fun hHeld4=> ?_)
    clear hK K
    refine tak 7 (.string (bs (sayS (sayS [114,97,110] [(s.steps:Int)]) s.out))) ?_
    try simp only[sA,sB,sC,Act.put,sD,sE,sG]
    refine wpAnyH_done kr ?_ _
    have HZC:=lI hzc
    clear hzc hbc hzb
    go_wp2_with fail
    go_ret
    rw[HRS.out]
    exact⟨rfl,⟨_,_,_,_,_,HPM.out.1.below HZC.out⟩,HBZ.out.trans (HZC.out.mono om)⟩
  · have hn:(e==0)=false:=by simpa using hz0
    have HRS:Hid (ranS p s e=(sayS [98,97,100] [e],p)):=lI (if_neg hz0)
    have HS:=lI (say1_any w1 pb [98,97,100] e zF ⟨om,om⟩ (by have:=hb1.size;omega) (HE.out.keep (hb1.mono (Nat.le_of_lt hlt))))
    clear c0 c1 c2 f0 f1 f2 s0 s1 s2 s3 hb1
    go_wp2_with fail
    refine HS.out.mono ?_
    rintro e2 w3 ⟨rfl,hb3⟩
    have HB3:=lI hb3
    clear hb3
    go_wp2_with fail
    go_ret
    have hb:Below w.heap.size w w3:=HB1.out.trans ((((Below.refl w1.heap.size w1).alloc (sN _) _).trans (HB3.out.mono zC)).mono HB1.out.size)
    rw[HRS.out]
    exact⟨rfl,⟨_,_,_,_,_,HP.out.below hb⟩,hb.mono (Nat.le_of_lt hlt)⟩
open Go.RowKit Fb
end Go.Proofs.YtlfnddmncbkjaabGreatDoor.W
namespace Go.Proofs.YtlfnddmncbkjaabGreatDoor.Fb
open Go.RowKit
theorem list32{l:List Int}(h:l.length=32):∃a0 a1 a2 a3 a4 a5 a6 a7 a8 a9 a10 a11 a12 a13 a14 a15 a16 a17 a18 a19 a20 a21 a22 a23 a24 a25 a26 a27 a28 a29 a30 a31:Int,l=[a0,a1,a2,a3,a4,a5,a6,a7,a8,a9,a10,a11,a12,a13,a14,a15,a16,a17,a18,a19,a20,a21,a22,a23,a24,a25,a26,a27,a28,a29,a30,a31]:=by
  match l,h with
  |[a0,a1,a2,a3,a4,a5,a6,a7,a8,a9,a10,a11,a12,a13,a14,a15,a16,a17,a18,a19,a20,a21,a22,a23,a24,a25,a26,a27,a28,a29,a30,a31],_=>exact⟨a0,a1,a2,a3,a4,a5,a6,a7,a8,a9,a10,a11,a12,a13,a14,a15,a16,a17,a18,a19,a20,a21,a22,a23,a24,a25,a26,a27,a28,a29,a30,a31,rfl⟩
theorem wpList_buildV{P:Program}{ops:Array Oper}{rest:List Oper}{o:Oper}{a:Act}{w:World}{Q:Exit→Act→World→Prop}(hgd:o.guard=none)(t:TypeId)(ps:Array (Nat × Operand))(ho:o.op=.build t ps)(vs:Array (Nat × Value))(hv:(ps.map fun(i,x)=>(i,a.eval x))=vs)
    (v:Value) (hr:(Instr.build t vs).run P w=.ok v w) (h:wpList P ops Q rest (a.put o.dst v) w):wpList P ops Q (o::rest) a w:=
  wpList_plain hgd fun K hK=>by
    unfold Oper.wp execOp
    simp only[ho,hv,Sem.run_bind,hr,Result.andThen_ok]
    exact hK _ _ h
end Go.Proofs.YtlfnddmncbkjaabGreatDoor.Fb
namespace Go.Proofs.YtlfnddmncbkjaabGreatDoor.W
open Go.RowKit Fb
end Go.Proofs.YtlfnddmncbkjaabGreatDoor.W
namespace Go.Proofs.YtlfnddmncbkjaabGreatDoor.Fb
open Go.RowKit
theorem jU.abs{m:List Int}{room:Int}{l l':List BlkD}(h:jU m room l)(e:l'.map BlkD.abs=l.map BlkD.abs):jU m room l':=by
  have hl:=len_abs e
  refine⟨h.room0,h.room1,by rw[hl];exact h.len,by rw[pcs_abs e];exact h.nodup,fun x hx=> ?_⟩
  obtain⟨y,hy,e2⟩:=List.mem_map.1 (show x.abs∈l.map BlkD.abs by rw[←e];exact List.mem_map_of_mem hx)
  have e3:y.pc=x.pc∧y.ins=x.ins:=xT
  rw[←e3.1,←e3.2];exact h.kept y hy
theorem placeI_none{zs:List BlkD}{pc:Int}(h:¬Qo zs pc<zs.length):qu zs pc= -1∧∀x∈zs,x.pc≠pc:=by
  refine⟨by unfold qu;rw[if_neg h],fun x hx e=>h (List.findIdx_lt_length_of_exists ⟨x,hx,by simpa using e⟩)⟩
theorem put_tot{room pu st:Int}{zs:List BlkD}{y:BlkD}{n:Nat}(h:qu zs y.pc= -1)(ht:(zs.length:Int)+pu+st=n∧0≤pu∧0≤st)(hn:n≤1000000):
    ((putL room zs y).length:Int)+putP room pu zs y+st=(n+1:Nat)∧0≤putP room pu zs y∧0≤st:=by
  have hd:dq (qu zs y.pc) zs=zs:=by rw[h];rfl
  have hw:wrap64 (pu+1)=pu+1:=yU
  unfold putL putP
  rw[hd]
  split
  · rw[hw]
    simp only[List.length_drop,sW,List.length_cons,List.length_nil]
    omega
  · simp only[sW,List.length_cons,List.length_nil]
    omega
theorem put_code{room:Int}{zs zs':List BlkD}{y:BlkD}(hy:U32 y.pc)(hu:∀x∈zs,U32 x.pc)(hn:∀x∈zs,x.pc≠y.pc)(e:zs'.map BlkD.abs=(putL room zs y).map BlkD.abs):
    ∀x∈zs',U32 x.pc∧((x.pc=y.pc∧x.ins=y.ins)∨(x.pc≠y.pc∧∃z∈zs,x.pc=z.pc∧x.ins=z.ins)):=fun x hx=>by
  obtain⟨u,hu',e2⟩:=List.mem_map.1 (show x.abs∈(putL room zs y).map BlkD.abs by rw[←e];exact List.mem_map_of_mem hx)
  have e3:u.pc=x.pc∧u.ins=x.ins:=xT
  rw[←e3.1,←e3.2]
  rcases putL_mem hu' with h|h
  · exact⟨hu u h,.inr ⟨hn u h,u,h,rfl,rfl⟩⟩
  · rw[h];exact⟨hy,.inl ⟨rfl,rfl⟩⟩
theorem sl_block'{w w':World}{v:Value}{s n:Nat}{xs:List Value}(h:Sl w v s n xs)(hb:xs≠[]→∀g,v.ownBlock=some g→w'.heap[g]? =w.heap[g]?):Sl w' v s n xs:=by
  obtain⟨h1,ao,cap,h2,h3,h4,h5,h6⟩:=h
  refine⟨h1,ao,cap,h2,h3,h4,h5,fun a ha hx=>⟨(h6 a ha hx).1, ?_⟩⟩
  obtain⟨b,off,sp⟩:=a
  have h7:=h6 _ ha hx
  have hs:=h7.1
  simp only at hs
  subst hs
  intro j hj
  exact(qA (hb hx b (by rw[h2,ha];rfl)) _).trans (h7.2 j hj)
theorem make_pc{mem:List Int}(hm:mem.length≤4096)(pc:Int):(QS mem pc).1=pc:=by unfold QS;rw[if_neg om]
def FindPost(A:Nat→Prop)(P:Program)(K TE TB TI TM:TypeId)(ep mp bp:Nat)(w:World)(room st:Int)(mem:List Int)(pc:Int)(n:Nat)(e:Ending)(w':World):Prop:=
  ∃vi vc l,e=.returned (.tuple #[.agg #[.int .u32 pc,vi],vc])∧jS w' vi l∧Fr (fun j=>j=ep∨j=mp) w w'∧
    ((l = [] ∧ (QS mem pc).2 = [] ∧ Below w.heap.size w w') ∨
     (Kept mem pc l ∧ Sl w' vc 5 (mkM pc l).length ((mkM pc l).flatMap jo) ∧ (∀ q, vc.ownBlock = some q → A q ∧ ∃ cs f, w'.heap[q]? = some (.cells cs TM f)) ∧
      ∃v' zs' pu' n',EnB A TE TB TI ep mp bp w' room pu' st v' zs'∧EnC A P K TM ep mp w' zs' n'∧((zs'.length:Int)+pu'+st=(n':Nat)∧0≤pu'∧0≤st)∧jU mem room zs'∧n≤n'∧n'≤n+1∧1≤n'))
theorem Wk.shownH{bp bh hc cp k:Nat}{vm vo:Value}{ty:TypeId}{o0 o:List Int}{fr tw:Int}{w:World}{s:St}(h:Wk bp bh hc cp k vm vo ty o0 o fr tw w s)(hw:∀x∈s.harts,x.Wf):Sl w (.slice (some ⟨bh,0,none⟩) s.harts.length hc) 37 s.harts.length (s.harts.flatMap qJ):=by
  refine⟨?_,_,hc,rfl,h.hcap.1,h.hcap.2,xH,fun a ha _=> ?_⟩
  · have:∀l:List Hart,(∀x∈l,x.Wf)→(l.flatMap qJ).length=l.length*37:=fun l=>by
      induction l with
      |nil=>intro _;rfl
      | cons x r ih =>
        intro hx
        rw[List.flatMap_cons,sW,qG (hx x zC),ih (fun y hy=>hx y (by simp[hy])),List.length_cons]
        omega
    exact this s.harts hw
  · cases ha;exact⟨rfl,h.harts⟩
theorem sl_fr{S:Nat→Prop}{w w':World}{v:Value}{s n:Nat}{xs:List Value}(h:Sl w v s n xs)(hF:Fr S w w')(hS:∀q,v.ownBlock=some q→¬S q):Sl w' v s n xs:=by
  obtain⟨h1,a1,cap1,rfl,h3,h4,h5,h6⟩:=h
  refine⟨h1,a1,cap1,rfl,h3,h4,h5,fun a ha hne=> ?_⟩
  obtain⟨h7,h8⟩:=h6 a ha hne
  have hp:0<xs.length:=List.length_pos_iff.2 hne
  exact⟨h7,fun j hj=>(qA (hF.block a.block (qD (p:=⟨a.block,a.off+0,none⟩) (h8 0 hp)) (hS _ (by rw[ha];rfl))) _).trans (h8 j hj)⟩
theorem Qm{P:Program}{w:World}{ops:Array Oper}{o:Oper}{a:Act}{K:Act→World→Prop}{Q:Exit→Act→World→Prop}{E:Prop}(hgd:o.guard=none)(t:TypeId)(x:Operand)
    (ho:o.op=.buildSlice t 1 #[(0,x)]) (v:Value) (hx:a.eval x=v) (w':World) (y:Value)
    (hr:(Instr.buildSlice t 1 #[(0,v)]).run P w=.ok y w') (h:K (a.put o.dst y) w'):
    if Region.wanted o (yielded ops a.tmps)=true then Oper.wp P o a w K Q else E:=by
  have hw:Region.wanted o (yielded ops a.tmps)=true:=wA
  rw[if_pos hw]
  unfold Oper.wp execOp
  simp only[ho,Sem.run_bind,Sem.run_pure,Result.andThen_ok,List.map_toArray,List.map_cons,List.map_nil,hx,hr]
  exact h
theorem Wk.kept{bp bh hc cp k:Nat}{vm vo:Value}{ty:TypeId}{o0 o:List Int}{fr tw:Int}{w w':World}{s:St}(h:Wk bp bh hc cp k vm vo ty o0 o fr tw w s)(hs:w.heap.size≤w'.heap.size)(hk:∀q,q<w.heap.size→(q=bp∨q=bh∨q=cp∨vm.ownBlock=some q∨∃cs f,w.heap[q]? =some (.cells cs ty f))→w'.heap[q]? =w.heap[q]?):Wk bp bh hc cp k vm vo ty o0 o fr tw w' s:=by
  have b1:=h.b1
  have b2:=h.b2
  have hlt:=h.clt
  have e:=hk bp om (.inl rfl)
  have eh:=hk bh om (.inr (.inl rfl))
  have ec:=hk cp hlt (.inr (.inr (.inl rfl)))
  have em:∀g,vm.ownBlock=some g→w'.heap[g]? =w.heap[g]? :=fun g hg=>hk g (by have:=h.mlt g hg;omega) (.inr (.inr (.inr (.inl hg))))
  refine⟨⟨h.core.hbl,(qA ec _).trans h.core.ptr,(qA ec _).trans h.core.mem,(qA ec _).trans h.core.fr,(qA ec _).trans h.core.tw,fun o=>(qK ec o).trans (h.core.frz o),fun j hj=>(qA eh _).trans (h.core.hart j hj),fun o=>(qK eh o).trans (h.core.hfz o),QX h.core.bytes em,fun b off n c e=> ?_, ?_,h.core.mlt⟩,h.b1,h.b2,(qA e _).trans h.c0,(qA e _).trans h.c1,(qA e _).trans h.c2,(qA e _).trans h.c3,fun o=>(qK e o).trans (h.frz o),fun j hj=>(qA eh _).trans (h.harts j hj),h.mlt,qI h.own (fun g hg=>hk g (h.own.lt g hg).2 (.inr (.inr (.inr (.inr (Qj h.own hg)))))),h.vlt,h.kl,h.hcap⟩
  · obtain⟨x1,x2,x3,x4⟩:=h.core.mfz b off n c e
    exact⟨x1,x2,om,fun o=>(qK (em b xB) o).trans (x4 o)⟩
  · obtain⟨vo',y1,y2⟩:=h.core.row
    exact⟨vo',(qA ec _).trans y1,qI y2 (fun g hg=>hk g (y2.lt g hg).2 (.inr (.inr (.inr (.inr (Qj y2 hg))))))⟩
def UpA(A:Nat→Prop)(v:Value)(us:List UndD):Prop:=(∀q,v.ownBlock=some q→A q)∧∀x∈us,(∀q,x.vb.ownBlock=some q→A q)∧∀q,x.vl.ownBlock=some q→A q
end Go.Proofs.YtlfnddmncbkjaabGreatDoor.Fb
namespace Go.Proofs.YtlfnddmncbkjaabGreatDoor.W
open Go.RowKit Fb
structure Rc (rp bp:Nat) (w:World) (v:Value) (us:List UndD):Prop where
  ty:∃cs f,w.heap[rp]? =some (.cells cs 108 f)
  at_:At w rp 0 [.pointer (some ⟨bp,0,none⟩),v]
  frz:∀o,w.frozen? ⟨rp,o,none⟩=false
  up:Up (rp+1) 136 5 142 w v us
theorem Rc.kept{A:Nat→Prop}{rp bp:Nat}{w w':World}{v:Value}{us:List UndD}(h:Rc rp bp w v us)(hA:UpA A v us)(hk:∀q,q<w.heap.size→(q=rp∨(rp<q∧A q∧∀cs f,w.heap[q]? ≠some (.cells cs 40 f)))→w'.heap[q]? =w.heap[q]?):Rc rp bp w' v us:=by
  obtain⟨cs,f,ht⟩:=h.ty
  have e0:=hk rp (qR ht) (.inl rfl)
  refine⟨⟨cs,f,e0.trans ht⟩,fun j hj=>(qA e0 _).trans (h.at_ j hj),fun o=>(qK e0 o).trans (h.frz o), ?_⟩
  refine⟨qI h.up.own (fun g hg=> ?_),h.up.wf,fun x hx=>qI (h.up.byt x hx) (fun g hg=> ?_),fun x hx=>qI (h.up.los x hx) (fun g hg=> ?_)⟩
  · obtain⟨cs,f,e⟩:=Qj h.up.own hg
    exact hk g (qR e) (.inr ⟨(h.up.own.lt g hg).1,hA.1 g hg,fun cs2 f2 e2=>by rw[e]at e2;cases e2⟩)
  · obtain⟨cs,f,e⟩:=Qj (h.up.byt x hx) hg
    exact hk g (qR e) (.inr ⟨((h.up.byt x hx).lt g hg).1,(hA.2 x hx).1 g hg,fun cs2 f2 e2=>by rw[e]at e2;cases e2⟩)
  · obtain⟨cs,f,e⟩:=Qj (h.up.los x hx) hg
    exact hk g (qR e) (.inr ⟨((h.up.los x hx).lt g hg).1,(hA.2 x hx).2 g hg,fun cs2 f2 e2=>by rw[e]at e2;cases e2⟩)
def UndS(rp bp bh cp:Nat)(vm v:Value)(j:Nat):Prop:=j=rp∨j=bp∨j=bh∨vm.ownBlock=some j∨v.ownBlock=some j∨cp≤j
def UStepPost(rp bp bh hc cp k:Nat)(vm vo:Value)(o0 o:List Int)(w:World)(s:St)(v:Value)(us:List UndD)(e:Ending)(w':World):Prop:=
  e=.returned (.tuple #[])∧∃(v':Value) (x:UndD),x.d=undoOf k s∧Wk bp bh hc cp k vm vo 40 o0 (o++(je k s).out) (je k s).fr (je k s).tw w' (goM k s)∧Rc rp bp w' v' (us++[x])∧UpA (fun q=>q≠cp) v' (us++[x])∧Fr (UndS rp bp bh cp vm v) w w'∧Shp bp w w'
theorem info_lost:(Tryz.prog.info? 142).map (fun i=>(i.zero,i.size,i.bytes))=some (some (.agg #[.int .i64 0,.int .u32 0]),2,16):=by kernel_rfl
theorem info_undo:(Tryz.prog.info? 136).map (fun i=>(i.zero,i.size,i.bytes))=some (some (.agg (Value.int .i64 0::(qJ qz++[.int .u32 0,.slice none 0 0,.slice none 0 0])).toArray),41,224):=by kernel_rfl
theorem cg{p:Prop}(h:p:=by
 obtain⟨regs,pc,held,heldAt,state,cause⟩:=h
 obtain⟨a0,a1,a2,a3,a4,a5,a6,a7,a8,a9,a10,a11,a12,a13,a14,a15,a16,a17,a18,a19,a20,a21,a22,a23,a24,a25,a26,a27,a28,a29,a30,a31,rfl⟩:=list32 wf
 kernel_rfl):p:=h
theorem build_undo(k:Int)(h:Hart)(wf:h.regs.length=32)(w:World):(Instr.build 136 #[(0,.int .i64 k),(1,.agg (qQ h))]).run Tryz.prog w=.ok (.agg (.int .i64 k::(qJ h++[.int .u32 0,.slice none 0 0,.slice none 0 0])).toArray) w:=by
  exact cg
theorem buildSlice_undo(k:Int)(h:Hart)(wf:h.regs.length=32)(a b c:Value)(w:World):(Instr.buildSlice 32 1 #[(0,.agg (Value.int .i64 k::(qJ h++[a,b,c])).toArray)]).run Tryz.prog w=.ok (.slice (some ⟨w.heap.size,0,none⟩) 1 1) (w.alloc (.cells (Value.int .i64 k::(qJ h++[a,b,c])).toArray 136)):=by
  exact cg
theorem core_any{bp bh hc:Nat}{vm vo:Value}{s:St}(k:Nat)(w:World)(h:Bd bp bh hc vm vo 40 w s)(hk:k<s.harts.length)(h4:s.harts.length≤4):
    Calls Tryz.prog 46 #[.pointer (some ⟨bp,0,none⟩),.int .i64 k] w fun e w'=>∃n,e=.returned (.pointer (some ⟨w.heap.size,0,none⟩))∧w'=(w.alloc (.cells #[.pointer (some ⟨bh,k*37,none⟩),vm,.slice none 0 0,.int .u32 0,.int .u32 0] 113)).drewN n:=by
  have c0:=h.c0
  have c1:=h.c1
  obtain⟨ao,cap,rfl,_⟩:=h.bytes.open
  have hlt:=h.lt
  have i0:(0:Int)≤(k:Int):=om
  have i1:(k:Int)<(s.harts.length:Int):=om
  have hcp:=h.hcap
  have hcc:=hcp.2
  unfold maxLen at hcc
  go_enter Tryz.func46,Tryz.ntmps46
  go_wp2_with fail
  go_region
  all_goals
    go_wp2_with fail
    go_ret
    first
    |exact⟨_,rfl,rfl⟩
    |exact⟨0,rfl,rfl⟩
    |exact⟨1,rfl,rfl⟩
theorem stored_any{bp bh hc:Nat}(k:Nat)(fr tw:Int)(hs:List Hart)(w:World)(c1:w.cell? ⟨bp,1,none⟩=some (.slice (some ⟨bh,0,none⟩) hs.length hc))(hat:At w bh 0 (hs.flatMap qJ))(hfz:∀o,w.frozen? ⟨bh,o,none⟩=false)(hne:bh≠bp)
    (wf:∀h∈hs,h.Wf) (h4:hs.length≤4) (hcap:hs.length≤hc∧hc≤maxLen) (hfr:U32 fr) (htw:U32 tw):
    Calls Tryz.prog 80 #[.pointer (some ⟨bp,0,none⟩),.int .i64 k,.int .u32 fr,.int .u32 tw] w fun e w'=>e=.returned (.tuple #[])∧At w' bh 0 ((QA k fr tw hs.length hs).flatMap qJ)∧Chg (fun p=>p.block=bh) w w':=by
  obtain⟨hc1,hc2⟩:=hcap
  unfold maxLen at hc2
  have hlt:=qD c1
  have HAT:=lI hat
  have HFZ:=lI hfz
  have HWF:=lI wf
  have HLB:Hid (0<hs.length→bh<w.heap.size):=lI (fun h0=>by
    have:=jc hat (fun x hx=>qG (wf x hx)) h0
    exact qD (this.get (jh (wf _ (sR h0)))))
  clear hat hfz wf
  go_enter Tryz.func80,Tryz.ntmps80
  go_wp2_with fail
  go_loopw [17] (fun i wr=>∃n:Nat,i=.int .i64 n∧n≤hs.length∧Hid (At wr bh 0 ((QA k fr tw n hs).flatMap qJ)∧Chg (fun p=>p.block=bh) w wr)) (fun i _=>hs.length-(intOf i).toNat)
  case atStart=>exact⟨0,rfl,om,lI ⟨by rw[loseTo_zero];exact HAT.out,Chg.refl _ _⟩⟩
  case round=>
    obtain⟨n,rfl,hn,HR⟩:=hrel
    have c1':=(HR.out.2.cell ⟨bp,1,none⟩ hlt (by show ¬bp=bh;omega)).trans c1
    by_cases hlt2:n<hs.length
    · have hel:=jc HR.out.1 (fun x hx=>qG (ju (P:=Hart.Wf) HWF.out (fun _=>uE) x hx)) (by rw[QF];exact hlt2)
      rw[loseTo_at _ _ _ hlt2]at hel
      have whn:=HWF.out hs[n] (sR hlt2)
      have g33:=hel.get (jh whn)
      have g34:=hel.get (jl whn)
      have l33:bh<wr.heap.size:=qD g33
      have f33:wr.frozen? ⟨bh,n*37+33,none⟩=false:=(HR.out.2.frozen ⟨bh,n*37+33,none⟩ (HLB.out om)).trans (HFZ.out _)
      have f34:wr.frozen? ⟨bh,n*37+34,none⟩=false:=(HR.out.2.frozen ⟨bh,n*37+34,none⟩ (HLB.out om)).trans (HFZ.out _)
      have i0:(0:Int)≤(n:Int):=om
      have i1:(n:Int)<(hs.length:Int):=om
      have HNX:Hid (∀x,x=lose fr tw hs[n]→n≠k→QA k fr tw (n+1) hs=(QA k fr tw n hs).set n x):=lI (fun x e hk=>by rw[e];exact loseTo_succ fr tw hs hlt2 hk)
      have HSE:Hid (n=k→QA k fr tw (n+1) hs=QA k fr tw n hs):=lI (fun e=>by subst e;exact loseTo_self n fr tw hs)
      have HKP:Hid (lose fr tw hs[n]=hs[n]→QA k fr tw (n+1) hs=QA k fr tw n hs):=lI (fun e=>loseTo_keep fr tw hs hlt2 e)
      have HLO:Hid (lose fr tw hs[n]=if(hs[n].held&&decide (fr<(hs[n].heldAt+4)%4294967296)&&decide (hs[n].heldAt<tw))=true then {hs[n]with held:=false,heldAt:=0} else hs[n]):=lI rfl
      have hha:U32 hs[n].heldAt:=whn.heldAt
      have HEL:=lI hel
      have HWN:=lI whn
      clear hel whn
      obtain⟨x,hx⟩:∃x,x=hs[n]:=⟨_,rfl⟩
      rw[←hx]at g33 g34 HNX HKP HLO hha HEL HWN
      have HX:=lI hx
      clear hx
      obtain⟨ha1,ha2⟩:=hha
      obtain⟨fr1,fr2⟩:=hfr
      obtain⟨tw1,tw2⟩:=htw
      by_cases hnk:(n:Int)=k
      · go_wp2_with fail
        go_roundw
        case rel=>exact⟨n+1,by(first|(simp;done)|(simp;omega)),om,lI ⟨by rw[HSE.out om];exact HR.out.1,HR.out.2⟩⟩
        case measure=>simp[intOf];omega
      cases hheld:x.held with
      | false =>
        rw[hheld]at g33
        go_wp2_with fail
        go_roundw
        case rel=>exact⟨n+1,by simp,om,lI ⟨by rw[HKP.out (by rw[HLO.out,hheld];rfl)];exact HR.out.1,HR.out.2⟩⟩
        case measure=>simp[intOf];omega
      | true =>
        rw[hheld]at g33
        by_cases h1:fr<(x.heldAt+4)%4294967296
        · by_cases h2:x.heldAt<tw
          · go_wp2_with fail
            go_roundw
            case rel=>
              have wx:=HWN.out
              have hxl:(qJ x).length=37:=qG wx
              have a1:=HEL.out.set 33 om (.bool false)
              rw[←jX wx.len false]at a1
              have wx2:({x with held:=false}:Hart).Wf:=⟨wx.len,wx.regs,wx.pc,wx.heldAt,wx.state,wx.cause⟩
              have a2:=a1.set 34 (by rw[qG wx2];omega) (.int .u32 0)
              rw[←Qv (h:=({x with held:=false}:Hart)) wx.len 0]at a2
              have wx3:({x with held:=false,heldAt:=0}:Hart).Wf:=⟨wx.len,wx.regs,wx.pc,(⟨by decide,by decide⟩:U32 0),wx.state,wx.cause⟩
              refine⟨n+1,by simp,om,lI ⟨?_,(HR.out.2.setCell ⟨bh,n*37+33,none⟩ (.bool false) (fun _=>rfl)).setCell ⟨bh,n*37+34,none⟩ (.int .u32 0) (fun _=>rfl)⟩⟩
              rw[HNX.out {x with held:=false,heldAt:=0} (by rw[HLO.out,hheld];simp[h1,h2]) om]
              refine jn HR.out.1 (fun x hx=>qG (ju (P:=Hart.Wf) HWF.out (fun _=>uE) x hx)) (qG wx3) a2 (fun o ho=> ?_)
              rw[sJ _ _ _ _ zD,sJ _ _ _ _ zD]
            case measure=>simp[intOf];omega
          · go_wp2_with fail
            go_roundw
            case rel=>exact⟨n+1,by simp,om,lI ⟨by rw[HKP.out (by rw[HLO.out,hheld];simp[h2])];exact HR.out.1,HR.out.2⟩⟩
            case measure=>simp[intOf];omega
        · go_wp2_with fail
          go_roundw
          case rel=>exact⟨n+1,by simp,om,lI ⟨by rw[HKP.out (by rw[HLO.out,hheld];simp[h1])];exact HR.out.1,HR.out.2⟩⟩
          case measure=>simp[intOf];omega
    · obtain rfl:n=hs.length:=om
      go_wp2_with fail
      go_end0
      exact⟨rfl,HR.out.1,HR.out.2⟩
theorem info_bytes:(Tryz.prog.info? 5).map (fun i=>(i.zero,i.size,i.bytes))=some (some (.int .u8 0),1,1):=by kernel_rfl
theorem clone_bytes(v:Value)(n:Nat)(xs:List Value)(w:World)(hv:Sl w v 1 n xs)(h1c:∀u∈xs,u.oneCell'=true)(hr:n*1≤140737488355328):
    Calls Tryz.prog 49 #[v] w fun e w'=>(∃v',e=.returned v'∧w'.ownsRow w.heap.size 5 1 v' n xs∧(v'=.slice none 0 0→v=.slice none 0 0))∧Below w.heap.size w w':=by
  obtain⟨hlen,ao,cap,rfl,hnc,hcm,hnone,hat⟩:=hv
  have heq:=fun(W:World) (m c:Nat)=>Lib.run_eql_slice_nil (P:=Tryz.prog) W 27 5 ao m c 0 0 Tryz.underlying27
  unfold maxLen at hcm
  cases ao with
  | none =>
    obtain rfl:cap=0:=hnone rfl
    obtain rfl:n=0:=om
    obtain rfl:xs=[]:=List.eq_nil_of_length_eq_zero (by simpa using hlen)
    clear hnone hat
    go_enter Tryz.func49,Tryz.ntmps49
    go_wp2
    go_ret
    exact⟨⟨_,rfl,World.ownsRow_nil _ _ _ _,by simp⟩,Below.refl _ _⟩
  | some a =>
    obtain⟨i0,hi,hz0,hz1,hz2⟩:=info_parts info_bytes
    clear hnone
    have HAT:=lI hat
    have HL:=lI hlen
    have HC:=lI h1c
    clear hat hlen h1c
    go_enter Tryz.func49,Tryz.ntmps49
    go_wp2_with (at_builtin;refine wpList_append_own _ rfl _ _ 27 rfl w.heap.size 5 i0 (.int .u8 0) 1 1 Tryz.underlying27 hi hz0 hz1 hz2 rfl zF _ 0 [] rfl ?_ a n cap xs rfl HL.out ?_ HC.out ?_ ?_ ?_ ?_)
    rotate_right
    · intro v' w1 hown hgrow hnil
      go_wp2
      go_ret
      refine⟨⟨_,rfl, ?_, ?_⟩, ?_⟩
      · simpa using hown
      · intro h
        exact(hnil h).elim
      · exact(Below.alloc br (sN _) _).grown hgrow zC (by intro k hk;simp[Value.ownBlock]at hk;omega)
    all_goals(first|(unfold maxLen;omega)|omega|(simp;done)|skip)
    · exact uP _ _ _ _ (sN _)
    · intro j u hu
      have hj:j<xs.length:=(List.getElem?_eq_some_iff.1 hu).1
      have hne:xs≠[]:=yZ
      have h3:=(HAT.out a rfl hne)
      have h4:=h3.2 j hj
      have hu2:u=xs[j]:=by rw[sU hj]at hu;exact(Option.some.inj hu).symm
      rw[hu2,JY a h3.1,sI _ _ _ (qD h4)]
      exact h4
end Go.Proofs.YtlfnddmncbkjaabGreatDoor.W
