import Derived.Test.YtlfnddmncbkjaabGreatDoorZHI
set_option linter.unusedVariables false
set_option linter.unusedSimpArgs false
set_option maxRecDepth 100000
set_option maxHeartbeats 4000000
namespace Go.Proofs.YtlfnddmncbkjaabGreatDoor.Fb
theorem Ja{a b:List UInt8}(h:¬a=b):¬(bs a).toList=b:=fun e=>h (by simpa[ByteArray.toList_eq,bs]using e)
theorem numU_rng{x:List UInt8}{n:Int}(h:numU x=some n):U32 n:=by
  cases hp:Go.Lib.parseUintB 32 x with
  | ok u =>
    rw[numU_ok hp]at h
    have hv:u≤4294967295:=by
      unfold Go.Lib.parseUintB at hp
      split at hp
      · cases hp
      · exact parseU_le _ _ _ _ om hp
    split at h
    · injection h with h;subst h;unfold U32;omega
    · cases h
  | «syntax» =>rw[numU_none (by rw[hp];intro u e;cases e)]at h;cases h
  |range=>rw[numU_none (by rw[hp];intro u e;cases e)]at h;cases h
theorem mapM_rng:∀{l:List (List UInt8)} {r:List Int},l.mapM numU=some r→(∀x∈r,U32 x)∧r.length=l.length
  | [], r, h => by
    have:r=[]:=by simpa using h.symm
    rw[this];exact⟨zW,rfl⟩
  | x :: l, r, h => by
    rw[List.mapM_cons]at h
    cases hn:numU x with
    |none=>rw[hn]at h;cases h
    | some y =>
      cases hr:l.mapM numU with
      |none=>rw[hn,hr]at h;cases h
      | some t =>
        rw[hn,hr]at h
        have e:r=y::t:=(Option.some.inj h).symm
        obtain⟨h1,h2⟩:=mapM_rng hr
        rw[e]
        refine⟨fun z hz=> ?_,by simp[h2]⟩
        rcases List.mem_cons.1 hz with rfl|hz
        · exact numU_rng hn
        · exact h1 z hz
theorem splitC_len(c:UInt8):∀l:List UInt8,(qf c l).length≤l.length+1
  |[]=>by simp[qf]
  | b :: l => by
    have ih:=splitC_len c l
    rw[jf]
    by_cases hb:b=c
    · rw[if_pos hb];simp;omega
    · rw[if_neg hb];simp;omega
theorem UG(c:UInt8):∀(l:List UInt8),∀x∈qf c l,x.length≤l.length
  | [], x, hx => by
    have:x=[]:=by simpa[qf]using hx
    rw[this];exact sN _
  | b :: l, x, hx => by
    have ih:=UG c l
    rw[jf]at hx
    by_cases hb:b=c
    · rw[if_pos hb]at hx
      rcases List.mem_cons.1 hx with rfl|hx
      · simp
      · have:=ih x hx;simp;omega
    · rw[if_neg hb]at hx
      cases e:qf c l with
      |nil=>exact absurd e (uU c l)
      | cons y r =>
        rw[e]at hx ih
        rcases List.mem_cons.1 hx with rfl|hx
        · have:=ih y (List.mem_cons_self ..)
          simp;exact this
        · have:=ih x (List.mem_cons_of_mem _ hx);simp;omega
end Go.Proofs.YtlfnddmncbkjaabGreatDoor.Fb
namespace Go.Proofs.YtlfnddmncbkjaabGreatDoor.W
open Go.RowKit Fb Go.Lib
theorem UT{w:World}{B:Nat}{e:TypeId}{s n cl:Nat}{al:Option Addr}{xs:List Value}(h:w.ownsRow B e s (.slice al n cl) n xs)(hn:0<n):∃g,al=some ⟨g,0,none⟩∧At w g 0 xs∧B≤g∧g<w.heap.size∧n≤cl:=by
  rcases jF h with⟨-,e2,-⟩|⟨g,cap,e,h1,h2,h3,-,h7,-⟩
  · omega
  · injection e with e1 _ e3
    subst e1 e3
    exact⟨g,rfl,h7,h1,h2,h3⟩
theorem itoa_dec(n:Nat)(hn:n≤16){pb:Nat}(w:World)(hE:Env pb w)(hpb:pb≤w.heap.size):Calls Tryz.prog 19 #[.int .i64 n] w fun e w'=>e=.returned (.string (bs (Lib.decDigits n)))∧Below w.heap.size w w':=by
  refine(Tryz.strconv_Itoa (n:Int) om om w ((Jk hE.t br hpb) w br)).mono ?_
  rintro e w' ⟨rfl,k,os,rfl⟩
  rw[Lib.itoa_nonneg]
  exact⟨rfl,Lib.below_grow _ _ (sN _) k os⟩
theorem field_blkD(a b:Value)(w:World):(Instr.field 62 (.agg #[a,b]) 1).run Tryz.prog w=.ok b w:=by kernel_rfl
theorem len_three{α:Type}{l:List α}(h:l.length=3):∃x y z,l=[x,y,z]:=by
  match l,h with
  |[x,y,z],_=>exact⟨x,y,z,rfl⟩
theorem len_two{α:Type}{l:List α}(h:l.length=2):∃x y,l=[x,y]:=by
  match l,h with
  |[x,y],_=>exact⟨x,y,rfl⟩
theorem info_pick:(Tryz.prog.info? 47).map (fun i=>(i.zero,i.size,i.bytes))=some (some (.agg #[.int .i64 0,.int .i64 0]),2,16):=by kernel_rfl
theorem info_hartD:(Tryz.prog.info? 43).map (fun i=>(i.zero,i.size,i.bytes))=some (some (.agg (qQ qz)),37,160):=by kernel_rfl
theorem buildSlice_hart(x:Int)(w:World):(Instr.buildSlice 28 1 #[(0,.agg (qJ {qz with pc:=x}).toArray)]).run Tryz.prog w=.ok (.slice (some ⟨w.heap.size,0,none⟩) 1 1) (w.alloc (.cells (qJ {qz with pc:=x}).toArray 43)):=by kernel_rfl
theorem buildSlice_pick(x y:Int)(w:World):(Instr.buildSlice 31 1 #[(0,.agg #[.int .i64 x,.int .i64 y])]).run Tryz.prog w=.ok (.slice (some ⟨w.heap.size,0,none⟩) 1 1) (w.alloc (.cells [.int .i64 x,.int .i64 y].toArray 47)):=by kernel_rfl
theorem dW{p:Prop}(h:p:=by
 refine wpAnyH_ready (rs:=[15]) kr zC ?_
 refine sS rfl (fun K hK=> ?_) AllReadyH.nil
 refine Qc zK _ _ _ zK (pb+1) 47 ii _ 2 16 Tryz.underlying31 hi0 hi1 hi2 hi3 zK om (.slice ap p.ps.length cp) p.ps.length (p.ps.flatMap plist) zK (qP HOW.out ba) ⟨wc.heap.size,0,none⟩ 1 1 L zK (by rw[hLn]) hna honeL zZ om om ?_
 intro v' w5 hown hgrow hnew
 have HO:=lI (HP2.out.pick ba (x:=(x,y)) (by rw[HLE.out]at hown;exact hown) hgrow g2 ⟨hx,hy⟩)
 have g1:=(hgrow.frozen_far ⟨pb,2,none⟩ xK HBX.out).trans ((ba.frozen (p:=⟨pb,2,none⟩) hplW).trans fB)
 have c1:=(hgrow.cell_far ⟨pb,2,none⟩ xK HBX.out).trans ((ba.cell (p:=⟨pb,2,none⟩) hplW).trans cB)
 have sq0:=(hgrow.cell_far ⟨gb,0,none⟩ (by show gb<_;omega) HNE.out).trans ((ba.cell (p:=⟨gb,0,none⟩) hgW).trans q0)
 have sq1:=(hgrow.cell_far ⟨gb,1,none⟩ (by show gb<_;omega) HNE.out).trans ((ba.cell (p:=⟨gb,1,none⟩) hgW).trans q1)
 obtain⟨a3,c3',rfl⟩:=qE hown
 clear hown hgrow hnew hna
 refine hK.out _ _ ⟨sq0,sq1⟩ (fun hHeld3=> ?_)
 clear hK K
 refine tak 16 (.pointer (some ⟨pb,0,none⟩)) ?_
 try simp only[sA,sB,sC,Act.put,sD,sE,sG]
 refine tak 17 (.pointer (some ⟨pb,2,none⟩)) ?_
 try simp only[sA,sB,sC,Act.put,sD,sE,sG]
 refine wpAnyH_ready (rs:=[18]) kr zC ?_
 refine sS rfl (fun K hK=> ?_) AllReadyH.nil
 go_simp
 refine hK.out _ _ ⟨((sJ _ _ _ _ zS).trans sq0),((sJ _ _ _ _ zS).trans sq1)⟩ (fun hHeld4=> ?_)
 clear hK K
 refine wpAnyH_done kr ?_ _
 go_wp2_with fail
 go_meet
 case rel=>exact⟨_,HO⟩):p:=h
theorem dX{p:Prop}(h:p:=by
 refine wpAnyH_ready (rs:=[11]) kr zC ?_
 refine sS rfl (fun K hK=> ?_) AllReadyH.nil
 refine Qc zK _ _ _ zK (pb+1) 43 ii _ 37 160 Tryz.underlying28 hi0 hi1 hi2 hi3 zK om (.slice ah p.m.harts.length ch) p.m.harts.length (p.m.harts.flatMap qJ) zK (qP HOW.out ba) ⟨w3.heap.size,0,none⟩ 1 1 L zK (by rw[hLn]) hna honeL zZ om om ?_
 intro v' w5 hown hgrow hnew
 have HO:=lI (HP3.out.hart rfl ba (x:={qz with pc:=x}) (by rw[HLE.out]at hown;exact hown) hgrow g2 hxw hxo)
 have g1:=(hgrow.frozen_far ⟨pb,1,none⟩ xK HBX.out).trans ((ba.frozen (p:=⟨pb,1,none⟩) hplW).trans fB)
 have c1:=(hgrow.cell_far ⟨pb,1,none⟩ xK HBX.out).trans ((ba.cell (p:=⟨pb,1,none⟩) hplW).trans cB)
 have sz0:=(hgrow.cell_far ⟨gb,0,none⟩ (by show gb<_;omega) HNE.out).trans ((ba.cell (p:=⟨gb,0,none⟩) hgW).trans z0)
 obtain⟨a3,c3',rfl⟩:=qE hown
 clear hown hgrow hnew hna
 refine hK.out _ _ sz0 (fun hHeld3=> ?_)
 clear hK K
 refine tak 12 (.pointer (some ⟨pb,0,none⟩)) ?_
 try simp only[sA,sB,sC,Act.put,sD,sE,sG]
 refine tak 13 (.pointer (some ⟨pb,0,none⟩)) ?_
 try simp only[sA,sB,sC,Act.put,sD,sE,sG]
 refine tak 14 (.pointer (some ⟨pb,1,none⟩)) ?_
 try simp only[sA,sB,sC,Act.put,sD,sE,sG]
 refine wpAnyH_ready (rs:=[15]) kr zC ?_
 refine sS rfl (fun K hK=> ?_) AllReadyH.nil
 go_simp
 refine hK.out _ _ ((sJ _ _ _ _ zS).trans sz0) (fun hHeld4=> ?_)
 clear hK K
 refine wpAnyH_done kr ?_ _
 go_wp2_with fail
 go_meet
 case rel=>exact⟨_,HO⟩):p:=h
theorem dY{p:Prop}(h:p:=by
 skip
 have HQ:Hid (S=(qS,p)):=lI yL
 have hg:((l.length:Int)==1)=false:=yH
 have hg2:¬(l.length:Int)=1:=om
 clear HC HS0 g
 go_wp2_with fail
 go_ret
 rw[HQ.out]
 exact⟨rfl,⟨_,_,_,_,_,HP2.out⟩,HB2.out.mono (Nat.le_of_lt hlt)⟩):p:=h
theorem dZ{p:Prop}(h:p:=by
 clear HC HS0 h7 g
 go_wp2_with fail
 refine HC2.out.mono ?_
 rintro e w5 ⟨rfl,hb5⟩
 have HB5:=lI hb5
 clear hb5
 go_wp2_with fail
 go_ret
 rw[HS1.out]
 exact⟨rfl,⟨_,_,_,_,_,HP2.out.below HB5.out⟩,(HB2.out.trans (HB5.out.mono HB2.out.size)).mono (Nat.le_of_lt hlt)⟩):p:=h
theorem da{p:Prop}(h:p:=by
 go_wp2_with fail
 go_ret
 rw[HQ.out]
 exact⟨rfl,⟨_,_,_,_,_,HP2.out⟩,HB2.out.mono (Nat.le_of_lt hlt)⟩):p:=h
theorem db{p:Prop}(h:p:=by
 go_wp2_with fail
 refine HC2.out.mono ?_
 rintro e w5 ⟨rfl,hpl,hb5⟩
 have HY:=lI (And.intro hpl hb5)
 clear hpl hb5
 go_wp2_with fail
 go_ret
 rw[HS1.out]
 exact⟨rfl,HY.out.1,(HB2.out.mono (Nat.le_of_lt hlt)).trans HY.out.2⟩):p:=h
theorem pline_any{pb:Nat}{vm vh vp vd:Value}{us:List UndD}{w:World}{p:PlD}(hp:PAt pb vm vh vp vd us w p)(s:List UInt8)(hs:s.length≤100000000)(HE:Hid (Env pb w)):
    Calls Tryz.prog 6 #[.pointer (some ⟨pb,0,none⟩),.string (bs s)] w fun e w'=>e=.returned (.string (bs (JH p s).1))∧PlAt pb w' (JH p s).2∧Below pb w w':=by
  obtain⟨w0,ws,hxs⟩:∃w0 ws,qf 32 s=w0::ws:=by
    cases h:qf 32 s with
    |nil=>exact absurd h (uU 32 s)
    |cons x r=>exact⟨x,r,rfl⟩
  have hlt:=hp.lt
  have hE0:=HE.out.up (C:=w.heap.size) (Nat.le_of_lt hlt)
  have HSP:=lI (split_any 32 s om w)
  rw[hxs]at HSP
  obtain⟨S,hS⟩:∃S,S=JH p s:=⟨_,rfl⟩
  have HS:Hid (S=match ws.mapM numU with|none=>(qS,p)|some l=>cmdS p w0 l):=lI (by rw[hS];unfold JH;rw[hxs];rfl)
  rw[←hS]
  have HP:=lI hp
  clear hp hS
  go_enter Tryz.func6,Tryz.ntmps6
  go_wp2_with fail
  refine HSP.out.mono ?_
  rintro e w1 ⟨v,rfl,rfl,hst,hb1⟩
  have hs1:=hb1.size
  have hE1:=(HE.out.keep (hb1.mono (Nat.le_of_lt hlt))).up (C:=w1.heap.size) om
  obtain⟨_,_,e1,h2,h3,ho⟩:=hst
  injection e1 with e1 e2 e3
  subst e1 e3
  obtain⟨b,off,e4,hbl,qQ⟩:=ho zC
  injection e4 with e4
  injection e4 with e4 e5
  subst e4 e5
  have cw:=qQ 0 w0 rfl
  simp only[sM]at cw
  rw[List.length_cons]at h2
  have hsub:∀x∈ws,x.length≤4294967296:=fun x hx=>by
    have:=UG 32 s x (by rw[hxs];exact List.mem_cons_of_mem _ hx)
    omega
  have hwl:ws.length≤1000000000:=by
    have:=splitC_len 32 s
    rw[hxs,List.length_cons]at this
    omega
  have HNU:=lI (fun v (hv:StrsAt w1 v ws)=>drvnums_any ws hsub om v w1 hv (lI hE1.t) (lI hE1.y) (lI hE1.r))
  obtain⟨oq,hom⟩:∃oq,oq=ws.mapM numU:=⟨_,rfl⟩
  rw[←hom]at HNU HS
  have HOM:=lI hom
  have HB1:=lI hb1
  have HCE:Hid (∀(j:Nat) (x:List UInt8),ws[j]? =some x→w1.cell? ⟨w.heap.size,j+1,none⟩=some (.string (bs x))):=lI (fun j x h=>by have:=qQ (j+1) x (by simpa using h);simpa using this)
  clear hom hb1 ho qQ hsub hE1 hE0 hs HSP
  go_upto_region 2 with(fail)
  go_cut [6,7]from 14 to 20 (fun t6 t7 wx=>t7=.bool oq.isSome∧Hid (wx.ownsRow w1.heap.size 40 1 t6 (oq.getD []).length ((oq.getD []).map (Value.int .u32))∧Below w1.heap.size w1 wx))
  case first=>
    cases ws with
    | nil =>
      have H0:=lI (HNU.out (.slice (some ⟨w.heap.size,0,none⟩) 0 0) ⟨_,0,rfl,sN _,om,fun h=>absurd rfl h⟩)
      clear HNU HCE
      go_wp2_with fail
      refine H0.out.mono ?_
      rintro e w2 ⟨v',rfl,ho,hb2⟩
      have HO:=lI (And.intro ho hb2)
      clear ho hb2
      go_wp2_with fail
      go_meet
      case rel=>exact⟨rfl,HO⟩
    | cons y r =>
      have H0:=lI (HNU.out (.slice (some ⟨w.heap.size,1,none⟩) (y::r).length (y::r).length) ⟨_,_,rfl,sN _,by rw[List.length_cons]at h3;omega,fun _=>⟨_,_,rfl,hbl,fun j x hx=>by have:=HCE.out j x hx;rw[Nat.add_comm];exact this⟩⟩)
      clear HNU HCE
      go_wp2_with fail
      refine H0.out.mono ?_
      rintro e w2 ⟨v',rfl,ho,hb2⟩
      have HO:=lI (And.intro ho hb2)
      clear ho hb2
      go_wp2_with fail
      go_meet
      case rel=>exact⟨rfl,HO⟩
  case rest=>
    obtain⟨rfl,HC⟩:=hcut
    have hb2:=HC.out.2
    have hb:=HB1.out.trans (hb2.mono hs1)
    have HB2:=lI hb
    have HP2:=lI (HP.out.below hb)
    have cw2:=(hb2.cell (p:=⟨w.heap.size,0,none⟩) hbl).trans cw
    have hlen:0<ws.length+1:=om
    clear hb hb2 cw HNU HCE
    cases oq with
    | none =>
      have HS0:Hid (S=(qS,p)):=lI (by rw[HS.out])
      clear HC HS
      simp only[Option.isSome_none]
      go_wp2_with fail
      go_ret
      rw[HS0.out]
      exact⟨rfl,⟨_,_,_,_,_,HP2.out⟩,HB2.out.mono (Nat.le_of_lt hlt)⟩
    | some l =>
      have HS0:Hid (S=cmdS p w0 l):=lI (by rw[HS.out])
      rw[Option.getD_some]at HC
      have HU:=lI (mapM_rng HOM.out.symm)
      obtain⟨al,cl,rfl⟩:=qE HC.out.1
      have HEC:=lI (HE.out.keep (HB2.out.mono (Nat.le_of_lt hlt)))
      clear HS
      simp only[Option.isSome_some]
      have HL:=lI (And.intro HU.out.1 (show l.length≤1000000000 by rw[HU.out.2];exact hwl))
      by_cases k0:w0=[119,111,114,100,115]
      · subst k0
        replace cw2:wc.cell? ⟨w.heap.size,0,none⟩=some (.string ⟨#[119,111,114,100,115]⟩):=cw2
        have HS1:Hid (S=wordsS {p with ran:=false} l):=lI (by rw[HS0.out];rfl)
        have c4:=HP2.out.at_.get (j:=4) rfl
        simp only[sM]at c4
        have f4:=HP2.out.frz 4
        have HP3:=lI HP2.out.off
        obtain⟨w3,hw3⟩:∃x,x=wc.setCell ⟨pb,4,none⟩ (.bool false):=⟨_,rfl⟩
        rw[←hw3]at HP3
        have hs3:wc.heap.size=w3.heap.size:=by rw[hw3];simp[World.setCell]
        have hk3:∀q,q≠pb→w3.heap[q]? =wc.heap[q]? :=fun q hq=>by rw[hw3];exact sT _ _ _ _ xU
        have HB3:Hid (Below pb w w3):=lI yK
        have HE3:=lI (HE.out.keep HB3.out)
        have HW3:=lI hw3
        clear hw3
        have HC2:=lI (pwords_any HP3.out rfl (.slice al l.length cl) l (qe (qI HC.out.1 (fun q e=>hk3 q (by have:=(HC.out.1.lt q e).1;omega))) om) HL.out.1 HL.out.2 HE3)
        clear HC HS0 hk3
        go_upto_region 8 with(fail)
        rw[←HW3.out]
        clear c4 f4
        go_wp2_with fail
        refine HC2.out.mono ?_
        rintro e w5 ⟨rfl,hpl,hb5⟩
        have HY:=lI (And.intro hpl hb5)
        clear hpl hb5
        go_wp2_with fail
        go_ret
        rw[HS1.out]
        exact⟨rfl,HY.out.1,HB3.out.trans HY.out.2⟩
      by_cases k1:w0=[104,97,114,116]
      · subst k1
        replace cw2:wc.cell? ⟨w.heap.size,0,none⟩=some (.string ⟨#[104,97,114,116]⟩):=cw2
        by_cases g:l.length=1
        · by_cases g2:p.m.harts.length<4
          · obtain⟨x,rfl⟩:=List.length_eq_one_iff.1 g
            obtain⟨gb,rfl,h7,hgb,hgl,hcl⟩:=UT HC.out.1 zC
            have q0:wc.cell? ⟨gb,0,none⟩=some (.int .u32 x):=yN
            have hx:=HL.out.1 x zC
            have HS1:Hid (S=(sayS okS [((p.m.harts.length+1:Nat):Int)],{p with ran:=false,m:={p.m with harts:=p.m.harts++[{qz with pc:=x}]}})):=lI (by rw[HS0.out];simp[cmdS,g2])
            obtain⟨ah,ch,eh⟩:=qE HP2.out.oh
            subst eh
            have c1:=HP2.out.at_.get (j:=1) rfl
            simp only[sM]at c1
            have c4:=HP2.out.at_.get (j:=4) rfl
            simp only[sM]at c4
            have f4:=HP2.out.frz 4
            have HP3:=lI HP2.out.off
            obtain⟨w3,hw3⟩:∃x,x=wc.setCell ⟨pb,4,none⟩ (.bool false):=⟨_,rfl⟩
            rw[←hw3]at HP3
            have hs3:wc.heap.size=w3.heap.size:=by rw[hw3];simp[World.setCell]
            have hk3:∀q,q≠pb→w3.heap[q]? =wc.heap[q]? :=fun q hq=>by rw[hw3];exact sT _ _ _ _ xU
            have HB3:Hid (Below pb w w3):=lI yK
            have HE3:=lI (HE.out.keep HB3.out)
            have HW3:=lI hw3
            clear hw3
            have hgp:gb≠pb:=om
            have z0:=(qA (hk3 gb hgp) 0).trans q0
            have hg2:(p.m.harts.length:Int)<4:=om
            have hgW:gb<w3.heap.size:=om
            have cB:=HP3.out.at_.get (j:=1) rfl
            simp only[sM]at cB
            have fB:=HP3.out.frz 1
            have hxw:({qz with pc:=x}:Hart).Wf:=⟨um.len,um.regs,hx,um.heldAt,um.state,um.cause⟩
            have hxo:({qz with pc:=x}:Hart).ok=true:=rfl
            clear hk3
            obtain⟨ii,hi0,hi1,hi2,hi3⟩:=info_parts info_hartD
            obtain⟨L,hL⟩:∃L:List Value,L=qJ {qz with pc:=x}:=⟨_,rfl⟩
            have hLn:L.length=37:=by rw[hL];rfl
            have HLE:=lI hL
            have HBS:Hid (∀W:World,(Instr.buildSlice 28 1 #[(0,.agg L.toArray)]).run Tryz.prog W=.ok (.slice (some ⟨W.heap.size,0,none⟩) 1 1) (W.alloc (.cells L.toArray 43))):=lI (fun W=>by rw[hL];exact buildSlice_hart x W)
            have honeL:∀u∈L,u.oneCell'=true:=by rw[hL];exact fun u hu=>jY _ u xO
            have HS:Hid (∀W,Below w3.heap.size w3 W→W.cell? ⟨gb,0,none⟩=some (.int .u32 x)):=lI (fun W hW=>(hW.cell (p:=⟨gb,0,none⟩) hgW).trans z0)
            have HNE:Hid (some gb≠(Value.slice ah p.m.harts.length ch).ownBlock):=lI (fun e=>QP HC.out.1 HP2.out.oh zF gb rfl e.symm)
            have hplW:=HP3.out.lt
            have HBX:Hid (some pb≠(Value.slice ah p.m.harts.length ch).ownBlock):=lI (fun e=>by have:=(HP3.out.oh.lt pb e.symm).1;omega)
            have HOW:=lI HP3.out.oh
            clear hL h7 HC HS0
            go_upto_region 11 with(fail)
            rw[←HW3.out]
            clear c4 f4
            go_cut []from 56 to 71 (fun wx=>∃v',Hid (PAt pb vm v' vp vd us wx {p with ran:=false,m:={p.m with harts:=p.m.harts++[{qz with pc:=x}]}}∧Below pb w3 wx))
            case first=>
              have hn15:∀W:World,∀j u,L[j]? =some u→(W.alloc (.cells L.toArray 43)).drew.cell? ((⟨W.heap.size,0,none⟩:Addr).add j)=some u:=fun W j u hu=>by
                have hj:=(List.getElem?_eq_some_iff.1 hu).1
                have hat:At (W.alloc (.cells L.toArray 43)).drew W.heap.size 0 L:=QN W L _ _
                rw[show Addr.add ⟨W.heap.size,0,none⟩ j=⟨W.heap.size,0+j,none⟩ by unfold Addr.add;split<;>simp_all,hat j hj,←hu,sU hj]
              have hbd:Below w3.heap.size w3 w3.drew:=Below.drew br
              refine wp_region_held_drew (S:=fun W=>W.cell? ⟨gb,0,none⟩=some (.int .u32 x)) kr (HS.out _ hbd) (fun hHeld=> ?_)
              refine tak 0 (.pointer (some ⟨pb,0,none⟩)) ?_
              try simp only[sA,sB,sC,Act.put,sD,sE,sG]
              refine tak 1 (.pointer (some ⟨pb,0,none⟩)) ?_
              try simp only[sA,sB,sC,Act.put,sD,sE,sG]
              refine tak 2 (.pointer (some ⟨pb,0,none⟩)) ?_
              try simp only[sA,sB,sC,Act.put,sD,sE,sG]
              refine tak 3 (.pointer (some ⟨pb,0,none⟩)) ?_
              try simp only[sA,sB,sC,Act.put,sD,sE,sG]
              refine tak 4 (.pointer (some ⟨pb,1,none⟩)) ?_
              try simp only[sA,sB,sC,Act.put,sD,sE,sG]
              refine tak 6 (.slice (some ⟨gb,0,none⟩) 1 cl) ?_
              try simp only[sA,sB,sC,Act.put,sD,sE,sG]
              refine tak 7 (.pointer (some ⟨gb,0,none⟩)) ?_
              try simp only[sA,sB,sC,Act.put,sD,sE,sG]
              refine tak 8 (.int .u32 x) ?_
              try simp only[sA,sB,sC,Act.put,sD,sE,sG]
              refine wpAnyH_take (i:=9) (v:=.agg L.toArray) rfl kr kr kr (fun _ _ _ h=>h) (Or.inl ⟨by rfl, ?_⟩) (by assumption) ?_
              · (try simp only[sA,sB,sC]);intro w hSw;(try dsimp only at hSw);go_simp;(rw[HLE.out];rfl)
              try simp only[sA,sB,sC,Act.put,sD,sE,sG]
              obtain⟨wa,ewa⟩:∃x,x=(w3.alloc (.cells L.toArray 43)).drew:=⟨_,rfl⟩
              have ba:Below w3.heap.size w3 wa:=yY
              have hna:=hn15 w3
              rw[←ewa]at hna
              have hwa:wa.heap.size=w3.heap.size+1:=by rw[ewa];show(World.alloc _ _).heap.size=_;simp
              have HEA:=lI ewa
              clear ewa hn15
              refine wpAnyH_ready (rs:=[5,10]) kr zC ?_
              refine sS rfl (fun K hK=> ?_) (sS rfl (fun K hK=> ?_) AllReadyH.nil)
              · skip
                have ldc:w3.drew.cell? ⟨pb,1,none⟩=some (.slice ah p.m.harts.length ch):=cB
                go_simp
                refine hK.out _ _ (HS.out _ hbd) (fun hHeldL=> ?_)
                clear hK K ldc
                refine wpAnyH_ready (rs:=[10]) kr zC ?_
                refine sS rfl (fun K hK=> ?_) AllReadyH.nil
                refine Qm rfl _ _ rfl (.agg L.toArray) rfl wa (.slice (some ⟨w3.heap.size,0,none⟩) 1 1) (by rw[HEA.out];exact HBS.out w3.drew) ?_
                refine hK.out _ _ (HS.out _ ba) (fun hHeldB=> ?_)
                clear hK K
                exact dX
              · skip
                refine Qm rfl _ _ rfl (.agg L.toArray) rfl wa (.slice (some ⟨w3.heap.size,0,none⟩) 1 1) (by rw[HEA.out];exact HBS.out w3.drew) ?_
                refine hK.out _ _ (HS.out _ ba) (fun hHeldB=> ?_)
                clear hK K
                refine wpAnyH_ready (rs:=[5]) kr zC ?_
                refine sS rfl (fun K hK=> ?_) AllReadyH.nil
                have ldc:wa.cell? ⟨pb,1,none⟩=some (.slice ah p.m.harts.length ch):=(ba.cell (p:=⟨pb,1,none⟩) hplW).trans cB
                go_simp
                refine hK.out _ _ (HS.out _ ba) (fun hHeldL=> ?_)
                clear hK K ldc
                exact dX
            case rest=>
              obtain⟨v',HO⟩:=hcut
              obtain⟨ho1,hb4⟩:=HO.out
              obtain⟨a5,c5,e5⟩:=qE ho1.oh
              have e6:v'=.slice a5 (p.m.harts.length+1) c5:=by rw[e5];simp
              subst e6
              have cz:=ho1.at_.get (j:=1) rfl
              simp only[sM]at cz
              have hlz:=ho1.lt
              have HB5:=lI (HB3.out.trans hb4)
              have HSY:=lI (say1_any wc pb okS ((p.m.harts.length+1:Nat):Int) zF ⟨om,om⟩ hlz (HE.out.keep HB5.out))
              have HPF:=lI ho1
              clear ho1 hb4 HO cB fB q0 e5 z0
              go_wp2_with fail
              refine HSY.out.mono ?_
              rintro e w6 ⟨rfl,hb6⟩
              have HB6:=lI hb6
              clear hb6
              go_wp2_with fail
              go_ret
              have hb:Below wc.heap.size wc w6:=((Below.refl wc.heap.size wc).alloc (sN _) _).trans (HB6.out.mono zC)
              rw[HS1.out]
              exact⟨rfl,⟨_,_,_,_,_,HPF.out.below hb⟩,HB5.out.trans (hb.mono (Nat.le_of_lt hlz))⟩
          · skip
            have HQ:Hid (S=(qS,p)):=lI (by rw[HS0.out];simp[cmdS,g,g2])
            have hg:(l.length:Int)=1:=om
            have hg2:¬(p.m.harts.length:Int)<4:=om
            obtain⟨ah,ch,eh⟩:=qE HP2.out.oh
            have c1:=HP2.out.at_.get (j:=1) rfl
            simp only[sM]at c1
            rw[eh]at c1
            clear eh
            clear HC HS0 g g2
            exact da
        · exact dY
      by_cases k2:w0=[115,101,116]
      · subst k2
        replace cw2:wc.cell? ⟨w.heap.size,0,none⟩=some (.string ⟨#[115,101,116]⟩):=cw2
        by_cases g:l.length=3
        · obtain⟨x,y,z,rfl⟩:=len_three g
          obtain⟨gb,rfl,h7,hgb,hgl,hcl⟩:=UT HC.out.1 zC
          have q0:wc.cell? ⟨gb,0,none⟩=some (.int .u32 x):=yN
          have q1:wc.cell? ⟨gb,1,none⟩=some (.int .u32 y):=by simpa using h7.get (j:=1) rfl
          have q2:wc.cell? ⟨gb,2,none⟩=some (.int .u32 z):=by simpa using h7.get (j:=2) rfl
          have hx:=HL.out.1 x zC
          have hy:=HL.out.1 y zC
          have hz:=HL.out.1 z zC
          have HS1:Hid (S=setS {p with ran:=false} x y z):=lI xC
          have c4:=HP2.out.at_.get (j:=4) rfl
          simp only[sM]at c4
          have f4:=HP2.out.frz 4
          have HP3:=lI HP2.out.off
          obtain⟨w3,hw3⟩:∃x,x=wc.setCell ⟨pb,4,none⟩ (.bool false):=⟨_,rfl⟩
          rw[←hw3]at HP3
          have hs3:wc.heap.size=w3.heap.size:=by rw[hw3];simp[World.setCell]
          have hk3:∀q,q≠pb→w3.heap[q]? =wc.heap[q]? :=fun q hq=>by rw[hw3];exact sT _ _ _ _ xU
          have HB3:Hid (Below pb w w3):=lI yK
          have HE3:=lI (HE.out.keep HB3.out)
          have HW3:=lI hw3
          clear hw3
          have hgp:gb≠pb:=om
          have z0:=(qA (hk3 gb hgp) 0).trans q0
          have z1:=(qA (hk3 gb hgp) 1).trans q1
          have z2:=(qA (hk3 gb hgp) 2).trans q2
          have HC2:=lI (fun W (hW:Below w3.heap.size w3 W)=>pset_any (HP3.out.below hW) rfl x y z hx hy hz)
          have hg3:gb<w3.heap.size:=om
          clear HC HS0 h7 g hk3
          go_upto_region 15 with(fail)
          rw[←HW3.out]
          clear c4 f4 q0 q1 q2
          refine qZ (fun W=>Below w3.heap.size w3 W) 10 kr kr (Below.drew br) ?_
          simp only[List.take_succ_cons,List.take_zero]
          iterate 3 quiet_step ((intro _;rfl))
          refine qa rfl 40 _ rfl ⟨gb,0,none⟩ rfl (.int .u32 x) (fun W hW=>by have hc:=(hW.cell (p:=⟨gb,0,none⟩) hg3).trans z0;go_simp) ?_
          iterate 2 quiet_step ((intro _;rfl))
          refine qa rfl 40 _ rfl ⟨gb,1,none⟩ rfl (.int .u32 y) (fun W hW=>by have hc:=(hW.cell (p:=⟨gb,1,none⟩) hg3).trans z1;go_simp) ?_
          iterate 2 quiet_step ((intro _;rfl))
          refine qa rfl 40 _ rfl ⟨gb,2,none⟩ rfl (.int .u32 z) (fun W hW=>by have hc:=(hW.cell (p:=⟨gb,2,none⟩) hg3).trans z2;go_simp) ?_
          refine wpQuiet_nil ?_
          intro w4 hb4
          have HB4:=lI (HB3.out.trans (hb4.mono (Nat.le_of_lt HP3.out.lt)))
          have HC3:=lI (HC2.out w4 hb4)
          simp only[List.drop_succ_cons,List.drop_zero]
          clear hb4 HC2 z0 z1 z2
          go_wp2_with fail
          refine HC3.out.mono ?_
          rintro e w5 ⟨rfl,hpl,hb5⟩
          have HY:=lI (And.intro hpl hb5)
          clear hpl hb5
          go_wp2_with fail
          go_ret
          rw[HS1.out]
          exact⟨rfl,HY.out.1,HB4.out.trans HY.out.2⟩
        · skip
          have HQ:Hid (S=(qS,p)):=lI yL
          have hg:((l.length:Int)==3)=false:=yH
          have hg2:¬(l.length:Int)=3:=om
          clear HC HS0 g
          exact da
      by_cases k3:w0=[112,105,99,107]
      · subst k3
        replace cw2:wc.cell? ⟨w.heap.size,0,none⟩=some (.string ⟨#[112,105,99,107]⟩):=cw2
        by_cases g:l.length=2
        · by_cases g2:p.ps.length<300
          · obtain⟨x,y,rfl⟩:=len_two g
            obtain⟨gb,rfl,h7,hgb,hgl,hcl⟩:=UT HC.out.1 zC
            have q0:wc.cell? ⟨gb,0,none⟩=some (.int .u32 x):=yN
            have q1:wc.cell? ⟨gb,1,none⟩=some (.int .u32 y):=by simpa using h7.get (j:=1) rfl
            have hx:=HL.out.1 x zC
            have hy:=HL.out.1 y zC
            have hwx:IntKind.i64.wrap x=x:=by unfold U32 at hx;simp (disch:=omega) only[IntWalk.i64_in]
            have hwy:IntKind.i64.wrap y=y:=by unfold U32 at hy;simp (disch:=omega) only[IntWalk.i64_in]
            have HS1:Hid (S=(sayS okS [((p.ps.length+1:Nat):Int)],{p with ps:=p.ps++[(x,y)]})):=lI (by rw[HS0.out];simp[cmdS,g2])
            obtain⟨ap,cp,ep⟩:=qE HP2.out.op
            subst ep
            have cB:=HP2.out.at_.get (j:=2) rfl
            simp only[sM]at cB
            have fB:=HP2.out.frz 2
            have hgW:=hgl
            have hg2:(p.ps.length:Int)<300:=om
            obtain⟨ii,hi0,hi1,hi2,hi3⟩:=info_parts info_pick
            obtain⟨L,hL⟩:∃L:List Value,L=[.int .i64 x,.int .i64 y]:=⟨_,rfl⟩
            have hLn:L.length=2:=by rw[hL];rfl
            have HLE:=lI hL
            have HBS:Hid (∀W:World,(Instr.buildSlice 31 1 #[(0,.agg L.toArray)]).run Tryz.prog W=.ok (.slice (some ⟨W.heap.size,0,none⟩) 1 1) (W.alloc (.cells L.toArray 47))):=lI (fun W=>by rw[hL];exact buildSlice_pick x y W)
            have honeL:∀u∈L,u.oneCell'=true:=by rw[hL];intro u hu;simp at hu;rcases hu with rfl|rfl<;>rfl
            have HS:Hid (∀W,Below wc.heap.size wc W→W.cell? ⟨gb,0,none⟩=some (.int .u32 x)∧W.cell? ⟨gb,1,none⟩=some (.int .u32 y)):=lI (fun W hW=>⟨(hW.cell (p:=⟨gb,0,none⟩) hgW).trans q0,(hW.cell (p:=⟨gb,1,none⟩) hgW).trans q1⟩)
            have HNE:Hid (some gb≠(Value.slice ap p.ps.length cp).ownBlock):=lI (fun e=>QP HC.out.1 HP2.out.op zF gb rfl e.symm)
            have hplW:=HP2.out.lt
            have HBX:Hid (some pb≠(Value.slice ap p.ps.length cp).ownBlock):=lI (fun e=>by have:=(HP2.out.op.lt pb e.symm).1;omega)
            have HOW:=lI HP2.out.op
            clear hL h7 HC HS0
            go_upto_region 17 with(fail)
            go_cut []from 119 to 137 (fun wx=>∃v',Hid (PAt pb vm vh v' vd us wx {p with ps:=p.ps++[(x,y)]}∧Below pb wc wx))
            case first=>
              have hn15:∀W:World,∀j u,L[j]? =some u→(W.alloc (.cells L.toArray 47)).drew.cell? ((⟨W.heap.size,0,none⟩:Addr).add j)=some u:=fun W j u hu=>by
                have hj:=(List.getElem?_eq_some_iff.1 hu).1
                have hat:At (W.alloc (.cells L.toArray 47)).drew W.heap.size 0 L:=QN W L _ _
                rw[show Addr.add ⟨W.heap.size,0,none⟩ j=⟨W.heap.size,0+j,none⟩ by unfold Addr.add;split<;>simp_all,hat j hj,←hu,sU hj]
              have hbd:Below wc.heap.size wc wc.drew:=Below.drew br
              refine wp_region_held_drew (S:=fun W=>W.cell? ⟨gb,0,none⟩=some (.int .u32 x)∧W.cell? ⟨gb,1,none⟩=some (.int .u32 y)) kr (HS.out _ hbd) (fun hHeld=> ?_)
              refine tak 0 (.pointer (some ⟨pb,0,none⟩)) ?_
              try simp only[sA,sB,sC,Act.put,sD,sE,sG]
              refine tak 1 (.pointer (some ⟨pb,0,none⟩)) ?_
              try simp only[sA,sB,sC,Act.put,sD,sE,sG]
              refine tak 2 (.pointer (some ⟨pb,0,none⟩)) ?_
              try simp only[sA,sB,sC,Act.put,sD,sE,sG]
              refine tak 3 (.pointer (some ⟨pb,2,none⟩)) ?_
              try simp only[sA,sB,sC,Act.put,sD,sE,sG]
              refine tak 5 (.slice (some ⟨gb,0,none⟩) 2 cl) ?_
              try simp only[sA,sB,sC,Act.put,sD,sE,sG]
              refine tak 6 (.pointer (some ⟨gb,0,none⟩)) ?_
              try simp only[sA,sB,sC,Act.put,sD,sE,sG]
              refine tak 7 (.int .u32 x) ?_
              try simp only[sA,sB,sC,Act.put,sD,sE,sG]
              refine tak 8 (.int .i64 x) ?_
              try simp only[sA,sB,sC,Act.put,sD,sE,sG]
              refine tak 9 (.slice (some ⟨gb,0,none⟩) 2 cl) ?_
              try simp only[sA,sB,sC,Act.put,sD,sE,sG]
              refine tak 10 (.pointer (some ⟨gb,1,none⟩)) ?_
              try simp only[sA,sB,sC,Act.put,sD,sE,sG]
              refine tak 11 (.int .u32 y) ?_
              try simp only[sA,sB,sC,Act.put,sD,sE,sG]
              refine tak 12 (.int .i64 y) ?_
              try simp only[sA,sB,sC,Act.put,sD,sE,sG]
              refine wpAnyH_take (i:=13) (v:=.agg L.toArray) rfl kr kr kr (fun _ _ _ h=>h) (Or.inl ⟨by rfl, ?_⟩) (by assumption) ?_
              · (try simp only[sA,sB,sC]);intro w hSw;(try dsimp only at hSw);go_simp;(rw[HLE.out])
              try simp only[sA,sB,sC,Act.put,sD,sE,sG]
              obtain⟨wa,ewa⟩:∃x,x=(wc.alloc (.cells L.toArray 47)).drew:=⟨_,rfl⟩
              have ba:Below wc.heap.size wc wa:=yY
              have hna:=hn15 wc
              rw[←ewa]at hna
              have hwa:wa.heap.size=wc.heap.size+1:=by rw[ewa];show(World.alloc _ _).heap.size=_;simp
              have HEA:=lI ewa
              clear ewa hn15
              refine wpAnyH_ready (rs:=[4,14]) kr zC ?_
              refine sS rfl (fun K hK=> ?_) (sS rfl (fun K hK=> ?_) AllReadyH.nil)
              · skip
                have ldc:wc.drew.cell? ⟨pb,2,none⟩=some (.slice ap p.ps.length cp):=cB
                go_simp
                refine hK.out _ _ (HS.out _ hbd) (fun hHeldL=> ?_)
                clear hK K ldc
                refine wpAnyH_ready (rs:=[14]) kr zC ?_
                refine sS rfl (fun K hK=> ?_) AllReadyH.nil
                refine Qm rfl _ _ rfl (.agg L.toArray) rfl wa (.slice (some ⟨wc.heap.size,0,none⟩) 1 1) (by rw[HEA.out];exact HBS.out wc.drew) ?_
                refine hK.out _ _ (HS.out _ ba) (fun hHeldB=> ?_)
                clear hK K
                exact dW
              · skip
                refine Qm rfl _ _ rfl (.agg L.toArray) rfl wa (.slice (some ⟨wc.heap.size,0,none⟩) 1 1) (by rw[HEA.out];exact HBS.out wc.drew) ?_
                refine hK.out _ _ (HS.out _ ba) (fun hHeldB=> ?_)
                clear hK K
                refine wpAnyH_ready (rs:=[4]) kr zC ?_
                refine sS rfl (fun K hK=> ?_) AllReadyH.nil
                have ldc:wa.cell? ⟨pb,2,none⟩=some (.slice ap p.ps.length cp):=(ba.cell (p:=⟨pb,2,none⟩) hplW).trans cB
                go_simp
                refine hK.out _ _ (HS.out _ ba) (fun hHeldL=> ?_)
                clear hK K ldc
                exact dW
            case rest=>
              obtain⟨v',HO⟩:=hcut
              obtain⟨ho1,hb4⟩:=HO.out
              obtain⟨a5,c5,e5⟩:=qE ho1.op
              have e6:v'=.slice a5 (p.ps.length+1) c5:=by rw[e5];simp
              subst e6
              have cz:=ho1.at_.get (j:=2) rfl
              simp only[sM]at cz
              have hlz:=ho1.lt
              have HB5:=lI ((HB2.out.mono (Nat.le_of_lt hlt)).trans hb4)
              have HSY:=lI (say1_any wc pb okS ((p.ps.length+1:Nat):Int) zF ⟨om,om⟩ hlz (HE.out.keep HB5.out))
              have HPF:=lI ho1
              clear ho1 hb4 HO cB fB q0 e5 q1
              go_wp2_with fail
              refine HSY.out.mono ?_
              rintro e w6 ⟨rfl,hb6⟩
              have HB6:=lI hb6
              clear hb6
              go_wp2_with fail
              go_ret
              have hb:Below wc.heap.size wc w6:=((Below.refl wc.heap.size wc).alloc (sN _) _).trans (HB6.out.mono zC)
              rw[HS1.out]
              exact⟨rfl,⟨_,_,_,_,_,HPF.out.below hb⟩,HB5.out.trans (hb.mono (Nat.le_of_lt hlz))⟩
          · skip
            have HQ:Hid (S=(qS,p)):=lI (by rw[HS0.out];simp[cmdS,g,g2])
            have hg:(l.length:Int)=2:=om
            have hg2:¬(p.ps.length:Int)<300:=om
            obtain⟨ah,ch,eh⟩:=qE HP2.out.op
            have c2:=HP2.out.at_.get (j:=2) rfl
            simp only[sM]at c2
            rw[eh]at c2
            clear eh
            clear HC HS0 g g2
            exact da
        · skip
          have HQ:Hid (S=(qS,p)):=lI yL
          have hg:((l.length:Int)==2)=false:=yH
          have hg2:¬(l.length:Int)=2:=om
          clear HC HS0 g
          exact da
      by_cases k4:w0=[114,117,110]
      · subst k4
        replace cw2:wc.cell? ⟨w.heap.size,0,none⟩=some (.string ⟨#[114,117,110]⟩):=cw2
        by_cases g:l.length=0
        · have HS1:Hid (S=runS p):=lI (by rw[HS0.out];simp[cmdS,g,runS])
          have HC2:=lI (prun_any HP2.out HEC)
          have hg:(l.length:Int)=0:=om
          clear HC HS0
          exact db
        · skip
          have HQ:Hid (S=(qS,p)):=lI yL
          have hg:((l.length:Int)==0)=false:=yH
          have hg2:¬(l.length:Int)=0:=om
          clear HC HS0 g
          exact da
      by_cases k5:w0=[102,97,115,116]
      · subst k5
        replace cw2:wc.cell? ⟨w.heap.size,0,none⟩=some (.string ⟨#[102,97,115,116]⟩):=cw2
        by_cases g:l.length=1
        · obtain⟨x,rfl⟩:=List.length_eq_one_iff.1 g
          obtain⟨gb,rfl,h7,hgb,hgl,hcl⟩:=UT HC.out.1 zC
          have q0:wc.cell? ⟨gb,0,none⟩=some (.int .u32 x):=yN
          have hx:=HL.out.1 x zC
          have HS1:Hid (S=ranS {p with ran:=false} (runM p.m p.ps) (engE p.m p.ps x)):=lI xC
          have c4:=HP2.out.at_.get (j:=4) rfl
          simp only[sM]at c4
          have f4:=HP2.out.frz 4
          have HP3:=lI HP2.out.off
          obtain⟨w3,hw3⟩:∃x,x=wc.setCell ⟨pb,4,none⟩ (.bool false):=⟨_,rfl⟩
          rw[←hw3]at HP3
          have hs3:wc.heap.size=w3.heap.size:=by rw[hw3];simp[World.setCell]
          have hk3:∀q,q≠pb→w3.heap[q]? =wc.heap[q]? :=fun q hq=>by rw[hw3];exact sT _ _ _ _ xU
          have HB3:Hid (Below pb w w3):=lI yK
          have HE3:=lI (HE.out.keep HB3.out)
          have HW3:=lI hw3
          clear hw3
          have hwx:IntKind.i64.wrap x=x:=by unfold U32 at hx;simp (disch:=omega) only[IntWalk.i64_in]
          have hgp:gb≠pb:=om
          have z0:=(qA (hk3 gb hgp) 0).trans q0
          have hgW:gb<w3.heap.size:=om
          have hplW:=HP3.out.lt
          obtain⟨am,cm,em⟩:=qE HP3.out.oy
          obtain⟨ah,ch,eh⟩:=qE HP3.out.oh
          obtain⟨ap,cp,ep⟩:=qE HP3.out.op
          subst em eh ep
          have d0:=HP3.out.at_.get (j:=0) rfl
          have d1:=HP3.out.at_.get (j:=1) rfl
          have d2:=HP3.out.at_.get (j:=2) rfl
          simp only[sM]at d0 d1 d2
          have HU:=lI (fun W hW=>erun_at HP3.out (W:=W) hW x hx)
          have KP:Hid (∀w',Below w3.heap.size w3 w'→w'.cell? ⟨pb,0,none⟩=some (.slice am p.m.mem.length cm)∧w'.cell? ⟨pb,1,none⟩=some (.slice ah p.m.harts.length ch)∧w'.cell? ⟨pb,2,none⟩=some (.slice ap p.ps.length cp)∧w'.cell? ⟨gb,0,none⟩=some (.int .u32 x)):=
            lI (fun w' h=>⟨(h.cell (p:=⟨pb,0,none⟩) hplW).trans d0,(h.cell (p:=⟨pb,1,none⟩) hplW).trans d1,(h.cell (p:=⟨pb,2,none⟩) hplW).trans d2,(h.cell (p:=⟨gb,0,none⟩) hgW).trans z0⟩)
          have hqr:=engE_rng p.m p.ps x
          obtain⟨q,hq⟩:∃q,q=engE p.m p.ps x:=⟨_,rfl⟩
          have HU:Hid (∀W,Below w3.heap.size w3 W→Calls Tryz.prog 13 #[.agg #[.slice am p.m.mem.length cm,.slice ah p.m.harts.length ch],.slice ap p.ps.length cp,.int .i64 x] W fun e w'=>(∃a1 n1 c1 a2 n2 c2 a3 n3 c3 a4 n4 c4 rm pu st steps,e=.returned (.tuple #[.agg #[.slice a1 n1 c1,.slice a2 n2 c2,.slice a3 n3 c3,.int .i64 steps],.agg #[.int .i64 rm,.slice a4 n4 c4,.int .i64 pu,.int .i64 st],.int .i64 q])∧Hid (q=0→steps=(runM p.m p.ps).steps∧JM W.heap.size w' (.slice a1 n1 c1) (.slice a2 n2 c2) (.slice a3 n3 c3) (runM p.m p.ps)))∧Below W.heap.size W w'):=lI (by rw[hq];exact HU.out)
          rw[←hq]at HS1 hqr
          clear HC HS0 h7 g hk3 hq q0
          go_upto_region 23 with(fail)
          rw[←HW3.out]
          clear c4 f4
          go_cut [9,11]from 167 to 184 (fun t9 t11 wx=>∃(sb:Nat) (a1:Option Addr) (n1 c1:Nat) (a2:Option Addr) (n2 c2:Nat) (a3:Option Addr) (n3 c3:Nat) (steps:Int),t9=.pointer (some ⟨sb,0,none⟩)∧t11=.int .i64 q∧Hid (Below w3.heap.size w3 wx∧At wx sb 0 [.slice a1 n1 c1,.slice a2 n2 c2,.slice a3 n3 c3,.int .i64 steps]∧(q=0→steps=(runM p.m p.ps).steps∧JM (pb+1) wx (.slice a1 n1 c1) (.slice a2 n2 c2) (.slice a3 n3 c3) (runM p.m p.ps))))
          case first=>
            have hc:Below w3.heap.size w3 w3.drew:=Below.drew br
            refine wp_region_held_drew (S:=fun w'=>w'.cell? ⟨pb,0,none⟩=some (.slice am p.m.mem.length cm)∧w'.cell? ⟨pb,1,none⟩=some (.slice ah p.m.harts.length ch)∧w'.cell? ⟨pb,2,none⟩=some (.slice ap p.ps.length cp)∧w'.cell? ⟨gb,0,none⟩=some (.int .u32 x)) kr (KP.out _ hc) (fun hHeld=> ?_)
            refine tak 0 (.pointer (some ⟨pb,0,none⟩)) ?_
            try simp only[sA,sB,sC,Act.put,sD,sE,sG]
            refine tak 1 (.pointer (some ⟨pb,0,none⟩)) ?_
            try simp only[sA,sB,sC,Act.put,sD,sE,sG]
            refine tak 2 (.pointer (some ⟨pb,0,none⟩)) ?_
            try simp only[sA,sB,sC,Act.put,sD,sE,sG]
            refine tak 3 (.agg #[.slice am p.m.mem.length cm,.slice ah p.m.harts.length ch]) ?_
            try simp only[sA,sB,sC,Act.put,sD,sE,sG]
            refine tak 4 (.pointer (some ⟨pb,0,none⟩)) ?_
            try simp only[sA,sB,sC,Act.put,sD,sE,sG]
            refine tak 5 (.pointer (some ⟨pb,0,none⟩)) ?_
            try simp only[sA,sB,sC,Act.put,sD,sE,sG]
            refine tak 6 (.pointer (some ⟨pb,2,none⟩)) ?_
            try simp only[sA,sB,sC,Act.put,sD,sE,sG]
            refine tak 7 (.slice ap p.ps.length cp) ?_
            try simp only[sA,sB,sC,Act.put,sD,sE,sG]
            refine tak 8 (.slice (some ⟨gb,0,none⟩) 1 cl) ?_
            try simp only[sA,sB,sC,Act.put,sD,sE,sG]
            refine tak 9 (.pointer (some ⟨gb,0,none⟩)) ?_
            try simp only[sA,sB,sC,Act.put,sD,sE,sG]
            refine tak 10 (.int .u32 x) ?_
            try simp only[sA,sB,sC,Act.put,sD,sE,sG]
            refine tak 11 (.int .i64 x) ?_
            try simp only[sA,sB,sC,Act.put,sD,sE,sG]
            refine wpAnyH_ready (rs:=[12,17,18]) kr zC ?_
            refine sS rfl (fun K hK=> ?_) (sS rfl (fun K hK=> ?_) (sS rfl (fun K hK=> ?_) AllReadyH.nil))
            focus
              go_simp
              refine(HU.out _ hc).mono ?_
              rintro e wa ⟨⟨a1,n1,c1,a2,n2,c2,a3,n3,c3,a4,n4,c4,rm,pu,st,steps,rfl,HRU⟩,hbm⟩
              obtain⟨B,eB⟩:∃B,B=w3.drew.heap.size:=⟨_,rfl⟩
              rw[←eB]at HRU
              have hBp:pb+1≤B:=zX
              have haz:Below wa.heap.size wa wa:=Below.refl _ _
              have hc:=hc.trans (hbm.mono hc.size)
              clear hbm eB
              refine hK.out _ _ (KP.out _ hc) (fun hHeld2=> ?_)
              clear hK K
              refine tak 13 (.tuple #[.agg #[.slice a1 n1 c1,.slice a2 n2 c2,.slice a3 n3 c3,.int .i64 steps],.agg #[.int .i64 rm,.slice a4 n4 c4,.int .i64 pu,.int .i64 st],.int .i64 q]) ?_
              try simp only[sA,sB,sC,Act.put,sD,sE,sG]
              refine tak 14 (.agg #[.slice a1 n1 c1,.slice a2 n2 c2,.slice a3 n3 c3,.int .i64 steps]) ?_
              try simp only[sA,sB,sC,Act.put,sD,sE,sG]
              refine tak 15 (.agg #[.int .i64 rm,.slice a4 n4 c4,.int .i64 pu,.int .i64 st]) ?_
              try simp only[sA,sB,sC,Act.put,sD,sE,sG]
              refine tak 16 (.int .i64 q) ?_
              try simp only[sA,sB,sC,Act.put,sD,sE,sG]
              refine wpAnyH_ready (rs:=[17,18]) kr zC ?_
              refine sS rfl (fun K hK=> ?_) (sS rfl (fun K hK=> ?_) AllReadyH.nil)
              focus
                go_simp
                obtain⟨v2,ew⟩:∃y,y=wa.alloc (.cells #[.slice none 0 0,.slice none 0 0,.slice none 0 0,.int .i64 0] 50):=⟨_,rfl⟩
                obtain⟨b9,eb⟩:∃y,y=wa.heap.size:=⟨_,rfl⟩
                rw[←ew,←eb]
                have l9:w3.heap.size≤b9:=zX
                have nb9:¬(B≤b9∧b9<wa.heap.size):=xQ
                have hbm:Below wa.heap.size wa v2:=yC
                have blk9:v2.heap[b9]? =some (.cells #[.slice none 0 0,.slice none 0 0,.slice none 0 0,.int .i64 0] 50 (0,0)):=yA
                have hc:=hc.trans (hbm.mono hc.size)
                have haz:=haz.trans (hbm.mono haz.size)
                clear ew eb hbm
                refine hK.out _ _ (KP.out _ hc) (fun hHeld3=> ?_)
                clear hK K
                refine wpAnyH_ready (rs:=[18]) kr zC ?_
                refine sS rfl (fun K hK=> ?_) AllReadyH.nil
                go_simp
                obtain⟨v3,ew⟩:∃y,y=v2.alloc (.cells #[.int .i64 0,.slice none 0 0,.int .i64 0,.int .i64 0] 53):=⟨_,rfl⟩
                obtain⟨b10,eb⟩:∃y,y=v2.heap.size:=⟨_,rfl⟩
                rw[←ew,←eb]
                have l10:w3.heap.size≤b10:=zX
                have ne910:b9≠b10:=xI
                have nb10:¬(B≤b10∧b10<wa.heap.size):=xQ
                have hbm:Below v2.heap.size v2 v3:=yC
                have blk9:=(hbm.block b9 (qR blk9)).trans blk9
                have blk10:v3.heap[b10]? =some (.cells #[.int .i64 0,.slice none 0 0,.int .i64 0,.int .i64 0] 53 (0,0)):=yA
                have hc:=hc.trans (hbm.mono hc.size)
                have haz:=haz.trans (hbm.mono haz.size)
                clear ew eb hbm
                refine hK.out _ _ (KP.out _ hc) (fun hHeld4=> ?_)
                clear hK K
                obtain⟨wz,ewz,hcz,hazz,bz9,bz10⟩:∃wz,wz=v3∧Below w3.heap.size w3 wz∧Below wa.heap.size wa wz∧wz.heap[b9]? =some (.cells #[.slice none 0 0,.slice none 0 0,.slice none 0 0,.int .i64 0] 50 (0,0))∧wz.heap[b10]? =some (.cells #[.int .i64 0,.slice none 0 0,.int .i64 0,.int .i64 0] 53 (0,0)):=⟨_,rfl,hc,haz,blk9,blk10⟩
                rw[←ewz]
                clear ewz hc haz blk9 blk10
              rotate_left 1
              focus
                go_simp
                obtain⟨v2,ew⟩:∃y,y=wa.alloc (.cells #[.int .i64 0,.slice none 0 0,.int .i64 0,.int .i64 0] 53):=⟨_,rfl⟩
                obtain⟨b10,eb⟩:∃y,y=wa.heap.size:=⟨_,rfl⟩
                rw[←ew,←eb]
                have l10:w3.heap.size≤b10:=zX
                have nb10:¬(B≤b10∧b10<wa.heap.size):=xQ
                have hbm:Below wa.heap.size wa v2:=yC
                have blk10:v2.heap[b10]? =some (.cells #[.int .i64 0,.slice none 0 0,.int .i64 0,.int .i64 0] 53 (0,0)):=yA
                have hc:=hc.trans (hbm.mono hc.size)
                have haz:=haz.trans (hbm.mono haz.size)
                clear ew eb hbm
                refine hK.out _ _ (KP.out _ hc) (fun hHeld3=> ?_)
                clear hK K
                refine wpAnyH_ready (rs:=[17]) kr zC ?_
                refine sS rfl (fun K hK=> ?_) AllReadyH.nil
                go_simp
                obtain⟨v3,ew⟩:∃y,y=v2.alloc (.cells #[.slice none 0 0,.slice none 0 0,.slice none 0 0,.int .i64 0] 50):=⟨_,rfl⟩
                obtain⟨b9,eb⟩:∃y,y=v2.heap.size:=⟨_,rfl⟩
                rw[←ew,←eb]
                have l9:w3.heap.size≤b9:=zX
                have ne910:b9≠b10:=xE
                have nb9:¬(B≤b9∧b9<wa.heap.size):=xQ
                have hbm:Below v2.heap.size v2 v3:=yC
                have blk10:=(hbm.block b10 (qR blk10)).trans blk10
                have blk9:v3.heap[b9]? =some (.cells #[.slice none 0 0,.slice none 0 0,.slice none 0 0,.int .i64 0] 50 (0,0)):=yA
                have hc:=hc.trans (hbm.mono hc.size)
                have haz:=haz.trans (hbm.mono haz.size)
                clear ew eb hbm
                refine hK.out _ _ (KP.out _ hc) (fun hHeld4=> ?_)
                clear hK K
                obtain⟨wz,ewz,hcz,hazz,bz9,bz10⟩:∃wz,wz=v3∧Below w3.heap.size w3 wz∧Below wa.heap.size wa wz∧wz.heap[b9]? =some (.cells #[.slice none 0 0,.slice none 0 0,.slice none 0 0,.int .i64 0] 50 (0,0))∧wz.heap[b10]? =some (.cells #[.int .i64 0,.slice none 0 0,.int .i64 0,.int .i64 0] 53 (0,0)):=⟨_,rfl,hc,haz,blk9,blk10⟩
                rw[←ewz]
                clear ewz hc haz blk9 blk10
              rotate_left 1
            rotate_left 2
            focus
              go_simp
              obtain⟨v1,ew⟩:∃y,y=(w3.alloc (.cells #[.slice none 0 0,.slice none 0 0,.slice none 0 0,.int .i64 0] 50)).drew:=⟨_,rfl⟩
              obtain⟨b9,eb⟩:∃y,y=w3.heap.size:=⟨_,rfl⟩
              rw[←ew,←eb]
              have l9:w3.heap.size≤b9:=om
              have hbm:Below w3.heap.size w3 v1:=by rw[ew];exact Below.drew (Below.alloc br (sN _) _)
              have blk9:v1.heap[b9]? =some (.cells #[.slice none 0 0,.slice none 0 0,.slice none 0 0,.int .i64 0] 50 (0,0)):=yA
              have hc:=hbm
              clear ew eb hbm
              refine hK.out _ _ (KP.out _ hc) (fun hHeld2=> ?_)
              clear hK K
              refine wpAnyH_ready (rs:=[12,18]) kr zC ?_
              refine sS rfl (fun K hK=> ?_) (sS rfl (fun K hK=> ?_) AllReadyH.nil)
              focus
                go_simp
                refine(HU.out _ hc).mono ?_
                rintro e wa ⟨⟨a1,n1,c1,a2,n2,c2,a3,n3,c3,a4,n4,c4,rm,pu,st,steps,rfl,HRU⟩,hbm⟩
                obtain⟨B,eB⟩:∃B,B=v1.heap.size:=⟨_,rfl⟩
                rw[←eB]at HRU
                have hBp:pb+1≤B:=zX
                have haz:Below wa.heap.size wa wa:=Below.refl _ _
                have nb9:¬(B≤b9∧b9<wa.heap.size):=xI
                have blk9:=(hbm.block b9 (qR blk9)).trans blk9
                have hc:=hc.trans (hbm.mono hc.size)
                clear hbm eB
                refine hK.out _ _ (KP.out _ hc) (fun hHeld3=> ?_)
                clear hK K
                refine tak 13 (.tuple #[.agg #[.slice a1 n1 c1,.slice a2 n2 c2,.slice a3 n3 c3,.int .i64 steps],.agg #[.int .i64 rm,.slice a4 n4 c4,.int .i64 pu,.int .i64 st],.int .i64 q]) ?_
                try simp only[sA,sB,sC,Act.put,sD,sE,sG]
                refine tak 14 (.agg #[.slice a1 n1 c1,.slice a2 n2 c2,.slice a3 n3 c3,.int .i64 steps]) ?_
                try simp only[sA,sB,sC,Act.put,sD,sE,sG]
                refine tak 15 (.agg #[.int .i64 rm,.slice a4 n4 c4,.int .i64 pu,.int .i64 st]) ?_
                try simp only[sA,sB,sC,Act.put,sD,sE,sG]
                refine tak 16 (.int .i64 q) ?_
                try simp only[sA,sB,sC,Act.put,sD,sE,sG]
                refine wpAnyH_ready (rs:=[18]) kr zC ?_
                refine sS rfl (fun K hK=> ?_) AllReadyH.nil
                go_simp
                obtain⟨v3,ew⟩:∃y,y=wa.alloc (.cells #[.int .i64 0,.slice none 0 0,.int .i64 0,.int .i64 0] 53):=⟨_,rfl⟩
                obtain⟨b10,eb⟩:∃y,y=wa.heap.size:=⟨_,rfl⟩
                rw[←ew,←eb]
                have l10:w3.heap.size≤b10:=zX
                have ne910:b9≠b10:=xI
                have nb10:¬(B≤b10∧b10<wa.heap.size):=xQ
                have hbm:Below wa.heap.size wa v3:=yC
                have blk9:=(hbm.block b9 (qR blk9)).trans blk9
                have blk10:v3.heap[b10]? =some (.cells #[.int .i64 0,.slice none 0 0,.int .i64 0,.int .i64 0] 53 (0,0)):=yA
                have hc:=hc.trans (hbm.mono hc.size)
                have haz:=haz.trans (hbm.mono haz.size)
                clear ew eb hbm
                refine hK.out _ _ (KP.out _ hc) (fun hHeld4=> ?_)
                clear hK K
                obtain⟨wz,ewz,hcz,hazz,bz9,bz10⟩:∃wz,wz=v3∧Below w3.heap.size w3 wz∧Below wa.heap.size wa wz∧wz.heap[b9]? =some (.cells #[.slice none 0 0,.slice none 0 0,.slice none 0 0,.int .i64 0] 50 (0,0))∧wz.heap[b10]? =some (.cells #[.int .i64 0,.slice none 0 0,.int .i64 0,.int .i64 0] 53 (0,0)):=⟨_,rfl,hc,haz,blk9,blk10⟩
                rw[←ewz]
                clear ewz hc haz blk9 blk10
              rotate_left 1
              focus
                go_simp
                obtain⟨v2,ew⟩:∃y,y=v1.alloc (.cells #[.int .i64 0,.slice none 0 0,.int .i64 0,.int .i64 0] 53):=⟨_,rfl⟩
                obtain⟨b10,eb⟩:∃y,y=v1.heap.size:=⟨_,rfl⟩
                rw[←ew,←eb]
                have l10:w3.heap.size≤b10:=zX
                have ne910:b9≠b10:=xI
                have hbm:Below v1.heap.size v1 v2:=yC
                have blk9:=(hbm.block b9 (qR blk9)).trans blk9
                have blk10:v2.heap[b10]? =some (.cells #[.int .i64 0,.slice none 0 0,.int .i64 0,.int .i64 0] 53 (0,0)):=yA
                have hc:=hc.trans (hbm.mono hc.size)
                clear ew eb hbm
                refine hK.out _ _ (KP.out _ hc) (fun hHeld3=> ?_)
                clear hK K
                refine wpAnyH_ready (rs:=[12]) kr zC ?_
                refine sS rfl (fun K hK=> ?_) AllReadyH.nil
                go_simp
                refine(HU.out _ hc).mono ?_
                rintro e wa ⟨⟨a1,n1,c1,a2,n2,c2,a3,n3,c3,a4,n4,c4,rm,pu,st,steps,rfl,HRU⟩,hbm⟩
                obtain⟨B,eB⟩:∃B,B=v2.heap.size:=⟨_,rfl⟩
                rw[←eB]at HRU
                have hBp:pb+1≤B:=zX
                have haz:Below wa.heap.size wa wa:=Below.refl _ _
                have nb9:¬(B≤b9∧b9<wa.heap.size):=xI
                have blk9:=(hbm.block b9 (qR blk9)).trans blk9
                have nb10:¬(B≤b10∧b10<wa.heap.size):=xE
                have blk10:=(hbm.block b10 (qR blk10)).trans blk10
                have hc:=hc.trans (hbm.mono hc.size)
                clear hbm eB
                refine hK.out _ _ (KP.out _ hc) (fun hHeld4=> ?_)
                clear hK K
                refine tak 13 (.tuple #[.agg #[.slice a1 n1 c1,.slice a2 n2 c2,.slice a3 n3 c3,.int .i64 steps],.agg #[.int .i64 rm,.slice a4 n4 c4,.int .i64 pu,.int .i64 st],.int .i64 q]) ?_
                try simp only[sA,sB,sC,Act.put,sD,sE,sG]
                refine tak 14 (.agg #[.slice a1 n1 c1,.slice a2 n2 c2,.slice a3 n3 c3,.int .i64 steps]) ?_
                try simp only[sA,sB,sC,Act.put,sD,sE,sG]
                refine tak 15 (.agg #[.int .i64 rm,.slice a4 n4 c4,.int .i64 pu,.int .i64 st]) ?_
                try simp only[sA,sB,sC,Act.put,sD,sE,sG]
                refine tak 16 (.int .i64 q) ?_
                try simp only[sA,sB,sC,Act.put,sD,sE,sG]
                obtain⟨wz,ewz,hcz,hazz,bz9,bz10⟩:∃wz,wz=wa∧Below w3.heap.size w3 wz∧Below wa.heap.size wa wz∧wz.heap[b9]? =some (.cells #[.slice none 0 0,.slice none 0 0,.slice none 0 0,.int .i64 0] 50 (0,0))∧wz.heap[b10]? =some (.cells #[.int .i64 0,.slice none 0 0,.int .i64 0,.int .i64 0] 53 (0,0)):=⟨_,rfl,hc,haz,blk9,blk10⟩
                rw[←ewz]
                clear ewz hc haz blk9 blk10
              rotate_left 1
            rotate_left 2
            focus
              go_simp
              obtain⟨v1,ew⟩:∃y,y=(w3.alloc (.cells #[.int .i64 0,.slice none 0 0,.int .i64 0,.int .i64 0] 53)).drew:=⟨_,rfl⟩
              obtain⟨b10,eb⟩:∃y,y=w3.heap.size:=⟨_,rfl⟩
              rw[←ew,←eb]
              have l10:w3.heap.size≤b10:=om
              have hbm:Below w3.heap.size w3 v1:=by rw[ew];exact Below.drew (Below.alloc br (sN _) _)
              have blk10:v1.heap[b10]? =some (.cells #[.int .i64 0,.slice none 0 0,.int .i64 0,.int .i64 0] 53 (0,0)):=yA
              have hc:=hbm
              clear ew eb hbm
              refine hK.out _ _ (KP.out _ hc) (fun hHeld2=> ?_)
              clear hK K
              refine wpAnyH_ready (rs:=[12,17]) kr zC ?_
              refine sS rfl (fun K hK=> ?_) (sS rfl (fun K hK=> ?_) AllReadyH.nil)
              focus
                go_simp
                refine(HU.out _ hc).mono ?_
                rintro e wa ⟨⟨a1,n1,c1,a2,n2,c2,a3,n3,c3,a4,n4,c4,rm,pu,st,steps,rfl,HRU⟩,hbm⟩
                obtain⟨B,eB⟩:∃B,B=v1.heap.size:=⟨_,rfl⟩
                rw[←eB]at HRU
                have hBp:pb+1≤B:=zX
                have haz:Below wa.heap.size wa wa:=Below.refl _ _
                have nb10:¬(B≤b10∧b10<wa.heap.size):=xE
                have blk10:=(hbm.block b10 (qR blk10)).trans blk10
                have hc:=hc.trans (hbm.mono hc.size)
                clear hbm eB
                refine hK.out _ _ (KP.out _ hc) (fun hHeld3=> ?_)
                clear hK K
                refine tak 13 (.tuple #[.agg #[.slice a1 n1 c1,.slice a2 n2 c2,.slice a3 n3 c3,.int .i64 steps],.agg #[.int .i64 rm,.slice a4 n4 c4,.int .i64 pu,.int .i64 st],.int .i64 q]) ?_
                try simp only[sA,sB,sC,Act.put,sD,sE,sG]
                refine tak 14 (.agg #[.slice a1 n1 c1,.slice a2 n2 c2,.slice a3 n3 c3,.int .i64 steps]) ?_
                try simp only[sA,sB,sC,Act.put,sD,sE,sG]
                refine tak 15 (.agg #[.int .i64 rm,.slice a4 n4 c4,.int .i64 pu,.int .i64 st]) ?_
                try simp only[sA,sB,sC,Act.put,sD,sE,sG]
                refine tak 16 (.int .i64 q) ?_
                try simp only[sA,sB,sC,Act.put,sD,sE,sG]
                refine wpAnyH_ready (rs:=[17]) kr zC ?_
                refine sS rfl (fun K hK=> ?_) AllReadyH.nil
                go_simp
                obtain⟨v3,ew⟩:∃y,y=wa.alloc (.cells #[.slice none 0 0,.slice none 0 0,.slice none 0 0,.int .i64 0] 50):=⟨_,rfl⟩
                obtain⟨b9,eb⟩:∃y,y=wa.heap.size:=⟨_,rfl⟩
                rw[←ew,←eb]
                have l9:w3.heap.size≤b9:=zX
                have ne910:b9≠b10:=xE
                have nb9:¬(B≤b9∧b9<wa.heap.size):=xQ
                have hbm:Below wa.heap.size wa v3:=yC
                have blk10:=(hbm.block b10 (qR blk10)).trans blk10
                have blk9:v3.heap[b9]? =some (.cells #[.slice none 0 0,.slice none 0 0,.slice none 0 0,.int .i64 0] 50 (0,0)):=yA
                have hc:=hc.trans (hbm.mono hc.size)
                have haz:=haz.trans (hbm.mono haz.size)
                clear ew eb hbm
                refine hK.out _ _ (KP.out _ hc) (fun hHeld4=> ?_)
                clear hK K
                obtain⟨wz,ewz,hcz,hazz,bz9,bz10⟩:∃wz,wz=v3∧Below w3.heap.size w3 wz∧Below wa.heap.size wa wz∧wz.heap[b9]? =some (.cells #[.slice none 0 0,.slice none 0 0,.slice none 0 0,.int .i64 0] 50 (0,0))∧wz.heap[b10]? =some (.cells #[.int .i64 0,.slice none 0 0,.int .i64 0,.int .i64 0] 53 (0,0)):=⟨_,rfl,hc,haz,blk9,blk10⟩
                rw[←ewz]
                clear ewz hc haz blk9 blk10
              rotate_left 1
              focus
                go_simp
                obtain⟨v2,ew⟩:∃y,y=v1.alloc (.cells #[.slice none 0 0,.slice none 0 0,.slice none 0 0,.int .i64 0] 50):=⟨_,rfl⟩
                obtain⟨b9,eb⟩:∃y,y=v1.heap.size:=⟨_,rfl⟩
                rw[←ew,←eb]
                have l9:w3.heap.size≤b9:=zX
                have ne910:b9≠b10:=xE
                have hbm:Below v1.heap.size v1 v2:=yC
                have blk10:=(hbm.block b10 (qR blk10)).trans blk10
                have blk9:v2.heap[b9]? =some (.cells #[.slice none 0 0,.slice none 0 0,.slice none 0 0,.int .i64 0] 50 (0,0)):=yA
                have hc:=hc.trans (hbm.mono hc.size)
                clear ew eb hbm
                refine hK.out _ _ (KP.out _ hc) (fun hHeld3=> ?_)
                clear hK K
                refine wpAnyH_ready (rs:=[12]) kr zC ?_
                refine sS rfl (fun K hK=> ?_) AllReadyH.nil
                go_simp
                refine(HU.out _ hc).mono ?_
                rintro e wa ⟨⟨a1,n1,c1,a2,n2,c2,a3,n3,c3,a4,n4,c4,rm,pu,st,steps,rfl,HRU⟩,hbm⟩
                obtain⟨B,eB⟩:∃B,B=v2.heap.size:=⟨_,rfl⟩
                rw[←eB]at HRU
                have hBp:pb+1≤B:=zX
                have haz:Below wa.heap.size wa wa:=Below.refl _ _
                have nb10:¬(B≤b10∧b10<wa.heap.size):=xE
                have blk10:=(hbm.block b10 (qR blk10)).trans blk10
                have nb9:¬(B≤b9∧b9<wa.heap.size):=xI
                have blk9:=(hbm.block b9 (qR blk9)).trans blk9
                have hc:=hc.trans (hbm.mono hc.size)
                clear hbm eB
                refine hK.out _ _ (KP.out _ hc) (fun hHeld4=> ?_)
                clear hK K
                refine tak 13 (.tuple #[.agg #[.slice a1 n1 c1,.slice a2 n2 c2,.slice a3 n3 c3,.int .i64 steps],.agg #[.int .i64 rm,.slice a4 n4 c4,.int .i64 pu,.int .i64 st],.int .i64 q]) ?_
                try simp only[sA,sB,sC,Act.put,sD,sE,sG]
                refine tak 14 (.agg #[.slice a1 n1 c1,.slice a2 n2 c2,.slice a3 n3 c3,.int .i64 steps]) ?_
                try simp only[sA,sB,sC,Act.put,sD,sE,sG]
                refine tak 15 (.agg #[.int .i64 rm,.slice a4 n4 c4,.int .i64 pu,.int .i64 st]) ?_
                try simp only[sA,sB,sC,Act.put,sD,sE,sG]
                refine tak 16 (.int .i64 q) ?_
                try simp only[sA,sB,sC,Act.put,sD,sE,sG]
                obtain⟨wz,ewz,hcz,hazz,bz9,bz10⟩:∃wz,wz=wa∧Below w3.heap.size w3 wz∧Below wa.heap.size wa wz∧wz.heap[b9]? =some (.cells #[.slice none 0 0,.slice none 0 0,.slice none 0 0,.int .i64 0] 50 (0,0))∧wz.heap[b10]? =some (.cells #[.int .i64 0,.slice none 0 0,.int .i64 0,.int .i64 0] 53 (0,0)):=⟨_,rfl,hc,haz,blk9,blk10⟩
                rw[←ewz]
                clear ewz hc haz blk9 blk10
              rotate_left 1
            rotate_left 2
            all_goals
              obtain⟨v4,ev4⟩:∃y,y=wz.setCells b9 0 (#[.slice a1 n1 c1,.slice a2 n2 c2,.slice a3 n3 c3,.int .i64 steps]:Array Value).toList:=⟨_,rfl⟩
              obtain⟨v5,ev5⟩:∃y,y=v4.setCells b10 0 (#[.int .i64 rm,.slice a4 n4 c4,.int .i64 pu,.int .i64 st]:Array Value).toList:=⟨_,rfl⟩
              have t9:wz.there b9 0 4:=qt bz9 rfl
              have t10:v4.there b10 0 4:=qt ((show v4.heap[b10]? =wz.heap[b10]? by rw[ev4];exact qT (Ne.symm ne910) _ _ _).trans bz10) rfl
              have h4:Below w3.heap.size w3 v4:=by rw[ev4];exact qL l9 _ _ _ hcz
              have h5:Below w3.heap.size w3 v5:=by rw[ev5];exact qL l10 _ _ _ h4
              have hat:At v5 b9 0 [.slice a1 n1 c1,.slice a2 n2 c2,.slice a3 n3 c3,.int .i64 steps]:=by rw[ev5];exact uN (Ne.symm ne910) _ _ _ (by rw[ev4];exact qv t9)
              have HREL:=lI (And.intro h5 (And.intro hat (eout_keep HRU.out hBp hazz nb9 nb10 (W':=v5) (fun g h1 h2=>by rw[ev5,ev4];exact(qT h2 _ _ _).trans (qT h1 _ _ _)))))
              have HV4:=lI ev4
              have HV5:=lI ev5
              clear ev4 ev5 hat
              have hal9:(#[.slice a1 n1 c1,.slice a2 n2 c2,.slice a3 n3 c3,.int .i64 steps]:Array Value).all (·.oneCell')=true:=zT
              have hal10:(#[.int .i64 rm,.slice a4 n4 c4,.int .i64 pu,.int .i64 st]:Array Value).all (·.oneCell')=true:=zT
              refine wpAnyH_ready (rs:=[19]) kr zC ?_
              refine sS rfl (fun K hK=> ?_) AllReadyH.nil
              rw[if_pos zK]
              refine wp_store_mid 50 _ _ rfl b9 0 (#[.slice a1 n1 c1,.slice a2 n2 c2,.slice a3 n3 c3,.int .i64 steps]) rfl rfl t9 yD hal9 ?_
              simp only[Act.put,sD,sE,sG]
              rw[←HV4.out]
              refine hK.out _ _ (KP.out _ h4) (fun hHeld5=> ?_)
              clear hK K
              refine wpAnyH_ready (rs:=[20]) kr zC ?_
              refine sS rfl (fun K hK=> ?_) AllReadyH.nil
              rw[if_pos zK]
              refine wp_store_mid 53 _ _ rfl b10 0 (#[.int .i64 rm,.slice a4 n4 c4,.int .i64 pu,.int .i64 st]) rfl rfl t10 yD hal10 ?_
              simp only[Act.put,sD,sE,sG]
              rw[←HV5.out]
              refine hK.out _ _ (KP.out _ h5) (fun hHeld6=> ?_)
              clear hK K
              refine tak 21 (.int .i64 q) ?_
              try simp only[sA,sB,sC,Act.put,sD,sE,sG]
              refine wpAnyH_done kr ?_ _
              clear hHeld hHeld2 hHeld3 hHeld4 hHeld5 hHeld6
              go_wp2_with fail
              go_meet
              case rel=>exact⟨b9,_,_,_,_,_,_,_,_,_,_,rfl,rfl,HREL⟩
          case rest=>
            obtain⟨sb,a1,n1,c1,a2,n2,c2,a3,n3,c3,steps,rfl,rfl,HC⟩:=hcut
            obtain⟨hb,hat,hru⟩:=HC.out
            have hpc:=HP3.out.below hb
            have HB4:=lI (HB3.out.trans (hb.mono (Nat.le_of_lt hplW)))
            have s0:=hat.get (j:=0) rfl
            have s1:=hat.get (j:=1) rfl
            have s2:=hat.get (j:=2) rfl
            have s3:=hat.get (j:=3) rfl
            simp only[sM]at s0 s1 s2 s3
            have HC2:=lI (pshown_any hpc (.slice a1 n1 c1) (.slice a2 n2 c2) (.slice a3 n3 c3) (runM p.m p.ps) steps q (lI (HE.out.keep HB4.out)) ⟨om,om⟩ ⟨⟨_,_,_,rfl⟩,⟨_,_,_,rfl⟩,⟨_,_,_,rfl⟩⟩ hru)
            clear HC hb hat hru hpc d0 d1 d2 z0 HU KP hqr
            go_wp2_with fail
            refine HC2.out.mono ?_
            rintro e w5 ⟨rfl,hpl,hb5⟩
            have HY:=lI (And.intro hpl hb5)
            clear hpl hb5
            go_wp2_with fail
            go_ret
            rw[HS1.out]
            exact⟨rfl,HY.out.1,HB4.out.trans HY.out.2⟩
        · exact dY
      by_cases k6:w0=[104,97,114,116,63]
      · subst k6
        replace cw2:wc.cell? ⟨w.heap.size,0,none⟩=some (.string ⟨#[104,97,114,116,63]⟩):=cw2
        by_cases g:l.length=1
        · obtain⟨x,rfl⟩:=List.length_eq_one_iff.1 g
          obtain⟨gb,rfl,h7,hgb,hgl,hcl⟩:=UT HC.out.1 zC
          have q0:wc.cell? ⟨gb,0,none⟩=some (.int .u32 x):=yN
          have hx:=HL.out.1 x zC
          have HS1:Hid (S=(lookS p x,p)):=lI xC
          have HC2:=lI (plook_any HP2.out x hx HEC)
          exact dZ
        · exact dY
      by_cases k7:w0=[119,104,97,116]
      · subst k7
        replace cw2:wc.cell? ⟨w.heap.size,0,none⟩=some (.string ⟨#[119,104,97,116]⟩):=cw2
        by_cases g:l.length=1
        · obtain⟨x,rfl⟩:=List.length_eq_one_iff.1 g
          obtain⟨gb,rfl,h7,hgb,hgl,hcl⟩:=UT HC.out.1 zC
          have q0:wc.cell? ⟨gb,0,none⟩=some (.int .u32 x):=yN
          have hx:=HL.out.1 x zC
          have HS1:Hid (S=(whatS x,p)):=lI xC
          have HC2:=lI (pwhat_any x hx wc HEC (by have:=HB2.out.size;omega))
          exact dZ
        · exact dY
      by_cases k8:w0=[115,104,111,119]
      · subst k8
        replace cw2:wc.cell? ⟨w.heap.size,0,none⟩=some (.string ⟨#[115,104,111,119]⟩):=cw2
        by_cases g:l.length=1
        · obtain⟨x,rfl⟩:=List.length_eq_one_iff.1 g
          obtain⟨gb,rfl,h7,hgb,hgl,hcl⟩:=UT HC.out.1 zC
          have q0:wc.cell? ⟨gb,0,none⟩=some (.int .u32 x):=yN
          have hx:=HL.out.1 x zC
          have HS1:Hid (S=(showS p x,p)):=lI xC
          have HC2:=lI (ptext_any HP2.out x hx HEC)
          exact dZ
        · exact dY
      by_cases k9:w0=[98,97,99,107]
      · subst k9
        replace cw2:wc.cell? ⟨w.heap.size,0,none⟩=some (.string ⟨#[98,97,99,107]⟩):=cw2
        by_cases g:l.length=1
        · obtain⟨x,rfl⟩:=List.length_eq_one_iff.1 g
          obtain⟨gb,rfl,h7,hgb,hgl,hcl⟩:=UT HC.out.1 zC
          have q0:wc.cell? ⟨gb,0,none⟩=some (.int .u32 x):=yN
          have hx:=HL.out.1 x zC
          have HS1:Hid (S=backP p x):=lI xC
          have HC2:=lI (pback_any HP2.out x hx)
          clear HC HS0 h7 g
          exact db
        · exact dY
      by_cases k10:w0=[98,108,111,99,107]
      · subst k10
        replace cw2:wc.cell? ⟨w.heap.size,0,none⟩=some (.string ⟨#[98,108,111,99,107]⟩):=cw2
        by_cases g:l.length=1
        · obtain⟨x,rfl⟩:=List.length_eq_one_iff.1 g
          obtain⟨gb,rfl,h7,hgb,hgl,hcl⟩:=UT HC.out.1 zC
          have q0:wc.cell? ⟨gb,0,none⟩=some (.int .u32 x):=yN
          have hx:=HL.out.1 x zC
          have HS1:Hid (S=(Lib.decDigits (QS p.m.mem x).2.length,p)):=lI xC
          obtain⟨am,cm,em⟩:=qE HP2.out.oy
          have c0:=HP2.out.at_.get (j:=0) rfl
          simp only[sM]at c0
          rw[em]at c0
          have HM:=lI (fun W (hW:Below wc.heap.size wc W)=>make_any (.slice am p.m.mem.length cm) p.m.mem x W ((by rw[←em];exact ql HP2.out.oy:Ints .u8 wc (.slice am p.m.mem.length cm) p.m.mem).below hW) hx (bytes_getD HP2.out.wf.mem) (by have:=HP2.out.lim.1;omega))
          have HIT:=lI (fun W (hW:Below wc.heap.size wc W)=>itoa_dec (QS p.m.mem x).2.length (makeS_len p.m.mem x) W (HEC.out.keep (hW.mono (Nat.le_of_lt HP2.out.lt))) (by have:=hW.size;have:=HP2.out.lt;omega))
          have hpl:=HP2.out.lt
          have hfb:=fun a b w=>field_blkD a b w
          clear HC HS0 h7 g em
          go_upto_region 34 with(fail)
          refine qZ (fun W=>Below wc.heap.size wc W) 8 kr kr (Below.drew br) ?_
          simp only[List.take_succ_cons,List.take_zero]
          iterate 4 quiet_step ((intro _;rfl))
          refine qa rfl 27 _ rfl ⟨pb,0,none⟩ rfl (.slice am p.m.mem.length cm) (fun W hW=>by have hc:=(hW.cell (p:=⟨pb,0,none⟩) hpl).trans c0;go_simp) ?_
          iterate 2 quiet_step ((intro _;rfl))
          refine qa rfl 40 _ rfl ⟨gb,0,none⟩ rfl (.int .u32 x) (fun W hW=>by have hc:=(hW.cell (p:=⟨gb,0,none⟩) hgl).trans q0;go_simp) ?_
          refine wpQuiet_nil ?_
          intro w4 hb4
          have HB4:=lI hb4
          simp only[List.drop_succ_cons,List.drop_zero]
          clear hb4 c0 q0
          go_wp2_with fail
          refine(HM.out w4 HB4.out).mono ?_
          rintro e w5 ⟨⟨vi,rfl,hbl⟩,hb5⟩
          obtain⟨ai,ci,rfl,-⟩:=hbl.open (fun _ _=>rfl) om
          have HB5:=lI (HB4.out.trans (hb5.mono HB4.out.size))
          clear hb5 hbl
          go_wp2_with fail
          refine(HIT.out _ HB5.out).mono ?_
          rintro e w6 ⟨rfl,hb6⟩
          have HB6:=lI (HB5.out.trans (hb6.mono HB5.out.size))
          clear hb6
          go_wp2_with fail
          go_ret
          rw[HS1.out]
          exact⟨rfl,⟨_,_,_,_,_,HP2.out.below HB6.out⟩,(HB2.out.trans (HB6.out.mono HB2.out.size)).mono (Nat.le_of_lt hlt)⟩
        · exact dY
      have HQ:Hid (S=(qS,p)):=lI (by rw[HS0.out];simp[cmdS,k0,k1,k2,k3,k4,k5,k6,k7,k8,k9,k10])
      have e0:¬(bs w0).toList=[119,111,114,100,115]:=Ja k0
      have d0:((bs w0).toList==[119,111,114,100,115])=false:=sH.2 e0
      have e1:¬(bs w0).toList=[104,97,114,116]:=Ja k1
      have d1:((bs w0).toList==[104,97,114,116])=false:=sH.2 e1
      have e2:¬(bs w0).toList=[115,101,116]:=Ja k2
      have d2:((bs w0).toList==[115,101,116])=false:=sH.2 e2
      have e3:¬(bs w0).toList=[112,105,99,107]:=Ja k3
      have d3:((bs w0).toList==[112,105,99,107])=false:=sH.2 e3
      have e4:¬(bs w0).toList=[114,117,110]:=Ja k4
      have d4:((bs w0).toList==[114,117,110])=false:=sH.2 e4
      have e5:¬(bs w0).toList=[102,97,115,116]:=Ja k5
      have d5:((bs w0).toList==[102,97,115,116])=false:=sH.2 e5
      have e6:¬(bs w0).toList=[104,97,114,116,63]:=Ja k6
      have d6:((bs w0).toList==[104,97,114,116,63])=false:=sH.2 e6
      have e7:¬(bs w0).toList=[119,104,97,116]:=Ja k7
      have d7:((bs w0).toList==[119,104,97,116])=false:=sH.2 e7
      have e8:¬(bs w0).toList=[115,104,111,119]:=Ja k8
      have d8:((bs w0).toList==[115,104,111,119])=false:=sH.2 e8
      have e9:¬(bs w0).toList=[98,97,99,107]:=Ja k9
      have d9:((bs w0).toList==[98,97,99,107])=false:=sH.2 e9
      have e10:¬(bs w0).toList=[98,108,111,99,107]:=Ja k10
      have d10:((bs w0).toList==[98,108,111,99,107])=false:=sH.2 e10
      clear HC HS0 k0 k1 k2 k3 k4 k5 k6 k7 k8 k9 k10
      go_wp2_with fail
      go_ret
      rw[HQ.out]
      exact⟨rfl,⟨_,_,_,_,_,HP2.out⟩,HB2.out.mono (Nat.le_of_lt hlt)⟩
end Go.Proofs.YtlfnddmncbkjaabGreatDoor.W
