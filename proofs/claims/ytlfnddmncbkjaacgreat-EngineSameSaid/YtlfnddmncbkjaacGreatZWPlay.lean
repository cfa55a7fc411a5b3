import Derived.Test.YtlfnddmncbkjaacGreatZWNear
import Derived.Test.YtlfnddmncbkjaacGreatZWStep4
set_option linter.unusedVariables false
set_option linter.unusedSimpArgs false
set_option maxRecDepth 100000
set_option maxHeartbeats 4000000
namespace Go.Proofs.YtlfnddmncbkjaacGreat.W
open Go.RowKit Fb
theorem info_u32p:(Tryz.prog.info? 43).map (fun i=>(i.zero,i.size,i.bytes))=some (some (.int .u32 0),1,4):=by kernel_rfl
theorem info_u8p:(Tryz.prog.info? 5).map (fun i=>(i.zero,i.size,i.bytes))=some (some (.int .u8 0),1,1):=by kernel_rfl
theorem info_hartp:(Tryz.prog.info? 46).map (fun i=>(i.zero,i.size,i.bytes))=some (some (.agg (qL JS)),37,160):=by kernel_rfl
theorem u8_one(l:List Int):∀u∈l.map (Value.int .u8),u.oneCell'=true:=by intro u hu;obtain⟨a,_,rfl⟩:=List.mem_map.1 hu;rfl
theorem u32_one(l:List Int):∀u∈l.map (Value.int .u32),u.oneCell'=true:=by intro u hu;obtain⟨a,_,rfl⟩:=List.mem_map.1 hu;rfl
theorem harts_one(l:List Hart):∀u∈l.flatMap qJ,u.oneCell'=true:=by
  intro u hu
  obtain⟨h,_,hu⟩:=List.mem_flatMap.1 hu
  exact ut h u hu
def Fresh5(w:World)(vm vh:Value)(s:St):Prop:=(s.mem≠[]→∀q,vm.ownBlock=some q→w.heap.size≤q)∧∃bh hc,vh=.slice (some ⟨bh,0,none⟩) s.harts.length hc∧w.heap.size≤bh
theorem play_own(vm0 vh0 vs:Value)(m:Mach)(wf:m.Wf)(l:List (Int × Int))(w:World)(hm:jp w vm0 vh0 m)(hs:Picks w vs l)(hq:QQ m l=0):
    Calls Tryz.prog 9 #[.agg #[vm0,vh0],vs] w fun e w'=>(∃vm vh vo,e=.returned (.agg #[vm,vh,vo,.int .i64 (QL l (qo m)).steps])∧JK w' vm vh vo (QL l (qo m))∧Fresh5 w vm vh (QL l (qo m)))∧Below w.heap.size w w':=by
  obtain⟨aom,capm,rfl,hcm,hmm,_,_⟩:=hm.1.open
  obtain⟨aoh,caph,rfl,hch,hmh,_,_⟩:=hm.2.open (fun h hh=>qO (wf.harts h hh)) om
  obtain⟨aos,caps,rfl,hcs,hms,_,hos⟩:=hs.open (fun _ _=>rfl) om
  unfold maxLen at hmm hmh hms
  obtain⟨w0,hw0⟩:∃w0,w0=(((w.alloc (.cells #[.slice aom m.mem.length capm,.slice aoh m.harts.length caph] 25)).alloc (.cells #[.slice none 0 0,.slice none 0 0,.slice none 0 0,.int .i64 0] 32)).alloc (.cells #[.slice none 0 0,.slice none 0 0,.slice none 0 0,.int .i64 0] 32)):=⟨_,rfl⟩
  have hb0:Below w.heap.size w w0:=by rw[hw0];exact Fb.blw
  have hs0:w0.heap.size=w.heap.size+3:=by rw[hw0];simp
  have c0:w0.cell? ⟨w.heap.size,0,none⟩=some (.slice aom m.mem.length capm):=by rw[hw0];go_cell
  have c1:w0.cell? ⟨w.heap.size,1,none⟩=some (.slice aoh m.harts.length caph):=by rw[hw0];go_cell
  have HZ:Hid (w0.heap[w.heap.size+1]? =some (.cells #[.slice none 0 0,.slice none 0 0,.slice none 0 0,.int .i64 0] 32 (0,0))):=lI (by
    rw[hw0]
    refine(sR _ _ zG).trans ?_
    have:=sQ (w.alloc (.cells #[.slice aom m.mem.length capm,.slice aoh m.harts.length caph] 25)) (.cells #[.slice none 0 0,.slice none 0 0,.slice none 0 0,.int .i64 0] 32)
    rwa [World.size_alloc]at this)
  have hP:w0.heap[w.heap.size+1+1]? =some (.cells #[.slice none 0 0,.slice none 0 0,.slice none 0 0,.int .i64 0] 32 (0,0)):=by
    rw[hw0]
    have:=sQ ((w.alloc (.cells #[.slice aom m.mem.length capm,.slice aoh m.harts.length caph] 25)).alloc (.cells #[.slice none 0 0,.slice none 0 0,.slice none 0 0,.int .i64 0] 32)) (.cells #[.slice none 0 0,.slice none 0 0,.slice none 0 0,.int .i64 0] 32)
    rwa [World.size_alloc,World.size_alloc]at this
  have p0:(w0).cell? ⟨w.heap.size+1+1,0,none⟩=some (.slice none 0 0):=by simp[World.cell?,hP]
  have p1:(w0).cell? ⟨w.heap.size+1+1,1,none⟩=some (.slice none 0 0):=by simp[World.cell?,hP]
  have p2:(w0).cell? ⟨w.heap.size+1+1,2,none⟩=some (.slice none 0 0):=by simp[World.cell?,hP]
  have p3:(w0).cell? ⟨w.heap.size+1+1,3,none⟩=some (.int .i64 0):=by simp[World.cell?,hP]
  have hpf:∀o,w0.frozen? ⟨w.heap.size+1+1,o,none⟩=false:=fun o=>by simp[World.frozen?,hP]
  have pf0:=hpf 0
  have pf1:=hpf 1
  have HPF:=lI hpf
  have HM:=lI hm
  have HS:=lI hs
  have HOS:=lI hos
  have hpt:=wrong_parts hq
  have HG:=lI (startM_good wf hq)
  obtain⟨p1',p2',p3',p4',p5',p6'⟩:=hpt
  have HP6:=lI p6'
  obtain⟨sF,hsF⟩:∃s,s=QL l (qo m):=⟨_,rfl⟩
  rw[←hsF]
  have HSF:=lI hsF
  have HW0:=lI hw0
  have HB0:=lI hb0
  obtain⟨iu,hiu,hu0,hu1,hu2⟩:=info_parts info_u8p
  obtain⟨ih,hih,hh0,hh1,hh2⟩:=info_parts info_hartp
  clear hm hs hos hq p4' p6' hsF hw0 hb0 hpf hP
  go_enter Tryz.func9,Tryz.ntmps9
  go_upto_region 2 with(fail)
  rw[←HW0.out]
  go_wp2_with (first|(at_builtin;refine jv rfl _ _ 22 rfl w0.heap.size 5 iu _ 1 1 Tryz.underlying22 hiu hu0 hu1 hu2 rfl zL _ 0 [] rfl (World.ownsRow_nil _ _ _ _) _ m.mem.length (m.mem.map (Value.int .u8)) rfl (HM.out.1.below HB0.out) (u8_one _) ?_ ?_ ?_ ?_))
  rotate_right
  · intro v1 w1 hown1 hgrow1
    have hb1:Below w0.heap.size w0 w1:=(Below.refl _ w0).grown hgrow1 (sO _) (by intro k hk;simp[Value.ownBlock]at hk)
    have hs1:=hb1.size
    obtain⟨a1,cc1,rfl⟩:=qb hown1
    have l0:w.heap.size<w0.heap.size:=om
    have l1:w.heap.size+1+1<w0.heap.size:=om
    have d0:=(hb1.cell (p:=⟨w.heap.size,0,none⟩) l0).trans c0
    have d1:=(hb1.cell (p:=⟨w.heap.size,1,none⟩) l0).trans c1
    have q0:(w1).cell? ⟨w.heap.size+1+1,0,none⟩=some (.slice none 0 0):=(hb1.cell (p:=⟨w.heap.size+1+1,0,none⟩) (l1)).trans p0
    have q1:(w1).cell? ⟨w.heap.size+1+1,1,none⟩=some (.slice none 0 0):=(hb1.cell (p:=⟨w.heap.size+1+1,1,none⟩) (l1)).trans p1
    have q2:(w1).cell? ⟨w.heap.size+1+1,2,none⟩=some (.slice none 0 0):=(hb1.cell (p:=⟨w.heap.size+1+1,2,none⟩) (l1)).trans p2
    have q3:(w1).cell? ⟨w.heap.size+1+1,3,none⟩=some (.int .i64 0):=(hb1.cell (p:=⟨w.heap.size+1+1,3,none⟩) (l1)).trans p3
    have qf0:=(hb1.frozen (p:=⟨w.heap.size+1+1,0,none⟩) l1).trans pf0
    have qf1:=(hb1.frozen (p:=⟨w.heap.size+1+1,1,none⟩) l1).trans pf1
    have HO1:=lI hown1
    have HB1:=lI hb1
    have hB1:=lI (HB0.out.trans (hb1.mono om))
    clear c0 c1 p0 p1 p2 p3 pf0 pf1 hown1 hgrow1 hb1
    obtain⟨w2,hw2⟩:∃w2,w2=w1.setCell ⟨w.heap.size+1+1,0,none⟩ (.slice a1 m.mem.length cc1):=⟨_,rfl⟩
    have hs2:w2.heap.size=w1.heap.size:=by rw[hw2];simp
    have HW2:=lI hw2
    clear hw2
    go_upto_region 3 with(fail)
    rw[←HW2.out]
    have hn:∀j,j≠0→w2.cell? ⟨w.heap.size+1+1,j,none⟩=w1.cell? ⟨w.heap.size+1+1,j,none⟩:=fun j hj=>by rw[HW2.out];exact sJ _ _ _ _ zF
    have hbk:∀j,j≠w.heap.size+1+1→w2.heap[j]? =w1.heap[j]? :=fun j hj=>by rw[HW2.out];exact sY _ _ _ _ (by show j≠_;exact hj)
    have e0:=(qE (hbk w.heap.size om) 0).trans d0
    have e1:=(qE (hbk w.heap.size om) 1).trans d1
    have r0:w2.cell? ⟨w.heap.size+1+1,0,none⟩=some (.slice a1 m.mem.length cc1):=by rw[HW2.out];exact sK _ _ _ q0
    have r1:=(hn 1 om).trans q1
    have r2:=(hn 2 om).trans q2
    have r3:=(hn 3 om).trans q3
    have hfz:∀o,w2.frozen? ⟨w.heap.size+1+1,o,none⟩=false:=fun o=>by rw[HW2.out];exact(sL _ _ _ _).trans ((HB1.out.frozen (p:=⟨w.heap.size+1+1,o,none⟩) l1).trans (HPF.out o))
    have rf1:=hfz 1
    have HO2:Hid (w2.ownsRow (w.heap.size+3) 5 1 (.slice a1 m.mem.length cc1) m.mem.length (m.mem.map (Value.int .u8))):=lI (QF HO1.out (fun g hg=>hbk g (by have:=HO1.out.lt g hg;omega)))
    have HZ2:=lI ((hbk (w.heap.size+1) om).trans ((HB1.out.block (w.heap.size+1) om).trans HZ.out))
    have HB2:Hid (Below w.heap.size w w2):=lI (by rw[HW2.out];exact hB1.out.setCell (p:=⟨w.heap.size+1+1,0,none⟩) (by show w.heap.size≤w.heap.size+1+1;omega) _)
    have HFZ:=lI hfz
    clear d0 d1 q0 q1 q2 q3 qf0 qf1 hn hbk HO1 HB1 hB1 HW2 HZ HPF hfz
    go_wp2_with (first|(at_builtin;refine jv rfl _ _ 23 rfl w2.heap.size 46 ih _ 37 160 Tryz.underlying23 hih hh0 hh1 hh2 kr zL _ 0 [] rfl (World.ownsRow_nil _ _ _ _) _ m.harts.length (m.harts.flatMap qJ) rfl (HM.out.2.below HB2.out) (harts_one _) ?_ ?_ ?_ ?_))
    rotate_right
    · intro v3 w3 hown3 hgrow3
      have hb3:Below w2.heap.size w2 w3:=(Below.refl _ w2).grown hgrow3 (sO _) (by intro k hk;simp[Value.ownBlock]at hk)
      have hs3:=hb3.size
      rcases jy hown3 with⟨_,e,_⟩|⟨bh,hc,rfl,hB,hg,hn,hm,hat,hf⟩
      · omega
      have l0:w.heap.size<w2.heap.size:=om
      have l1:w.heap.size+1+1<w2.heap.size:=om
      have q0:(w3).cell? ⟨w.heap.size+1+1,0,none⟩=some (.slice a1 m.mem.length cc1):=(hb3.cell (p:=⟨w.heap.size+1+1,0,none⟩) (l1)).trans r0
      have q1:(w3).cell? ⟨w.heap.size+1+1,1,none⟩=some (.slice none 0 0):=(hb3.cell (p:=⟨w.heap.size+1+1,1,none⟩) (l1)).trans r1
      have q2:(w3).cell? ⟨w.heap.size+1+1,2,none⟩=some (.slice none 0 0):=(hb3.cell (p:=⟨w.heap.size+1+1,2,none⟩) (l1)).trans r2
      have q3:(w3).cell? ⟨w.heap.size+1+1,3,none⟩=some (.int .i64 0):=(hb3.cell (p:=⟨w.heap.size+1+1,3,none⟩) (l1)).trans r3
      have hfz:∀o,w3.frozen? ⟨w.heap.size+1+1,o,none⟩=false:=fun o=>(hb3.frozen (p:=⟨w.heap.size+1+1,o,none⟩) l1).trans (HFZ.out o)
      have hpb:=PB.begin (bp:=w.heap.size+1+1) (B:=w.heap.size+3) (ty:=43) (m:=m) om om q0 q1 q2 q3 hfz (qy HO2.out hb3) (fun k e=>by have:=HO2.out.lt k e;omega) hat hg hf ⟨hn,hm⟩
      have qf1:=hfz 1
      have HZ3:=lI ((hb3.block (w.heap.size+1) om).trans HZ2.out)
      have HB3:=lI (HB2.out.trans (hb3.mono om))
      obtain⟨w4,hw4⟩:∃w4,w4=w3.setCell ⟨w.heap.size+1+1,1,none⟩ (.slice (some ⟨bh,0,none⟩) m.harts.length hc):=⟨_,rfl⟩
      rw[←hw4]at hpb
      have HPB:=lI hpb
      have HZ4:Hid (w4.heap[w.heap.size+1]? =some (.cells #[.slice none 0 0,.slice none 0 0,.slice none 0 0,.int .i64 0] 32 (0,0))):=lI (by rw[hw4];exact(sY _ _ _ _ (by show w.heap.size+1≠w.heap.size+1+1;omega)).trans HZ3.out)
      have HB4:Hid (Below w.heap.size w w4):=lI (by rw[hw4];exact HB3.out.setCell (p:=⟨w.heap.size+1+1,1,none⟩) (by show w.heap.size≤w.heap.size+1+1;omega) _)
      have hs4:w4.heap.size=w3.heap.size:=wJ
      have k1:w4.cell? ⟨w.heap.size+1+1,1,none⟩=some (.slice (some ⟨bh,0,none⟩) m.harts.length hc):=hpb.c1
      have HW4:=lI hw4
      clear e0 e1 r0 r1 r2 r3 rf1 q0 q2 q3 hfz hpb hw4 hown3 hgrow3 hb3 hat hf HO2 HZ2 HB2 HFZ HZ3 HB3
      go_upto_region 4 with(fail)
      rw[←HW4.out]
      go_wp2_with fail
      go_loopw [7] (fun i wr=>∃n:Nat,i=.int .i64 n∧n≤l.length∧w4.heap.size≤wr.heap.size∧∃vm vo,Hid (PB (w.heap.size+1+1) bh hc vm vo 43 wr (QL (l.take n) (qo m))∧Below w.heap.size w wr∧wr.heap[w.heap.size+1]? =some (.cells #[.slice none 0 0,.slice none 0 0,.slice none 0 0,.int .i64 0] 32 (0,0)))) (fun i _=>l.length-(intOf i).toNat)
      case atStart=>exact⟨0,rfl,om,om,_,_,lI ⟨HPB.out,HB4.out,HZ4.out⟩⟩
      case round=>
        obtain⟨n,rfl,hn,hsz,vm,vo,HR⟩:=hrel
        have HG0:Hid ((QL (l.take n) (qo m)).Good):=lI (playM_good _ HG.out)
        have HL0:Hid ((QL (l.take n) (qo m)).harts.length=m.harts.length):=lI (playM_len _ _)
        have HML0:Hid ((QL (l.take n) (qo m)).mem.length=m.mem.length):=lI (playM_ml _ _)
        have HT0:Hid ((QL (l.take n) (qo m)).steps≤400*n):=lI (by
          have:=playM_steps (l.take n) (qo m) (fun p hp=>(HP6.out p (List.mem_of_mem_take hp)).2.2.2)
          rw[List.length_take,Nat.min_eq_left hn]at this
          have e:(qo m).steps=0:=rfl
          omega)
        by_cases hlt:n<l.length
        · obtain⟨wo,rfl⟩:∃wo:World,wo=wr:=⟨_,rfl⟩
          obtain⟨b,off,rfl,hbl,hel⟩:=HOS.out zR
          have HPK:Hid (∀W,Below w.heap.size w W→W.cell? ⟨b,off+n*2,none⟩=some (.int .i64 l[n].1)∧W.cell? ⟨b,off+n*2+1,none⟩=some (.int .i64 l[n].2)):=lI (fun W hW=>by
            have hat:=(hel n hlt).of_lt hW hbl
            have d0:=hat.get (j:=0) (v:=.int .i64 l[n].1) rfl
            have d1:=hat.get (j:=1) (v:=.int .i64 l[n].2) rfl
            simp only[sN]at d0
            exact⟨d0,d1⟩)
          have HNX:Hid (QL (l.take (n+1)) (qo m)=qv l[n].1.toNat l[n].2.toNat (QL (l.take n) (qo m))):=lI (by
            rw[List.take_succ_eq_append_getElem hlt,UL];rfl)
          obtain⟨q1,q2,q3,q4⟩:=HP6.out _ (sU hlt)
          obtain⟨s0,hs0⟩:∃s,s=QL (l.take n) (qo m):=⟨_,rfl⟩
          obtain⟨sn,hsn⟩:∃s,s=QL (l.take (n+1)) (qo m):=⟨_,rfl⟩
          rw[←hs0]at HR HG0 HL0 HML0 HT0 HNX
          rw[←hsn]at HNX
          have HSN:=lI hsn
          clear hel hs0 hsn
          obtain⟨x,hx⟩:∃x,x=l[n].1:=⟨_,rfl⟩
          obtain⟨y,hy⟩:∃y,y=l[n].2:=⟨_,rfl⟩
          rw[←hx]at HNX q1 q2
          rw[←hy]at HNX q3 q4
          simp only[←hx,←hy]at HPK
          clear hx hy
          obtain⟨k,rfl⟩:=sS q1
          obtain⟨N,rfl⟩:=sS q3
          rw[rA,rA]at HNX
          have hk:k<m.harts.length:=om
          have hN:N≤400:=om
          clear q1 q2 q3 q4
          obtain⟨d0,-⟩:=HPK.out wo HR.out.2.1
          go_wp2_with fail
          clear d0
          go_loopw [9] (fun i wx=>∃j:Nat,i=.int .i64 j∧j≤N∧wo.heap.size≤wx.heap.size∧∃(vm1 vo1:Value) (s1:St),Hid (PB (w.heap.size+1+1) bh hc vm1 vo1 43 wx s1∧s1.Good∧s1.harts.length=m.harts.length∧s1.mem.length=m.mem.length∧s1.steps≤400*n+j∧qv k N s0=qv k (N-j) s1∧Below w.heap.size w wx∧wx.heap[w.heap.size+1]? =some (.cells #[.slice none 0 0,.slice none 0 0,.slice none 0 0,.int .i64 0] 32 (0,0)))) (fun i _=>N-(intOf i).toNat)
          case atStart=>exact⟨0,rfl,om,om,vm,vo,s0,lI ⟨HR.out.1,HG0.out,HL0.out,HML0.out,by have:=HT0.out;omega,rfl,HR.out.2.1,HR.out.2.2⟩⟩
          case round=>
            obtain⟨j,rfl,hj,hsx,vm1,vo1,s1,HI⟩:=hrel
            obtain⟨i1,i2,i3,i4,i5,i6,i7,i8⟩:=HI.out
            obtain⟨-,d1⟩:=HPK.out wr i7
            have hph:=i1.hart i2.wf (k:=k) om
            have g35:=hph.get (JR (i2.wf.hart k))
            have c3:=i1.c3
            have f3:=i1.frz 3
            obtain⟨st,hst⟩:∃x,x=(s1.hart k).state:=⟨_,rfl⟩
            rw[←hst]at g35
            have HST:=lI hst
            have HPH:=lI hph
            clear hst hph
            have i0:(0:Int)≤(k:Int):=om
            have i1':(k:Int)<(m.harts.length:Int):=om
            by_cases hgo:j<N∧st=0
            · obtain⟨hjN,rfl⟩:=hgo
              obtain⟨stp,hstp⟩:∃x,x=s1.steps:=⟨_,rfl⟩
              have hsb:stp≤130000:=om
              rw[←hstp]at c3
              have HSP:=lI hstp
              obtain⟨w6,hw6⟩:∃w6,w6=wr.setCell ⟨w.heap.size+1+1,3,none⟩ (.int .i64 ((stp:Int)+1)):=⟨_,rfl⟩
              have htk:PB (w.heap.size+1+1) bh hc vm1 vo1 43 w6 {s1 with steps:=stp+1}:=by rw[hw6];exact i1.tick (stp+1)
              have hbk6:∀g,g≠w.heap.size+1+1→w6.heap[g]? =wr.heap[g]? :=fun g hg=>by rw[hw6];exact sY _ _ _ _ (by show g≠w.heap.size+1+1;exact hg)
              have hs6:Hid (w6.heap.size=wr.heap.size):=lI (by rw[hw6];simp)
              have HW6:=lI hw6
              clear hw6 hstp i1
              go_upto_region 13 with(fail)
              rw[←HW6.out]
              have htk0:=htk.c0
              have HTK:=lI htk
              obtain⟨dS,hdS⟩:∃d,d=goS (⟨s1.hart k,s1.mem,[],0,0⟩:qD):=⟨_,rfl⟩
              have wfh:=i2.wf.hart k
              have HWD:Hid dS.Wf:=lI (by rw[hdS];exact goS_wf (i2.wf.core k) zG)
              have HRG:Hid (Rng dS):=lI (by rw[hdS];exact goS_rng _ wfh _ om)
              have HST4:=lI (fun W v hv=>step4_any (s1.hart k) wfh v s1.mem W hv i2.wf.mem om)
              simp only[←hdS]at HST4
              have HH6:Hid (At w6 bh (k*37) (qJ (s1.hart k))):=lI (htk.hart (s:={s1 with steps:=stp+1}) ⟨i2.wf.harts,i2.wf.mem,i2.wf.mlen,i2.wf.out⟩ (k:=k) (by show k<s1.harts.length;omega))
              have HML:Hid (dS.m.length=s1.mem.length):=lI (by rw[hdS];exact goS_ml _)
              have hszh:(qJ (s1.hart k)).length=37:=qO wfh
              have HZL:Hid ((Tryz.prog.info? 67).map (fun i=>(i.zero,i.size))=some (some (.agg (qA did0)),41)):=lI kr
              have HDS:=lI hdS
              clear hdS htk g35 c3 f3
              go_cut [10]from 64 to 71 (fun t10 wx=>∃(bd:Nat) (d':DidD),t10=.pointer (some ⟨bd,0,none⟩)∧w6.heap.size≤bd∧Hid (Below w6.heap.size w6 wx∧qd wx d' dS∧(d'.vm=vm1∨∀q,d'.vm.ownBlock=some q→w6.heap.size≤q)∧(∀q,d'.vo.ownBlock=some q→w6.heap.size≤q)∧At wx bd 0 (jE d')))
              case first=>
                refine wp_region_held_drew (S:=fun W=>Below w6.heap.size w6 W∧W.cell? ⟨w.heap.size+1+1,0,none⟩=some vm1) kr ⟨Below.drew br,htk0⟩ (fun hHeld=> ?_)
                refine tak 0 (.slice (some ⟨bh,0,none⟩) m.harts.length hc) ?_
                try simp only[sA,sB,sC,Act.put,sD,sE,sG]
                refine tak 1 (.int .i64 k) ?_
                try simp only[sA,sB,sC,Act.put,sD,sE,sG]
                refine tak 2 (.pointer (some ⟨bh,k*37,none⟩)) ?_
                try simp only[sA,sB,sC,Act.put,sD,sE,sG]
                refine wpAnyH_take (i:=3) (v:=.agg (qJ (s1.hart k)).toArray) rfl kr kr kr (fun _ _ _ h=>h) (yieldsIf_load_mid zP 46 _ rfl bh (k*37) rfl (qJ (s1.hart k)) _ (fun w' hw j v hv=>by have hj:=(List.getElem?_eq_some_iff.1 hv).1;rw[(HH6.out.below hw.1) j hj,←hv,sZ hj]) Tryz.underlying46 rfl (by rw[hszh];kernel_rfl)) (by assumption) ?_
                try simp only[sA,sB,sC,Act.put,sD,sE,sG]
                refine tak 4 (.pointer (some ⟨w.heap.size+1+1,0,none⟩)) ?_
                try simp only[sA,sB,sC,Act.put,sD,sE,sG]
                refine tak 5 (.pointer (some ⟨w.heap.size+1+1,0,none⟩)) ?_
                try simp only[sA,sB,sC,Act.put,sD,sE,sG]
                refine tak 6 (vm1) ?_
                try simp only[sA,sB,sC,Act.put,sD,sE,sG]
                refine wpAnyH_ready (rs:=[7,8]) kr zG ?_
                refine sX rfl (fun K hK=> ?_) (sX rfl (fun K hK=> ?_) AllReadyH.nil)
                · go_simp
                  refine(HST4.out _ _ (HTK.out.bytes.below (Below.drew br))).mono ?_
                  rintro e w7 ⟨d',rfl,hD,hdm,hdo,hb7⟩
                  have hB7:Below w6.heap.size w6 w7:=(Below.drew br).trans hb7
                  have hok:=hD.ok HWD.out
                  refine hK.out _ _ ⟨hB7,(hB7.cell (qH htk0)).trans htk0⟩ (fun hHeld2=> ?_)
                  clear hK K
                  refine wpAnyH_ready (rs:=[8]) kr zG ?_
                  refine sX rfl (fun K hK=> ?_) AllReadyH.nil
                  go_simp
                  have hs7:=hB7.size
                  refine hK.out _ _ ⟨hB7.alloc hs7 _,((hB7.alloc hs7 _).cell (qH htk0)).trans htk0⟩ (fun hHeld3=> ?_)
                  clear hK K
                  have hth:(w7.alloc (.cells (qA did0) 67)).there w7.heap.size 0 41:=Qd (sQ _ _) rfl
                  have hB8:Below w6.heap.size w6 (w7.alloc (.cells (qA did0) 67)):=hB7.alloc hs7 _
                  have hD8:qd (w7.alloc (.cells (qA did0) 67)) d' dS:=hD.below (Below.alloc br (sO _) _)
                  have hnm:dS.m≠[]→∀g,d'.vm.ownBlock=some g→g<w7.heap.size:=fun hne g hg=>ints_lt hD.m hne hg
                  have hno:dS.out≠[]→∀g,d'.vo.ownBlock=some g→g<w7.heap.size:=fun hne g hg=>ints_lt hD.o hne hg
                  have hm9:d'.vm=vm1∨∀q,d'.vm.ownBlock=some q→w6.heap.size≤q:=hdm
                  have ho9:∀q,d'.vo.ownBlock=some q→w6.heap.size≤q:=hdo
                  refine wpAnyH_ready (rs:=[9]) kr zG ?_
                  refine sX rfl (fun K hK=> ?_) AllReadyH.nil
                  rw[if_pos zP]
                  refine wp_store_mid 67 _ _ rfl w7.heap.size 0 (qA d') rfl rfl (by rw[qT hok];exact hth) (by rw[qT hok];kernel_rfl) (qX hok) ?_
                  simp only[Act.put,sD,sE,sG]
                  have hfin:=hD8.lay hok (bd:=w7.heap.size) (fun hne g hg=>by have:=hnm hne g hg;omega) (fun hne g hg=>by have:=hno hne g hg;omega) hth
                  have hB9:=qB (b:=w7.heap.size) om (qA d').toList 0 _ hB8
                  refine hK.out _ _ ⟨hB9,(hB9.cell (qH htk0)).trans htk0⟩ (fun hHeld4=> ?_)
                  clear hK K
                  refine wpAnyH_done kr ?_ _
                  go_wp2_with fail
                  go_meet
                  case rel=>exact⟨w7.heap.size,d',rfl,om,lI ⟨hB9,hfin.1,hm9,ho9,hfin.2⟩⟩
                · go_simp
                  refine hK.out _ _ ⟨(Below.drew br).alloc (sO _) _,(((Below.drew br).alloc (sO _) _).cell (qH htk0)).trans htk0⟩ (fun hHeld2=> ?_)
                  clear hK K
                  refine wpAnyH_ready (rs:=[7]) kr zG ?_
                  refine sX rfl (fun K hK=> ?_) AllReadyH.nil
                  go_simp
                  refine(HST4.out _ _ (HTK.out.bytes.below ((Below.drew br).alloc (sO _) _))).mono ?_
                  rintro e w7 ⟨d',rfl,hD,hdm,hdo,hb7⟩
                  have hB8:Below w6.heap.size w6 w7:=((Below.drew br).alloc (sO _) _).trans (hb7.mono (by show _≤(World.alloc _ _).heap.size;simp))
                  have hok:=hD.ok HWD.out
                  have hD8:=hD
                  have hth:w7.there w6.heap.size 0 41:=Qd ((hb7.block w6.heap.size (by show _<(World.alloc _ _).heap.size;simp)).trans (sQ w6.drew (.cells (qA did0) 67))) rfl
                  have hsa:w6.heap.size+1≤w7.heap.size:=by have:=hb7.size;simpa using this
                  have hm9:d'.vm=vm1∨∀q,d'.vm.ownBlock=some q→w6.heap.size≤q:=hdm.imp id (fun h q e=>by have:=h q e;simp at this;omega)
                  have ho9:∀q,d'.vo.ownBlock=some q→w6.heap.size≤q:=fun q e=>by have:=hdo q e;simp at this;omega
                  have hnm:dS.m≠[]→∀g,d'.vm.ownBlock=some g→g≠w6.heap.size:=fun hne g hg=>by
                    rcases hdm with e|e
                    · rw[e]at hg
                      have:=ints_lt HTK.out.bytes (by intro e2;exact hne (List.eq_nil_of_length_eq_zero (by rw[HML.out,show s1.mem=[]from e2];rfl))) hg
                      omega
                    · have:=e g hg;simp at this;omega
                  have hno:dS.out≠[]→∀g,d'.vo.ownBlock=some g→g≠w6.heap.size:=fun hne g hg=>by have:=hdo g hg;simp at this;omega
                  refine hK.out _ _ ⟨hB8,(hB8.cell (qH htk0)).trans htk0⟩ (fun hHeld3=> ?_)
                  clear hK K
                  refine wpAnyH_ready (rs:=[9]) kr zG ?_
                  refine sX rfl (fun K hK=> ?_) AllReadyH.nil
                  rw[if_pos zP]
                  refine wp_store_mid 67 _ _ rfl w6.heap.size 0 (qA d') rfl rfl (by rw[qT hok];exact hth) (by rw[qT hok];kernel_rfl) (qX hok) ?_
                  simp only[Act.put,sD,sE,sG]
                  have hfin:=hD8.lay hok (bd:=w6.heap.size) (fun hne g hg=>by have:=hnm hne g hg;omega) (fun hne g hg=>by have:=hno hne g hg;omega) hth
                  have hB9:=qB (b:=w6.heap.size) om (qA d').toList 0 _ hB8
                  refine hK.out _ _ ⟨hB9,(hB9.cell (qH htk0)).trans htk0⟩ (fun hHeld4=> ?_)
                  clear hK K
                  refine wpAnyH_done kr ?_ _
                  go_wp2_with fail
                  go_meet
                  case rel=>exact⟨w6.heap.size,d',rfl,om,lI ⟨hB9,hfin.1,hm9,ho9,hfin.2⟩⟩
              case rest=>
                obtain⟨bd,d',rfl,hbd,HC⟩:=hcut
                have hok:=HC.out.2.1.ok HWD.out
                have hdh:=HC.out.2.1.h
                have wfd:=HWD.out.h
                have hbh6:bh<w6.heap.size:=HTK.out.hlt
                have HPC:=lI (HTK.out.below HC.out.1)
                have hbx:=HC.out.2.2.2.2
                have HBX:=lI hbx
                have hat0:At wc bd 0 (qJ dS.h):=by rw[←hdh];exact(show At wc bd 0 (qJ d'.h++dtail d')from hbx).append_left
                have hszd:(qL dS.h).size=37:=jt wfd
                have hszi:(Tryz.prog.info? 46).map (·.size)=some (qL dS.h).size:=by rw[hszd];kernel_rfl
                have hone:(qL dS.h).all (·.oneCell')=true:=Array.all_eq_true_iff_forall_mem.2 (fun v hv=>ut dS.h v (by simpa using hv))
                have hwf1:({s1 with steps:=stp+1}:St).Wf:=⟨i2.wf.harts,i2.wf.mem,i2.wf.mlen,i2.wf.out⟩
                have hpd:=HPC.out.did (k:=k) (S:=w6.heap.size) hwf1 wfd (by rw[HML.out]) (by show k<s1.harts.length;omega) HC.out.2.1 hbh6 (fun g hg=>(HTK.out.own.lt g hg).2) HC.out.2.2.1 HC.out.2.2.2.1
                have hth:wc.there bh (k*37) (qL dS.h).size:=by rw[hszd];exact there_at (HPC.out.hart hwf1 (k:=k) (by show k<s1.harts.length;omega)) (qO (hwf1.hart k)) HPC.out.hfz
                rw[hdh]at hpd
                obtain⟨av,cv,evm,-⟩:=HC.out.2.1.m.open
                rw[evm]at hpd
                obtain⟨hp1,hp2,hp3,hp4,-⟩:=hpd
                have HDH:=lI hdh
                have hdt:=hok.len
                clear hbx hdh
                go_upto_region 15 with(first|(refine qI rfl 46 _ rfl bd 0 rfl (qL dS.h) _ hat0 Tryz.underlying46 rfl hszi ?_)|(refine sT rfl 46 _ _ rfl bh (k*37) (qL dS.h) rfl rfl hth hszi hone ?_))
                have hbB:bd<wc.heap.size:=qH (HBX.out.get (jQ hdt 0))
                have hat9:At (wc.setCells bh (k*37) (qL dS.h).toList) bd 0 (jE d'):=uT om _ _ _ HBX.out
                have t0:(wc.setCells bh (k*37) (qL dS.h).toList).cell? ⟨bd,37,none⟩=some (.slice av dS.m.length cv):=by rw[←evm];simpa using hat9.get (jQ hdt 0)
                have t1:(wc.setCells bh (k*37) (qL dS.h).toList).cell? ⟨bd,38,none⟩=some d'.vo:=by simpa using hat9.get (jQ hdt 1)
                have t2:(wc.setCells bh (k*37) (qL dS.h).toList).cell? ⟨bd,39,none⟩=some (.int .u32 dS.fr):=by rw[←HC.out.2.1.fr];simpa using hat9.get (jQ hdt 2)
                have t3:(wc.setCells bh (k*37) (qL dS.h).toList).cell? ⟨bd,40,none⟩=some (.int .i64 (dS.tw-dS.fr)):=by rw[←HC.out.2.1.many];simpa using hat9.get (jQ hdt 3)
                have hbne:=HPC.out.b1
                have b0:=(qE (QJ (b:=bh) (j:=w.heap.size+1+1) om (qL dS.h).toList (k*37) wc) 0).trans HPC.out.c0
                have bf0:=(qW (QJ (b:=bh) (j:=w.heap.size+1+1) om (qL dS.h).toList (k*37) wc) 0).trans (HPC.out.frz 0)
                have HP1:=lI hp1
                have HP2:=lI hp2
                have HP3:=lI hp3
                have HP4:=lI hp4
                clear evm hp1 hp2 hp3 hp4 hth hone hat0 hat9
                have hol:s1.out.length≤130000:=by have:=i2.ol;omega
                have hod:dS.out.length≤1:=by
                  have:=(goS_fin (s1.hart k) s1.mem (i2.hart k) HST.out.symm).ol
                  rw[←HDS.out]at this
                  simpa using this
                go_upto_region 16 with(fail)
                rw[show(qL dS.h).toList=qJ dS.h from rfl]
                obtain⟨w9,hw9⟩:∃w9,w9=(wc.setCells bh (k*37) (qJ dS.h)).setCell ⟨w.heap.size+1+1,0,none⟩ (.slice av dS.m.length cv):=⟨_,rfl⟩
                rw[←hw9]at HP1 HP2 HP3 HP4
                rw[←hw9]
                have hs9:wc.heap.size≤w9.heap.size:=by rw[hw9];simp[Qa]
                have u1:=(qE (show w9.heap[bd]? =(wc.setCells bh (k*37) (qJ dS.h)).heap[bd]? by rw[hw9];exact sY _ _ _ _ (by show bd≠w.heap.size+1+1;omega)) 38).trans t1
                have u2:=(qE (show w9.heap[bd]? =(wc.setCells bh (k*37) (qJ dS.h)).heap[bd]? by rw[hw9];exact sY _ _ _ _ (by show bd≠w.heap.size+1+1;omega)) 39).trans t2
                have u3:=(qE (show w9.heap[bd]? =(wc.setCells bh (k*37) (qJ dS.h)).heap[bd]? by rw[hw9];exact sY _ _ _ _ (by show bd≠w.heap.size+1+1;omega)) 40).trans t3
                have b2:=HP1.out.c2
                have bf2:=HP1.out.frz 2
                clear hw9 t0 t1 t2 t3 b0 bf0
                obtain⟨i0',hi',hi0,hi1,hi2⟩:=info_parts info_u32p
                have hw9l:bh+1≤w9.heap.size:=HP1.out.hlt
                go_wp2_with (first|(at_builtin;refine append_at rfl _ _ 30 rfl (bh+1) 43 i0' _ 1 4 Tryz.underlying30 hi' hi0 hi1 hi2 rfl zL vo1 s1.out.length (s1.out.map (Value.int .u32)) rfl HP1.out.own _ dS.out.length (dS.out.map (Value.int .u32)) rfl HP2.out (u32_one _) ?_ ?_ ?_ ?_))
                rotate_right
                · intro v5 w5 hown5 hgrow5 hat5
                  obtain⟨hpo,hpo2,hpo3⟩:=HP1.out.out hown5 hgrow5 hat5
                  obtain⟨a5,c5,rfl⟩:=qb hown5
                  have hob:∀g,vo1.ownBlock=some g→g<w6.heap.size:=fun g hg=>(HTK.out.own.lt g hg).2
                  have hob2:∀g,vo1.ownBlock=some g→bh+1≤g:=fun g hg=>(HTK.out.own.lt g hg).1
                  have eb:=hgrow5.block (w.heap.size+1+1) om (fun e=>by have:=hob2 _ e.symm;omega)
                  have g2:=(qE eb 2).trans b2
                  have gf2:=(qW eb 2).trans bf2
                  obtain⟨w10,hw10⟩:∃w10,w10=w5.setCell ⟨w.heap.size+1+1,2,none⟩ (.slice a5 (s1.out.length+dS.out.length) c5):=⟨_,rfl⟩
                  rw[←hw10]at hpo hpo2 hpo3
                  have x2:=(qE (hpo3 bd om om (fun e=>by have:=hob _ e;omega)) 39).trans u2
                  have x3:=(qE (hpo3 bd om om (fun e=>by have:=hob _ e;omega)) 40).trans u3
                  have hs10:w9.heap.size≤w10.heap.size:=hpo2.size
                  have HB10:Hid (Below w.heap.size w w10):=lI (by
                    have e6:Below w.heap.size w w6:=by rw[HW6.out];exact i7.setCell (p:=⟨w.heap.size+1+1,3,none⟩) (by show w.heap.size≤w.heap.size+1+1;omega) _
                    have e7:=e6.trans (HC.out.1.mono (by have:=e6.size;omega))
                    exact(e7.trans (HP3.out.mono om)).trans (hpo2.mono om))
                  have HZ10:Hid (w10.heap[w.heap.size+1]? =some (.cells #[.slice none 0 0,.slice none 0 0,.slice none 0 0,.int .i64 0] 32 (0,0))):=lI (by
                    have e6:w6.heap[w.heap.size+1]? =_:=(hbk6 (w.heap.size+1) om).trans i8
                    have l6:w.heap.size+1<w6.heap.size:=(Array.getElem?_eq_some_iff.1 e6).1
                    have e7:=(HC.out.1.block (w.heap.size+1) l6).trans e6
                    have l7:w.heap.size+1<wc.heap.size:=(Array.getElem?_eq_some_iff.1 e7).1
                    have e9:=(HP4.out (w.heap.size+1) om om).trans e7
                    exact(hpo3 (w.heap.size+1) om om (fun e=>by have:=hob2 _ e;omega)).trans e9)
                  have HPO:=lI hpo
                  have HW10:=lI hw10
                  have hlh:(s1.harts.set k dS.h).length=m.harts.length:=by rw[List.length_set];exact i3
                  have HHS:Hid (∀x∈s1.harts.set k dS.h,x.Wf):=lI (fun x hx=>by
                    rcases List.mem_or_eq_of_mem_set hx with h|h
                    · exact i2.wf.harts x h
                    · rw[h];exact HWD.out.h)
                  have hrng:U32 dS.fr∧0≤dS.tw-dS.fr∧dS.tw-dS.fr≤4096:=by
                    have hl1:=i4
                    rcases HRG.out with⟨e1,e2⟩|⟨e1,e2,e3⟩
                    · rw[e1,e2];exact⟨⟨by decide,by decide⟩,by decide,by decide⟩
                    · rw[HML.out]at e3;exact⟨⟨e1,om⟩,om,om⟩
                  obtain⟨hu1,hm0,hm1⟩:=hrng
                  have HLB:Hid (∀x:Hart,x.Wf→lose dS.fr dS.tw x=if(x.held&&nearB x.heldAt dS.fr (dS.tw-dS.fr))=true then {x with held:=false,heldAt:=0} else x):=lI (fun x wx=>nearB_lose HRG.out (by rw[HML.out];omega) x wx)
                  have HNR:=lI (fun x (wx:Hart.Wf x) W=>near_any x.heldAt dS.fr (dS.tw-dS.fr) wx.heldAt hu1 ⟨hm0,hm1⟩ W)
                  obtain⟨hs2,hh2⟩:∃h,h=s1.harts.set k dS.h:=⟨_,rfl⟩
                  rw[←hh2]at hlh HHS HPO
                  have HH2:=lI hh2
                  clear hw10 hpo hpo2 hpo3 hown5 hgrow5 hat5 u1 u2 u3 b2 bf2 hob hob2 eb hh2
                  go_upto_region 17 with(fail)
                  rw[←HW10.out]
                  clear g2 gf2
                  go_wp2_with fail
                  go_loopw [11] (fun i wy=>∃q:Nat,i=.int .i64 q∧q≤m.harts.length∧w10.heap.size≤wy.heap.size∧Hid (PB (w.heap.size+1+1) bh hc (.slice av dS.m.length cv) (.slice a5 (s1.out.length+dS.out.length) c5) 43 wy ⟨qp k dS.fr dS.tw q hs2,dS.m,s1.out++dS.out,stp+1⟩∧Below w.heap.size w wy∧wy.heap[w.heap.size+1]? =some (.cells #[.slice none 0 0,.slice none 0 0,.slice none 0 0,.int .i64 0] 32 (0,0))∧wy.cell? ⟨bd,39,none⟩=some (.int .u32 dS.fr)∧wy.cell? ⟨bd,40,none⟩=some (.int .i64 (dS.tw-dS.fr)))) (fun i _=>m.harts.length-(intOf i).toNat)
                  case atStart=>exact⟨0,rfl,om,om,lI ⟨by rw[loseTo_zero];exact HPO.out,HB10.out,HZ10.out,x2,x3⟩⟩
                  case round=>
                    obtain⟨q,rfl,hq,hsy,HY⟩:=hrel
                    obtain⟨y1,y2,y3,y4,y5⟩:=HY.out
                    by_cases hlt2:q<m.harts.length
                    · have hll:(qp k dS.fr dS.tw q hs2).length=m.harts.length:=by rw[QO];exact hlh
                      have hel:=UT y1.harts (fun x hx=>qO (JL (P:=Hart.Wf) HHS.out (fun _=>uP) x hx)) (by rw[hll];exact hlt2)
                      rw[loseTo_at _ _ _ om]at hel
                      have whn:=HHS.out hs2[q] (sU om)
                      have g33:=hel.get (Jk whn)
                      have g34:=hel.get (JX whn)
                      have f33:=y1.hfz (q*37+33)
                      have f34:=y1.hfz (q*37+34)
                      have j0:(0:Int)≤(q:Int):=om
                      have j1:(q:Int)<(m.harts.length:Int):=om
                      have HNX:Hid (∀x,x=lose dS.fr dS.tw hs2[q]→q≠k→qp k dS.fr dS.tw (q+1) hs2=(qp k dS.fr dS.tw q hs2).set q x):=lI (fun x e hk=>by rw[e];exact loseTo_succ _ _ hs2 om hk)
                      have HSE:Hid (q=k→qp k dS.fr dS.tw (q+1) hs2=qp k dS.fr dS.tw q hs2):=lI (fun e=>by subst e;exact loseTo_self q _ _ hs2)
                      have HKP:Hid (lose dS.fr dS.tw hs2[q]=hs2[q]→qp k dS.fr dS.tw (q+1) hs2=qp k dS.fr dS.tw q hs2):=lI (fun e=>loseTo_keep _ _ hs2 om e)
                      have HLO:=lI (HLB.out _ whn)
                      have HNE:=lI (HNR.out _ whn)
                      have HEL:=lI hel
                      have HWN:=lI whn
                      have HLL:=lI hll
                      have hyb:bd<wr.heap.size:=qH y4
                      have hyp:w.heap.size+1<wr.heap.size:=(Array.getElem?_eq_some_iff.1 y3).1
                      have hyh:=y1.hlt
                      have hyb1:=y1.b1
                      have HY1:=lI y1
                      clear hel whn y1
                      obtain⟨x,hx⟩:∃x,x=hs2[q]:=⟨_,rfl⟩
                      rw[←hx]at g33 g34 HNX HKP HLO HNE HEL HWN
                      clear hx
                      have HKEEP:Hid (qp k dS.fr dS.tw (q+1) hs2=qp k dS.fr dS.tw q hs2→∀nq:Nat,∃q':Nat,((q:Int)+1)=(q':Int)∧q'≤m.harts.length∧w10.heap.size≤(wr.drewN nq).heap.size∧Hid (PB (w.heap.size+1+1) bh hc (.slice av dS.m.length cv) (.slice a5 (s1.out.length+dS.out.length) c5) 43 (wr.drewN nq) ⟨qp k dS.fr dS.tw q' hs2,dS.m,s1.out++dS.out,stp+1⟩∧Below w.heap.size w (wr.drewN nq)∧(wr.drewN nq).heap[w.heap.size+1]? =some (.cells #[.slice none 0 0,.slice none 0 0,.slice none 0 0,.int .i64 0] 32 (0,0))∧(wr.drewN nq).cell? ⟨bd,39,none⟩=some (.int .u32 dS.fr)∧(wr.drewN nq).cell? ⟨bd,40,none⟩=some (.int .i64 (dS.tw-dS.fr)))):=lI (fun e nq=>
                        ⟨q+1,by simp,om,hsy,lI ⟨by rw[e];exact HY1.out.below (qC br _),qC y2 _,y3,y4,y5⟩⟩)
                      by_cases hnk:(q:Int)=k
                      · obtain rfl:q=k:=om
                        go_wp2_with fail
                        go_quiet (fail)
                        go_wp2_with fail
                        refine⟨?_,by simp[intOf];omega⟩
                        obtain⟨q',e1,e2⟩:=HKEEP.out (HSE.out (by first|rfl|simp)) nq
                        exact⟨q',by rw[e1],e2⟩
                      have hbne:((q:Int) !=(k:Int))=true:=by simpa using hnk
                      cases hheld:x.held with
                      | false =>
                        rw[hheld]at g33
                        go_wp2_with fail
                        go_quiet (fail)
                        go_wp2_with fail
                        refine⟨?_,by simp[intOf];omega⟩
                        obtain⟨q',e1,e2⟩:=HKEEP.out (HKP.out (by rw[HLO.out,hheld];rfl)) nq
                        exact⟨q',by rw[e1],e2⟩
                      | true =>
                        rw[hheld]at g33
                        cases hnb:nearB x.heldAt dS.fr (dS.tw-dS.fr)with
                        | false =>
                          rw[hnb]at HNE
                          go_wp2_with fail
                          go_quiet ((go_at_call 19;exact Calls.quiet_of_same (HNE.out _)))
                          go_wp2_with fail
                          refine⟨?_,by simp[intOf];omega⟩
                          obtain⟨q',e1,e2⟩:=HKEEP.out (HKP.out (by rw[HLO.out,hheld,hnb];rfl)) nq
                          exact⟨q',by rw[e1],e2⟩
                        | true =>
                          rw[hnb]at HNE
                          go_wp2_with fail
                          go_quiet ((go_at_call 19;exact Calls.quiet_of_same (HNE.out _)))
                          go_wp2_with fail
                          refine⟨?_,by simp[intOf];omega⟩
                          have wx:=HWN.out
                          have hxl:(qJ x).length=37:=qO wx
                          have hdr:Below wr.heap.size wr (wr.drewN nq):=qC br _
                          have a1:=(HEL.out.below hdr).set 33 om (.bool false)
                          rw[←Ql wx.len false]at a1
                          have wx2:({x with held:=false}:Hart).Wf:=⟨wx.len,wx.regs,wx.pc,wx.heldAt,wx.state,wx.cause⟩
                          have a2:=a1.set 34 (by rw[qO wx2];omega) (.int .u32 0)
                          rw[←QU (h:=({x with held:=false}:Hart)) wx.len 0]at a2
                          have wx3:({x with held:=false,heldAt:=0}:Hart).Wf:=⟨wx.len,wx.regs,wx.pc,(⟨by decide,by decide⟩:U32 0),wx.state,wx.cause⟩
                          have hchg:Chg (fun p=>p.block=bh) wr (((wr.drewN nq).setCell ⟨bh,q*37+33,none⟩ (.bool false)).setCell ⟨bh,q*37+34,none⟩ (.int .u32 0)):=(((Chg.refl (fun p=>p.block=bh) wr).drewN nq).setCell ⟨bh,q*37+33,none⟩ (.bool false) (fun _=>rfl)).setCell ⟨bh,q*37+34,none⟩ (.int .u32 0) (fun _=>rfl)
                          have hat':=Jd (w:=wr) HY1.out.harts (fun x hx=>qO (JL (P:=Hart.Wf) HHS.out (fun _=>uP) x hx)) (qO wx3) a2 (fun o ho=>by
                            rw[sJ _ _ _ _ zF,sJ _ _ _ _ zF]
                            rfl)
                          have hlost:=HY1.out.lost (hs:=(qp k dS.fr dS.tw q hs2).set q {x with held:=false,heldAt:=0}) (by rw[List.length_set]) hat' hchg
                          refine⟨q+1,by simp,om,Nat.le_trans hsy hchg.size,lI ⟨?_,y2.trans (hchg.below (B:=w.heap.size) om (fun p hp e=>om)), ?_, ?_, ?_⟩⟩
                          · rw[HNX.out {x with held:=false,heldAt:=0} (by rw[HLO.out,hheld,hnb];rfl) om]
                            exact hlost
                          · exact(hchg.block (w.heap.size+1) om (fun o e=>by have e2:w.heap.size+1=bh:=e;omega)).trans y3
                          · exact(hchg.cell ⟨bd,39,none⟩ hyb (fun e=>by have e2:bd=bh:=e;omega)).trans y4
                          · exact(hchg.cell ⟨bd,40,none⟩ hyb (fun e=>by have e2:bd=bh:=e;omega)).trans y5
                    · obtain rfl:q=m.harts.length:=om
                      go_wp2_with fail
                      refine⟨?_,by simp[intOf];omega⟩
                      have HGM:goM k s1=⟨qp k dS.fr dS.tw m.harts.length hs2,dS.m,s1.out++dS.out,stp+1⟩:=by
                        unfold goM
                        rw[←HDS.out]
                        dsimp only
                        rw[←HH2.out,i3,←HSP.out]
                      refine⟨j+1,by simp,om,by have:=hs6.out;have:=HC.out.1.size;omega,_,_,goM k s1,lI ⟨by rw[HGM];exact y1,goM_good i2 HST.out.symm,by rw[goM_len];exact i3,by rw[goM_ml];exact i4, ?_, ?_,y2,y3⟩⟩
                      · rw[HGM]
                        show stp+1≤_
                        have:=HSP.out
                        omega
                      · rw[i6,show N-j=(N-(j+1))+1 by omega]
                        conv=>lhs;unfold qv
                        rw[if_pos HST.out.symm]
                all_goals first
                  |(unfold maxLen;omega)
                  |omega
            · have hfin:qv k N s0=s1:=by
                by_cases e:j<N
                · have hst:¬(s1.hart k).state=0:=fun e2=>hgo ⟨e,by rw[HST.out];exact e2⟩
                  rw[i6,Ji hst]
                · obtain rfl:j=N:=om
                  rw[i6,Nat.sub_self];rfl
              have hs1:QL (l.take (n+1)) (qo m)=s1:=by rw[←HSN.out,HNX.out,hfin]
              have hex:j=N∨(j<N∧¬st=0):=by
                by_cases e:j<N
                · exact .inr ⟨e,fun e2=>hgo ⟨e,e2⟩⟩
                · exact .inl om
              have HEND:Hid (∃n':Nat,((n:Int)+1)=(n':Int)∧n'≤l.length∧w4.heap.size≤wr.heap.size∧∃vm vo,Hid (PB (w.heap.size+1+1) bh hc vm vo 43 wr (QL (l.take n') (qo m))∧Below w.heap.size w wr∧wr.heap[w.heap.size+1]? =some (.cells #[.slice none 0 0,.slice none 0 0,.slice none 0 0,.int .i64 0] 32 (0,0)))):=lI ⟨n+1,by simp,hlt,om,vm1,vo1,lI ⟨by rw[hs1];exact i1,i7,i8⟩⟩
              clear hs1 hfin HI HNX HSN hgo i1 i2 i3 i4 i5 i6 i7 i8
              rcases hex with rfl|⟨hjN,hst0⟩
              all_goals
                go_wp2_with fail
                refine⟨?_,by simp[intOf];omega⟩
                obtain⟨n',e1,e2⟩:=HEND.out
                exact⟨n',by rw[e1],e2⟩
        · obtain rfl:n=l.length:=om
          rw[List.take_length]at HR HG0
          rw[←HSF.out]at HR HG0
          clear HSF HG HPB HT0 HL0 HML0
          have c0:=HR.out.1.c0
          have c1:=HR.out.1.c1
          have c2:=HR.out.1.c2
          have c3:=HR.out.1.c3
          have hZ:=HR.out.2.2
          have ht:wr.there (w.heap.size+1) 0 4:=Qd hZ rfl
          obtain⟨ax,cx,rfl⟩:∃ao c,vm=.slice ao sF.mem.length c:=by obtain⟨ao,c,e,_⟩:=HR.out.1.bytes.open;exact⟨ao,c,e⟩
          obtain⟨ay,cy,rfl⟩:=qb HR.out.1.own
          have hsz5:(Tryz.prog.info? 32).map (·.size)=some (#[.slice ax sF.mem.length cx,.slice (some ⟨bh,0,none⟩) sF.harts.length hc,.slice ay sF.out.length cy,.int .i64 sF.steps]:Array Value).size:=xB
          have hall:(#[.slice ax sF.mem.length cx,.slice (some ⟨bh,0,none⟩) sF.harts.length hc,.slice ay sF.out.length cy,.int .i64 sF.steps]:Array Value).all (·.oneCell')=true:=yX
          have ht5:∀W:World,W.there (w.heap.size+1) 0 4→W.there (w.heap.size+1) 0 (#[.slice ax sF.mem.length cx,.slice (some ⟨bh,0,none⟩) sF.harts.length hc,.slice ay sF.out.length cy,.int .i64 sF.steps]:Array Value).size:=fun _ h=>h
          have hld:=qQ (P:=Tryz.prog) (cs:=#[.slice ax sF.mem.length cx,.slice (some ⟨bh,0,none⟩) sF.harts.length hc,.slice ay sF.out.length cy,.int .i64 sF.steps]) ht Tryz.underlying32 rfl hsz5
          clear hZ
          go_wp2_with (first|(refine sT rfl 32 _ _ rfl (w.heap.size+1) 0 #[.slice ax sF.mem.length cx,.slice (some ⟨bh,0,none⟩) sF.harts.length hc,.slice ay sF.out.length cy,.int .i64 sF.steps] rfl rfl (ht5 _ ht) hsz5 hall ?_))
          have hb1:=HR.out.1.b1
          have hfr5:Fresh5 w (.slice ax sF.mem.length cx) (.slice (some ⟨bh,0,none⟩) sF.harts.length hc) sF:=by
            refine⟨fun hne q e=> ?_,_,_,rfl,om⟩
            have:=(HR.out.1.mlt hne q e).1
            omega
          refine sP (qk zP _ zP hld) rfl ⟨⟨_,_,_,rfl, ?_,hfr5⟩,qB om _ _ _ HR.out.2.1⟩
          exact(HR.out.1.far om _ _).shown HG0.out.wf.harts
    all_goals first
      |(unfold maxLen;omega)
      |omega
  all_goals first
    |(unfold maxLen;omega)
    |omega
theorem play_any(vm0 vh0 vs:Value)(m:Mach)(wf:m.Wf)(l:List (Int × Int))(w:World)(hm:jp w vm0 vh0 m)(hs:Picks w vs l)(hq:QQ m l=0):
    Calls Tryz.prog 9 #[.agg #[vm0,vh0],vs] w fun e w'=>(∃vm vh vo,e=.returned (.agg #[vm,vh,vo,.int .i64 (QL l (qo m)).steps])∧JK w' vm vh vo (QL l (qo m)))∧Below w.heap.size w w':=
  by
  refine(play_own vm0 vh0 vs m wf l w hm hs hq).mono ?_
  rintro e w' ⟨⟨vm,vh,vo,h1,h2,-⟩,h3⟩
  exact⟨⟨vm,vh,vo,h1,h2⟩,h3⟩
end Go.Proofs.YtlfnddmncbkjaacGreat.W
