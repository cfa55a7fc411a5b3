import Derived.Test.YtlfnddmncbkjaacGreatZMA
set_option linter.unusedVariables false
set_option linter.unusedSimpArgs false
set_option maxRecDepth 100000
set_option maxHeartbeats 4000000
namespace Go.Proofs.YtlfnddmncbkjaacGreat.W
open Go.RowKit Fb
theorem bytes4_any(v v':Value)(l l':List Int)(w:World)(hv:Ints .u8 w v l)(hv':Ints .u8 w v' l')(hb:QP l)(hb':QP l'):
    Calls Tryz.prog 15 #[v,v'] w fun e w'=>e=.returned (.bool (decide (l=l')))∧w=w':=by
  have h1:=conv_any (P:=Tryz.prog) w v l 22 5 9 Tryz.underlying22 Tryz.underlying5 Tryz.underlying9 hv
  have h2:=conv_any (P:=Tryz.prog) w v' l' 22 5 9 Tryz.underlying22 Tryz.underlying5 Tryz.underlying9 hv'
  clear hv hv'
  go_enter Tryz.func15,Tryz.ntmps15
  go_wp2
  go_ret
  refine⟨QS ?_,rfl⟩
  by_cases e:l=l'
  · subst e;simp
  · rw[decide_eq_false e]
    refine sH.2 fun h=>e (strOf_inj hb hb' ?_)
    rw[ByteArray.toList_eq,ByteArray.toList_eq]at h
    exact ByteArray.ext (Array.toList_inj.mp h)
theorem hart_lits(h:Hart)(wf:h.Wf):∃la,Tryz.prog.keyLits 3 46 (qL h).toList=some la:=by
  have h1:=keyLits_arr (P:=Tryz.prog) (d:=0) Tryz.underlying44 Tryz.underlying43 kr kr h.regs wf.len (fun x hx=>wf_of_u32 (wf.regs x hx))
  have c1:Tryz.prog.cellsOf 44=32:=xJ
  have c2:Tryz.prog.cellsOf 43=1:=xJ
  have c3:Tryz.prog.cellsOf 4=1:=xJ
  have c4:Tryz.prog.cellsOf 3=1:=xJ
  have c5:Tryz.prog.cellsOf 46=37:=xJ
  have t1:(qJ h).take 32=h.regs.map (Value.int .u32):=by simp[qJ,wf.len]
  have t2:((qJ h).drop 32)=[.int .u32 h.pc,.bool h.held,.int .u32 h.heldAt,.int .i64 h.state,.int .i64 h.cause]:=by simp[qJ,wf.len]
  have d3:((qJ h).drop 33)=[.bool h.held,.int .u32 h.heldAt,.int .i64 h.state,.int .i64 h.cause]:=by rw[show 33=32+1 from rfl,←List.drop_drop,t2];rfl
  have d4:((qJ h).drop 34)=[.int .u32 h.heldAt,.int .i64 h.state,.int .i64 h.cause]:=by rw[show 34=32+2 from rfl,←List.drop_drop,t2];rfl
  have d5:((qJ h).drop 35)=[.int .i64 h.state,.int .i64 h.cause]:=by rw[show 35=32+3 from rfl,←List.drop_drop,t2];rfl
  have d6:((qJ h).drop 36)=[.int .i64 h.cause]:=by rw[show 36=32+4 from rfl,←List.drop_drop,t2];rfl
  have w1:=wf_of_u32 wf.pc
  have w2:=wf_of_u32 wf.heldAt
  have w3:=wf_of_i64 wf.state
  have w4:=wf_of_i64 wf.cause
  unfold Program.keyLits
  rw[Tryz.underlying46]
  simp only[hcells_toList,qO wf,c5,true_and]
  rw[if_pos zG]
  simp only[List.mapM_cons,List.mapM_nil,c1,c2,c3,c4,List.drop_zero,t1,t2,d3,d4,d5,d6,h1]
  simp[Program.keyLits,Tryz.underlying43,Tryz.underlying4,Tryz.underlying3,w1,w2,w3,w4]
theorem hart_neq(h:Hart)(wf:h.Wf)(w:World):(binOp .neq 46 (.agg (qL h)) (.agg (qL h))).run Tryz.prog w=.ok (.bool false) w:=by
  obtain⟨la,hl⟩:=hart_lits h wf
  exact neq_same w (m:=3) om kr (by unfold Value.formed;rw[Tryz.underlying46];simp only[jt wf];kernel_rfl) hl
theorem words4_same(v v':Value)(l:List Int)(w:World)(hv:Ints .u32 w v l)(hv':Ints .u32 w v' l):
    Calls Tryz.prog 16 #[v,v'] w fun e w'=>e=.returned (.bool true)∧Below w.heap.size w w':=by
  obtain⟨ao,cap,rfl,hc,hm,_,ho⟩:=hv.open
  obtain⟨ao',cap',rfl,hc',hm',_,ho'⟩:=hv'.open
  unfold maxLen at hm hm'
  have HO:=lI ho
  have HO':=lI ho'
  clear ho ho' hv hv'
  go_enter Tryz.func16,Tryz.ntmps16
  go_wp2
  go_loopw [5] (fun i wr=>∃k:Nat,i=.int .i64 k∧k≤l.length∧∃n,wr=w.drewN n) (fun i _=>l.length-(intOf i).toNat)
  case atStart=>exact⟨0,rfl,om,0,rfl⟩
  case round=>
    obtain⟨k,rfl,hk,n,rfl⟩:=hrel
    by_cases hlt:k<l.length
    · obtain⟨b,off,rfl,_,hcell⟩:=HO.out zR
      obtain⟨b',off',rfl,_,hcell'⟩:=HO'.out zR
      have c1:=hcell k hlt
      have c2:=hcell' k hlt
      have i1:(0:Int)≤(k:Int):=om
      have i2:(k:Int)<(l.length:Int):=om
      clear hcell hcell'
      generalize l.getD k 0=x at *
      go_wp2
      go_quiet (fail)
      go_wp2
      go_roundw
      case rel=>exact⟨k+1,by go_num,om,_,rfl⟩
      case measure=>simp[intOf];omega
    · go_wp2
      go_ret
      exact⟨rfl,qC br _⟩
theorem same5(vm vh vo vm' vh' vo':Value)(m:Mach)(out:List Int)(n:Int)(w:World)(wf:m.Wf)(hm:jp w vm vh m)(hm':jp w vm' vh' m)(ho:Ints .u32 w vo out)(ho':Ints .u32 w vo' out):
    Calls Tryz.prog 7 #[.agg #[vm,vh,vo,.int .i64 n],.agg #[vm',vh',vo',.int .i64 n]] w fun e w'=>e=.returned (.bool true)∧Below w.heap.size w w':=by
  obtain⟨aoh,caph,rfl,hch,hmh,_,hoh⟩:=hm.2.open (fun h hh=>qO (wf.harts h hh)) om
  obtain⟨aoh',caph',rfl,hch',hmh',_,hoh'⟩:=hm'.2.open (fun h hh=>qO (wf.harts h hh)) om
  unfold maxLen at hmh hmh'
  have HO:=lI hoh
  have HO':=lI hoh'
  have HM:=lI hm
  have HM':=lI hm'
  have HU:=lI ho
  have HU':=lI ho'
  clear hm hm' ho ho' hoh hoh'
  go_enter Tryz.func7,Tryz.ntmps7
  go_wp2_with fail
  have hb0:Below w.heap.size w ((w.alloc (.cells #[vm,.slice aoh m.harts.length caph,vo,.int .i64 n] 32)).alloc (.cells #[vm',.slice aoh' m.harts.length caph',vo',.int .i64 n] 32)):=by go_grown
  refine(bytes4_any _ _ m.mem m.mem _ (HM.out.1.below hb0) (HM'.out.1.below hb0) wf.mem wf.mem).mono ?_
  rintro e w1 ⟨rfl,rfl⟩
  rw[sW rfl]
  go_wp2_with fail
  refine(words4_same _ _ out _ (HU.out.below hb0) (HU'.out.below hb0)).mono ?_
  rintro e w2 ⟨rfl,hb2⟩
  have hs0:((w.alloc (.cells #[vm,.slice aoh m.harts.length caph,vo,.int .i64 n] 32)).alloc (.cells #[vm',.slice aoh' m.harts.length caph',vo',.int .i64 n] 32)).heap.size=w.heap.size+2:=zG
  have c1:=(hb2.cell (p:=⟨w.heap.size,1,none⟩) (by rw[hs0];show w.heap.size<_;omega)).trans (show _=some (.slice aoh m.harts.length caph) by go_cell)
  have c1':=(hb2.cell (p:=⟨w.heap.size+1,1,none⟩) (by rw[hs0];show w.heap.size+1<_;omega)).trans (show _=some (.slice aoh' m.harts.length caph') by go_cell)
  have c3:=(hb2.cell (p:=⟨w.heap.size,3,none⟩) (by rw[hs0];show w.heap.size<_;omega)).trans (show _=some (.int .i64 n) by go_cell)
  have c3':=(hb2.cell (p:=⟨w.heap.size+1,3,none⟩) (by rw[hs0];show w.heap.size+1<_;omega)).trans (show _=some (.int .i64 n) by go_cell)
  have hb3:=hb0.trans (hb2.mono (by rw[hs0];omega))
  clear hb2 hs0 hb0
  go_wp2_with fail
  go_loopw [5] (fun i wr=>∃k:Nat,i=.int .i64 k∧k≤m.harts.length∧∃nd,wr=w2.drewN nd) (fun i _=>m.harts.length-(intOf i).toNat)
  case atStart=>exact⟨0,rfl,om,0,rfl⟩
  case round=>
    obtain⟨k,rfl,hk,nd,rfl⟩:=hrel
    by_cases hlt:k<m.harts.length
    · obtain⟨b,off,rfl,hbl,hel⟩:=HO.out zR
      obtain⟨b',off',rfl,hbl',hel'⟩:=HO'.out zR
      have hat:At w2 b (off+k*37) (qJ m.harts[k]):=(hel k hlt).below hb3
      have hat':At w2 b' (off'+k*37) (qJ m.harts[k]):=(hel' k hlt).below hb3
      have wfk:m.harts[k].Wf:=wf.harts _ (sU hlt)
      generalize m.harts[k]=h at *
      have hsz:(Tryz.prog.info? 46).map (·.size)=some (qL h).size:=by rw[jt wfk];kernel_rfl
      have i1:(0:Int)≤(k:Int):=om
      have i2:(k:Int)<(m.harts.length:Int):=om
      clear hel hel' hk
      go_wp2_with fail
      refine wp_region_quiet_lit kr kr ?_
      repeat(first
        |(refine Qq rfl 46 _ rfl b (off+k*37) rfl (qL h) _ (by rintro _ ⟨_,rfl⟩;exact hat) Tryz.underlying46 rfl hsz ?_)
        |(refine Qq rfl 46 _ rfl b' (off'+k*37) rfl (qL h) _ (by rintro _ ⟨_,rfl⟩;exact hat') Tryz.underlying46 rfl hsz ?_)
        |(refine wpQuiet_neq rfl 46 _ _ _ rfl (qL h) (qL h) rfl rfl kr _ (hart_neq h wfk) ?_)
        |quiet_step (fail))
      refine wpQuiet_nil ?_
      intro _ hw'
      obtain⟨nq,hw''⟩:=hw'
      subst hw''
      go_wp2
      go_roundw
      case rel=>exact⟨k+1,by go_num,om,_,rfl⟩
      case measure=>simp[intOf];omega
    · go_wp2
      go_ret
      exact⟨rfl,qC hb3 _⟩
end Go.Proofs.YtlfnddmncbkjaacGreat.W
