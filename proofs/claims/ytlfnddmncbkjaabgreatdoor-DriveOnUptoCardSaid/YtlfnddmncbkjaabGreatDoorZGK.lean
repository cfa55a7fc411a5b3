import Derived.Test.YtlfnddmncbkjaabGreatDoorZGJ
set_option linter.unusedVariables false
set_option linter.unusedSimpArgs false
set_option maxRecDepth 100000
set_option maxHeartbeats 4000000
namespace Go.Proofs.YtlfnddmncbkjaabGreatDoor.Fb
open Go.RowKit
theorem jW.abs{m:List Int}{room:Int}{l l':List BlkD}(h:jW m room l)(e:l'.map BlkD.abs=l.map BlkD.abs):jW m room l':=by
  have hl:=len_abs e
  refine⟨h.room0,h.room1,by rw[hl];exact h.len,by rw[pcs_abs e];exact h.nodup,fun x hx=> ?_⟩
  obtain⟨y,hy,e2⟩:=List.mem_map.1 (show x.abs∈l.map BlkD.abs by rw[←e];exact List.mem_map_of_mem hx)
  have e3:y.pc=x.pc∧y.ins=x.ins:=wC
  rw[←e3.1,←e3.2];exact h.kept y hy
theorem placeI_none{zs:List BlkD}{pc:Int}(h:¬Qp zs pc<zs.length):qw zs pc= -1∧∀x∈zs,x.pc≠pc:=by
  refine⟨by unfold qw;rw[if_neg h],fun x hx e=>h (List.findIdx_lt_length_of_exists ⟨x,hx,by simpa using e⟩)⟩
theorem put_tot{room pu st:Int}{zs:List BlkD}{y:BlkD}{n:Nat}(h:qw zs y.pc= -1)(ht:(zs.length:Int)+pu+st=n∧0≤pu∧0≤st)(hn:n≤1000000):
    ((putL room zs y).length:Int)+putP room pu zs y+st=(n+1:Nat)∧0≤putP room pu zs y∧0≤st:=by
  have hd:dq (qw zs y.pc) zs=zs:=by rw[h];rfl
  have hw:wrap64 (pu+1)=pu+1:=xD
  unfold putL putP
  rw[hd]
  split
  · rw[hw]
    simp only[List.length_drop,sW,List.length_cons,List.length_nil]
    omega
  · simp only[sW,List.length_cons,List.length_nil]
    omega
theorem put_code{room:Int}{zs zs':List BlkD}{y:BlkD}(hy:U32 y.pc)(hu:∀x∈zs,U32 x.pc)(hn:∀x∈zs,x.pc≠y.pc)(e:zs'.map BlkD.abs=(putL room zs y).map BlkD.abs):
    ∀x∈zs',U32 x.pc∧((x.pc=y.pc∧x.ins=y.ins)∨(x.pc≠y.pc∧∃z∈zs,x.pc=z.pc∧x.ins=z.ins)):=fun x hx=>by
  obtain⟨u,hu',e2⟩:=List.mem_map.1 (show x.abs∈(putL room zs y).map BlkD.abs by rw[←e];exact List.mem_map_of_mem hx)
  have e3:u.pc=x.pc∧u.ins=x.ins:=wC
  rw[←e3.1,←e3.2]
  rcases putL_mem hu' with h|h
  · exact⟨hu u h,.inr ⟨hn u h,u,h,rfl,rfl⟩⟩
  · rw[h];exact⟨hy,.inl ⟨rfl,rfl⟩⟩
theorem sl_block'{w w':World}{v:Value}{s n:Nat}{xs:List Value}(h:Sl w v s n xs)(hb:xs≠[]→∀g,v.ownBlock=some g→w'.heap[g]? =w.heap[g]?):Sl w' v s n xs:=by
  obtain⟨h1,ao,cap,h2,h3,h4,h5,h6⟩:=h
  refine⟨h1,ao,cap,h2,h3,h4,h5,fun a ha hx=>⟨(h6 a ha hx).1, ?_⟩⟩
  obtain⟨b,off,sp⟩:=a
  have h7:=h6 _ ha hx
  have hs:=h7.1
  simp only at hs
  subst hs
  intro j hj
  exact(qA (hb hx b (by rw[h2,ha];rfl)) _).trans (h7.2 j hj)
theorem make_pc{mem:List Int}(hm:mem.length≤4096)(pc:Int):(QU mem pc).1=pc:=by unfold QU;rw[if_neg om]
def FindPost(A:Nat→Prop)(P:Program)(K TE TB TI TM:TypeId)(ep mp bp:Nat)(w:World)(room st:Int)(mem:List Int)(pc:Int)(n:Nat)(e:Ending)(w':World):Prop:=
  ∃vi vc l,e=.returned (.tuple #[.agg #[.int .u32 pc,vi],vc])∧jU w' vi l∧Fr (fun j=>j=ep∨j=mp) w w'∧
    ((l = [] ∧ (QU mem pc).2 = [] ∧ Below w.heap.size w w') ∨
     (Kept mem pc l ∧ Sl w' vc 5 (mkM pc l).length ((mkM pc l).flatMap jq) ∧ (∀ q, vc.ownBlock = some q → A q ∧ ∃ cs f, w'.heap[q]? = some (.cells cs TM f)) ∧
      ∃v' zs' pu' n',EnB A TE TB TI ep mp bp w' room pu' st v' zs'∧EnC A P K TM ep mp w' zs' n'∧((zs'.length:Int)+pu'+st=(n':Nat)∧0≤pu'∧0≤st)∧jW mem room zs'∧n≤n'∧n'≤n+1∧1≤n'))
theorem Wk.shownH{bp bh hc cp k:Nat}{vm vo:Value}{ty:TypeId}{o0 o:List Int}{fr tw:Int}{w:World}{s:St}(h:Wk bp bh hc cp k vm vo ty o0 o fr tw w s)(hw:∀x∈s.harts,x.Wf):Sl w (.slice (some ⟨bh,0,none⟩) s.harts.length hc) 37 s.harts.length (s.harts.flatMap qJ):=by
  refine⟨?_,_,hc,rfl,h.hcap.1,h.hcap.2,xR,fun a ha _=> ?_⟩
  · have:∀l:List Hart,(∀x∈l,x.Wf)→(l.flatMap qJ).length=l.length*37:=fun l=>by
      induction l with
      |nil=>intro _;rfl
      | cons x r ih =>
        intro hx
        rw[List.flatMap_cons,sW,qG (hx x zC),ih (fun y hy=>hx y (by simp[hy])),List.length_cons]
        omega
    exact this s.harts hw
  · cases ha;exact⟨rfl,h.harts⟩
theorem sl_fr{S:Nat→Prop}{w w':World}{v:Value}{s n:Nat}{xs:List Value}(h:Sl w v s n xs)(hF:Fr S w w')(hS:∀q,v.ownBlock=some q→¬S q):Sl w' v s n xs:=by
  obtain⟨h1,a1,cap1,rfl,h3,h4,h5,h6⟩:=h
  refine⟨h1,a1,cap1,rfl,h3,h4,h5,fun a ha hne=> ?_⟩
  obtain⟨h7,h8⟩:=h6 a ha hne
  have hp:0<xs.length:=List.length_pos_iff.2 hne
  exact⟨h7,fun j hj=>(qA (hF.block a.block (qD (p:=⟨a.block,a.off+0,none⟩) (h8 0 hp)) (hS _ (by rw[ha];rfl))) _).trans (h8 j hj)⟩
theorem Qn{P:Program}{w:World}{ops:Array Oper}{o:Oper}{a:Act}{K:Act→World→Prop}{Q:Exit→Act→World→Prop}{E:Prop}(hgd:o.guard=none)(t:TypeId)(x:Operand)
    (ho:o.op=.buildSlice t 1 #[(0,x)]) (v:Value) (hx:a.eval x=v) (w':World) (y:Value)
    (hr:(Instr.buildSlice t 1 #[(0,v)]).run P w=.ok y w') (h:K (a.put o.dst y) w'):
    if Region.wanted o (yielded ops a.tmps)=true then Oper.wp P o a w K Q else E:=by
  have hw:Region.wanted o (yielded ops a.tmps)=true:=wJ
  rw[if_pos hw]
  unfold Oper.wp execOp
  simp only[ho,Sem.run_bind,Sem.run_pure,Result.andThen_ok,List.map_toArray,List.map_cons,List.map_nil,hx,hr]
  exact h
theorem Wk.kept{bp bh hc cp k:Nat}{vm vo:Value}{ty:TypeId}{o0 o:List Int}{fr tw:Int}{w w':World}{s:St}(h:Wk bp bh hc cp k vm vo ty o0 o fr tw w s)(hs:w.heap.size≤w'.heap.size)(hk:∀q,q<w.heap.size→(q=bp∨q=bh∨q=cp∨vm.ownBlock=some q∨∃cs f,w.heap[q]? =some (.cells cs ty f))→w'.heap[q]? =w.heap[q]?):Wk bp bh hc cp k vm vo ty o0 o fr tw w' s:=by
  have b1:=h.b1
  have b2:=h.b2
  have hlt:=h.clt
  have e:=hk bp om (.inl rfl)
  have eh:=hk bh om (.inr (.inl rfl))
  have ec:=hk cp hlt (.inr (.inr (.inl rfl)))
  have em:∀g,vm.ownBlock=some g→w'.heap[g]? =w.heap[g]? :=fun g hg=>hk g (by have:=h.mlt g hg;omega) (.inr (.inr (.inr (.inl hg))))
  refine⟨⟨h.core.hbl,(qA ec _).trans h.core.ptr,(qA ec _).trans h.core.mem,(qA ec _).trans h.core.fr,(qA ec _).trans h.core.tw,fun o=>(qL ec o).trans (h.core.frz o),fun j hj=>(qA eh _).trans (h.core.hart j hj),fun o=>(qL eh o).trans (h.core.hfz o),QZ h.core.bytes em,fun b off n c e=> ?_, ?_,h.core.mlt⟩,h.b1,h.b2,(qA e _).trans h.c0,(qA e _).trans h.c1,(qA e _).trans h.c2,(qA e _).trans h.c3,fun o=>(qL e o).trans (h.frz o),fun j hj=>(qA eh _).trans (h.harts j hj),h.mlt,qI h.own (fun g hg=>hk g (h.own.lt g hg).2 (.inr (.inr (.inr (.inr (Qk h.own hg)))))),h.vlt,h.kl,h.hcap⟩
  · obtain⟨x1,x2,x3,x4⟩:=h.core.mfz b off n c e
    exact⟨x1,x2,om,fun o=>(qL (em b xM) o).trans (x4 o)⟩
  · obtain⟨vo',y1,y2⟩:=h.core.row
    exact⟨vo',(qA ec _).trans y1,qI y2 (fun g hg=>hk g (y2.lt g hg).2 (.inr (.inr (.inr (.inr (Qk y2 hg))))))⟩
def UpA(A:Nat→Prop)(v:Value)(us:List UndD):Prop:=(∀q,v.ownBlock=some q→A q)∧∀x∈us,(∀q,x.vb.ownBlock=some q→A q)∧∀q,x.vl.ownBlock=some q→A q
end Go.Proofs.YtlfnddmncbkjaabGreatDoor.Fb
namespace Go.Proofs.YtlfnddmncbkjaabGreatDoor.W
open Go.RowKit Fb
structure Rc (rp bp:Nat) (w:World) (v:Value) (us:List UndD):Prop where
  ty:∃cs f,w.heap[rp]? =some (.cells cs 108 f)
  at_:At w rp 0 [.pointer (some ⟨bp,0,none⟩),v]
  frz:∀o,w.frozen? ⟨rp,o,none⟩=false
  up:Up (rp+1) 136 5 142 w v us
theorem Rc.kept{A:Nat→Prop}{rp bp:Nat}{w w':World}{v:Value}{us:List UndD}(h:Rc rp bp w v us)(hA:UpA A v us)(hk:∀q,q<w.heap.size→(q=rp∨(rp<q∧A q∧∀cs f,w.heap[q]? ≠some (.cells cs 40 f)))→w'.heap[q]? =w.heap[q]?):Rc rp bp w' v us:=by
  obtain⟨cs,f,ht⟩:=h.ty
  have e0:=hk rp (qT ht) (.inl rfl)
  refine⟨⟨cs,f,e0.trans ht⟩,fun j hj=>(qA e0 _).trans (h.at_ j hj),fun o=>(qL e0 o).trans (h.frz o), ?_⟩
  refine⟨qI h.up.own (fun g hg=> ?_),h.up.wf,fun x hx=>qI (h.up.byt x hx) (fun g hg=> ?_),fun x hx=>qI (h.up.los x hx) (fun g hg=> ?_)⟩
  · obtain⟨cs,f,e⟩:=Qk h.up.own hg
    exact hk g (qT e) (.inr ⟨(h.up.own.lt g hg).1,hA.1 g hg,fun cs2 f2 e2=>by rw[e]at e2;cases e2⟩)
  · obtain⟨cs,f,e⟩:=Qk (h.up.byt x hx) hg
    exact hk g (qT e) (.inr ⟨((h.up.byt x hx).lt g hg).1,(hA.2 x hx).1 g hg,fun cs2 f2 e2=>by rw[e]at e2;cases e2⟩)
  · obtain⟨cs,f,e⟩:=Qk (h.up.los x hx) hg
    exact hk g (qT e) (.inr ⟨((h.up.los x hx).lt g hg).1,(hA.2 x hx).2 g hg,fun cs2 f2 e2=>by rw[e]at e2;cases e2⟩)
def UndS(rp bp bh cp:Nat)(vm v:Value)(j:Nat):Prop:=j=rp∨j=bp∨j=bh∨vm.ownBlock=some j∨v.ownBlock=some j∨cp≤j
def UStepPost(rp bp bh hc cp k:Nat)(vm vo:Value)(o0 o:List Int)(w:World)(s:St)(v:Value)(us:List UndD)(e:Ending)(w':World):Prop:=
  e=.returned (.tuple #[])∧∃(v':Value) (x:UndD),x.d=undoOf k s∧Wk bp bh hc cp k vm vo 40 o0 (o++(jg k s).out) (jg k s).fr (jg k s).tw w' (goM k s)∧Rc rp bp w' v' (us++[x])∧UpA (fun q=>q≠cp) v' (us++[x])∧Fr (UndS rp bp bh cp vm v) w w'∧Shp bp w w'
theorem info_lost:(Tryz.prog.info? 142).map (fun i=>(i.zero,i.size,i.bytes))=some (some (.agg #[.int .i64 0,.int .u32 0]),2,16):=by kernel_rfl
theorem info_undo:(Tryz.prog.info? 136).map (fun i=>(i.zero,i.size,i.bytes))=some (some (.agg (Value.int .i64 0::(qJ QC++[.int .u32 0,.slice none 0 0,.slice none 0 0])).toArray),41,224):=by kernel_rfl
theorem cg{p:Prop}(h:p:=by
 obtain⟨regs,pc,held,heldAt,state,cause⟩:=h
 obtain⟨a0,a1,a2,a3,a4,a5,a6,a7,a8,a9,a10,a11,a12,a13,a14,a15,a16,a17,a18,a19,a20,a21,a22,a23,a24,a25,a26,a27,a28,a29,a30,a31,rfl⟩:=list32 wf
 kernel_rfl):p:=h
theorem build_undo(k:Int)(h:Hart)(wf:h.regs.length=32)(w:World):(Instr.build 136 #[(0,.int .i64 k),(1,.agg (qR h))]).run Tryz.prog w=.ok (.agg (.int .i64 k::(qJ h++[.int .u32 0,.slice none 0 0,.slice none 0 0])).toArray) w:=by
  exact cg
theorem buildSlice_undo(k:Int)(h:Hart)(wf:h.regs.length=32)(a b c:Value)(w:World):(Instr.buildSlice 32 1 #[(0,.agg (Value.int .i64 k::(qJ h++[a,b,c])).toArray)]).run Tryz.prog w=.ok (.slice (some ⟨w.heap.size,0,none⟩) 1 1) (w.alloc (.cells (Value.int .i64 k::(qJ h++[a,b,c])).toArray 136)):=by
  exact cg
theorem core_any{bp bh hc:Nat}{vm vo:Value}{s:St}(k:Nat)(w:World)(h:Bd bp bh hc vm vo 40 w s)(hk:k<s.harts.length)(h4:s.harts.length≤4):
    Calls Tryz.prog 46 #[.pointer (some ⟨bp,0,none⟩),.int .i64 k] w fun e w'=>∃n,e=.returned (.pointer (some ⟨w.heap.size,0,none⟩))∧w'=(w.alloc (.cells #[.pointer (some ⟨bh,k*37,none⟩),vm,.slice none 0 0,.int .u32 0,.int .u32 0] 113)).drewN n:=by
  have c0:=h.c0
  have c1:=h.c1
  obtain⟨ao,cap,rfl,_⟩:=h.bytes.open
  have hlt:=h.lt
  have i0:(0:Int)≤(k:Int):=om
  have i1:(k:Int)<(s.harts.length:Int):=om
  have hcp:=h.hcap
  have hcc:=hcp.2
  unfold maxLen at hcc
  go_enter Tryz.func46,Tryz.ntmps46
  go_wp2_with fail
  go_region
  all_goals
    go_wp2_with fail
    go_ret
    first
    |exact⟨_,rfl,rfl⟩
    |exact⟨0,rfl,rfl⟩
    |exact⟨1,rfl,rfl⟩
theorem stored_any{bp bh hc:Nat}(k:Nat)(fr tw:Int)(hs:List Hart)(w:World)(c1:w.cell? ⟨bp,1,none⟩=some (.slice (some ⟨bh,0,none⟩) hs.length hc))(hat:At w bh 0 (hs.flatMap qJ))(hfz:∀o,w.frozen? ⟨bh,o,none⟩=false)(hne:bh≠bp)
    (wf:∀h∈hs,h.Wf) (h4:hs.length≤4) (hcap:hs.length≤hc∧hc≤maxLen) (hfr:U32 fr) (htw:U32 tw):
    Calls Tryz.prog 80 #[.pointer (some ⟨bp,0,none⟩),.int .i64 k,.int .u32 fr,.int .u32 tw] w fun e w'=>e=.returned (.tuple #[])∧At w' bh 0 ((QD k fr tw hs.length hs).flatMap qJ)∧Chg (fun p=>p.block=bh) w w':=by
  obtain⟨hc1,hc2⟩:=hcap
  unfold maxLen at hc2
  have hlt:=qD c1
  have HAT:=lI hat
  have HFZ:=lI hfz
  have HWF:=lI wf
  have HLB:Hid (0<hs.length→bh<w.heap.size):=lI (fun h0=>by
    have:=je hat (fun x hx=>qG (wf x hx)) h0
    exact qD (this.get (jk (wf _ (sR h0)))))
  clear hat hfz wf
  go_enter Tryz.func80,Tryz.ntmps80
  go_wp2_with fail
  go_loopw [17] (fun i wr=>∃n:Nat,i=.int .i64 n∧n≤hs.length∧Hid (At wr bh 0 ((QD k fr tw n hs).flatMap qJ)∧Chg (fun p=>p.block=bh) w wr)) (fun i _=>hs.length-(intOf i).toNat)
  case atStart=>exact⟨0,rfl,om,lI ⟨by rw[loseTo_zero];exact HAT.out,Chg.refl _ _⟩⟩
  case round=>
    obtain⟨n,rfl,hn,HR⟩:=hrel
    have c1':=(HR.out.2.cell ⟨bp,1,none⟩ hlt (by show ¬bp=bh;omega)).trans c1
    by_cases hlt2:n<hs.length
    · have hel:=je HR.out.1 (fun x hx=>qG (jw (P:=Hart.Wf) HWF.out (fun _=>uG) x hx)) (by rw[QI];exact hlt2)
      rw[loseTo_at _ _ _ hlt2]at hel
      have whn:=HWF.out hs[n] (sR hlt2)
      have g33:=hel.get (jk whn)
      have g34:=hel.get (jn whn)
      have l33:bh<wr.heap.size:=qD g33
      have f33:wr.frozen? ⟨bh,n*37+33,none⟩=false:=(HR.out.2.frozen ⟨bh,n*37+33,none⟩ (HLB.out om)).trans (HFZ.out _)
      have f34:wr.frozen? ⟨bh,n*37+34,none⟩=false:=(HR.out.2.frozen ⟨bh,n*37+34,none⟩ (HLB.out om)).trans (HFZ.out _)
      have i0:(0:Int)≤(n:Int):=om
      have i1:(n:Int)<(hs.length:Int):=om
      have HNX:Hid (∀x,x=lose fr tw hs[n]→n≠k→QD k fr tw (n+1) hs=(QD k fr tw n hs).set n x):=lI (fun x e hk=>by rw[e];exact loseTo_succ fr tw hs hlt2 hk)
      have HSE:Hid (n=k→QD k fr tw (n+1) hs=QD k fr tw n hs):=lI (fun e=>by subst e;exact loseTo_self n fr tw hs)
      have HKP:Hid (lose fr tw hs[n]=hs[n]→QD k fr tw (n+1) hs=QD k fr tw n hs):=lI (fun e=>loseTo_keep fr tw hs hlt2 e)
      have HLO:Hid (lose fr tw hs[n]=if(hs[n].held&&decide (fr<(hs[n].heldAt+4)%4294967296)&&decide (hs[n].heldAt<tw))=true then {hs[n]with held:=false,heldAt:=0} else hs[n]):=lI rfl
      have hha:U32 hs[n].heldAt:=whn.heldAt
      have HEL:=lI hel
      have HWN:=lI whn
      clear hel whn
      obtain⟨x,hx⟩:∃x,x=hs[n]:=⟨_,rfl⟩
      rw[←hx]at g33 g34 HNX HKP HLO hha HEL HWN
      have HX:=lI hx
      clear hx
      obtain⟨ha1,ha2⟩:=hha
      obtain⟨fr1,fr2⟩:=hfr
      obtain⟨tw1,tw2⟩:=htw
      by_cases hnk:(n:Int)=k
      · go_wp2_with fail
        go_roundw
        case rel=>exact⟨n+1,by(first|(simp;done)|(simp;omega)),om,lI ⟨by rw[HSE.out om];exact HR.out.1,HR.out.2⟩⟩
        case measure=>simp[intOf];omega
      cases hheld:x.held with
      | false =>
        rw[hheld]at g33
        go_wp2_with fail
        go_roundw
        case rel=>exact⟨n+1,by simp,om,lI ⟨by rw[HKP.out (by rw[HLO.out,hheld];rfl)];exact HR.out.1,HR.out.2⟩⟩
        case measure=>simp[intOf];omega
      | true =>
        rw[hheld]at g33
        by_cases h1:fr<(x.heldAt+4)%4294967296
        · by_cases h2:x.heldAt<tw
          · go_wp2_with fail
            go_roundw
            case rel=>
              have wx:=HWN.out
              have hxl:(qJ x).length=37:=qG wx
              have a1:=HEL.out.set 33 om (.bool false)
              rw[←jZ wx.len false]at a1
              have wx2:({x with held:=false}:Hart).Wf:=⟨wx.len,wx.regs,wx.pc,wx.heldAt,wx.state,wx.cause⟩
              have a2:=a1.set 34 (by rw[qG wx2];omega) (.int .u32 0)
              rw[←Qw (h:=({x with held:=false}:Hart)) wx.len 0]at a2
              have wx3:({x with held:=false,heldAt:=0}:Hart).Wf:=⟨wx.len,wx.regs,wx.pc,(⟨by decide,by decide⟩:U32 0),wx.state,wx.cause⟩
              refine⟨n+1,by simp,om,lI ⟨?_,(HR.out.2.setCell ⟨bh,n*37+33,none⟩ (.bool false) (fun _=>rfl)).setCell ⟨bh,n*37+34,none⟩ (.int .u32 0) (fun _=>rfl)⟩⟩
              rw[HNX.out {x with held:=false,heldAt:=0} (by rw[HLO.out,hheld];simp[h1,h2]) om]
              refine jp HR.out.1 (fun x hx=>qG (jw (P:=Hart.Wf) HWF.out (fun _=>uG) x hx)) (qG wx3) a2 (fun o ho=> ?_)
              rw[sJ _ _ _ _ zD,sJ _ _ _ _ zD]
            case measure=>simp[intOf];omega
          · go_wp2_with fail
            go_roundw
            case rel=>exact⟨n+1,by simp,om,lI ⟨by rw[HKP.out (by rw[HLO.out,hheld];simp[h2])];exact HR.out.1,HR.out.2⟩⟩
            case measure=>simp[intOf];omega
        · go_wp2_with fail
          go_roundw
          case rel=>exact⟨n+1,by simp,om,lI ⟨by rw[HKP.out (by rw[HLO.out,hheld];simp[h1])];exact HR.out.1,HR.out.2⟩⟩
          case measure=>simp[intOf];omega
    · obtain rfl:n=hs.length:=om
      go_wp2_with fail
      go_end0
      exact⟨rfl,HR.out.1,HR.out.2⟩
theorem info_bytes:(Tryz.prog.info? 5).map (fun i=>(i.zero,i.size,i.bytes))=some (some (.int .u8 0),1,1):=by kernel_rfl
theorem clone_bytes(v:Value)(n:Nat)(xs:List Value)(w:World)(hv:Sl w v 1 n xs)(h1c:∀u∈xs,u.oneCell'=true)(hr:n*1≤140737488355328):
    Calls Tryz.prog 49 #[v] w fun e w'=>(∃v',e=.returned v'∧w'.ownsRow w.heap.size 5 1 v' n xs∧(v'=.slice none 0 0→v=.slice none 0 0))∧Below w.heap.size w w':=by
  obtain⟨hlen,ao,cap,rfl,hnc,hcm,hnone,hat⟩:=hv
  have heq:=fun(W:World) (m c:Nat)=>Lib.run_eql_slice_nil (P:=Tryz.prog) W 27 5 ao m c 0 0 Tryz.underlying27
  unfold maxLen at hcm
  cases ao with
  | none =>
    obtain rfl:cap=0:=hnone rfl
    obtain rfl:n=0:=om
    obtain rfl:xs=[]:=List.eq_nil_of_length_eq_zero (by simpa using hlen)
    clear hnone hat
    go_enter Tryz.func49,Tryz.ntmps49
    go_wp2
    go_ret
    exact⟨⟨_,rfl,World.ownsRow_nil _ _ _ _,by simp⟩,Below.refl _ _⟩
  | some a =>
    obtain⟨i0,hi,hz0,hz1,hz2⟩:=info_parts info_bytes
    clear hnone
    have HAT:=lI hat
    have HL:=lI hlen
    have HC:=lI h1c
    clear hat hlen h1c
    go_enter Tryz.func49,Tryz.ntmps49
    go_wp2_with (at_builtin;refine wpList_append_own _ rfl _ _ 27 rfl w.heap.size 5 i0 (.int .u8 0) 1 1 Tryz.underlying27 hi hz0 hz1 hz2 rfl zF _ 0 [] rfl ?_ a n cap xs rfl HL.out ?_ HC.out ?_ ?_ ?_ ?_)
    rotate_right
    · intro v' w1 hown hgrow hnil
      go_wp2
      go_ret
      refine⟨⟨_,rfl, ?_, ?_⟩, ?_⟩
      · simpa using hown
      · intro h
        exact(hnil h).elim
      · exact(Below.alloc br (sN _) _).grown hgrow zC (by intro k hk;simp[Value.ownBlock]at hk;omega)
    all_goals(first|(unfold maxLen;omega)|omega|(simp;done)|skip)
    · exact uP _ _ _ _ (sN _)
    · intro j u hu
      have hj:j<xs.length:=(List.getElem?_eq_some_iff.1 hu).1
      have hne:xs≠[]:=xK
      have h3:=(HAT.out a rfl hne)
      have h4:=h3.2 j hj
      have hu2:u=xs[j]:=by rw[sU hj]at hu;exact(Option.some.inj hu).symm
      rw[hu2,JZ a h3.1,sI _ _ _ (qD h4)]
      exact h4
theorem jV(op:Int)(w:World):
    Calls Tryz.prog 93 #[.int .i64 op] w fun e w'=>e=.returned (.int .u32 (qP op))∧w=w':=by
  go_enter Tryz.func93,Tryz.ntmps93
  go_wp2
  all_goals go_ret
  all_goals refine⟨qu ?_,rfl⟩
  all_goals simp_all [qP]
theorem Qs(ao:Option Addr)(n c:Nat)(at_ many:Int)(w:World)(hn:n≤maxLen)(ha:U32 at_)(hm:U32 many):
    Calls Tryz.prog 94 #[.slice ao n c,.int .u32 at_,.int .u32 many] w fun e w'=>e=.returned (.bool (there n at_ many))∧w=w':=by
  unfold maxLen at hn
  unfold U32 at ha hm
  go_enter Tryz.func94,Tryz.ntmps94
  go_wp2
  all_goals go_ret
  all_goals refine⟨Qf ?_,rfl⟩
  all_goals simp[there, *]
  all_goals omega
theorem load_no(ao:Option Addr)(n c:Nat)(op at_:Int)(w:World)(hn:n≤maxLen)(ha:U32 at_)(h:(loads op&&there n at_ (qP op))=false):
    Calls Tryz.prog 59 #[.slice ao n c,.int .i64 op,.int .u32 at_] w fun e w'=>e=.returned (.tuple #[.int .u32 0,.bool false])∧w=w':=by
  have hm:U32 (qP op):=xW
  by_cases h1:16≤op∧op≤18
  · obtain⟨h1,h2⟩:=h1
    clear h
    go_enter Tryz.func59,Tryz.ntmps59
    go_wp2_with (first|(go_at_call 93;refine(jV _ _).mono ?_;rintro e w' ⟨rfl,rfl⟩)|(go_at_call 94;refine(Qs _ _ _ _ _ _ hn ha hm).mono ?_;rintro e w' ⟨rfl,rfl⟩))
    go_ret2
    exact⟨rfl,rfl⟩
  · have ht:there n at_ (qP op)=false:=by
      by_cases hl:loads op=true
      · simpa[hl]using h
      · have:qP op=0:=by
          simp[loads]at hl
          unfold qP
          rw[if_neg om,if_neg om,if_neg om]
        rw[this];simp[there]
    clear h
    have h3:op<16∨18<op:=om
    clear h1
    rcases h3 with h3|h3
    all_goals
      go_enter Tryz.func59,Tryz.ntmps59
      go_wp2_with (first|(go_at_call 93;refine(jV _ _).mono ?_;rintro e w' ⟨rfl,rfl⟩)|(go_at_call 94;refine(Qs _ _ _ _ _ _ hn ha hm).mono ?_;rintro e w' ⟨rfl,rfl⟩))
      go_ret2
      exact⟨rfl,rfl⟩
theorem load_yes(b off c:Nat)(l:List Int)(op at_:Int)(w:World)(hn:l.length≤maxLen)(ha:U32 at_)(h:qX l op at_=true)
    (hc:∀i,i<l.length→w.cell? ⟨b,off+i,none⟩=some (.int .u8 (l.getD i 0))) (hb:∀i,0≤l.getD i 0∧l.getD i 0<256):
    Calls Tryz.prog 59 #[.slice (some ⟨b,off,none⟩) l.length c,.int .i64 op,.int .u32 at_] w fun e w'=>e=.returned (.tuple #[.int .u32 (QB l op at_),.bool true])∧w=w':=by
  have hm:U32 (qP op):=xW
  have ht:there l.length at_ (qP op)=true:=by simp[qX]at h;exact h.2
  have hop:op=11∨op=12∨op=13∨op=14∨op=15:=by simp[qX,loads]at h;omega
  have hat:at_.toNat+(qP op).toNat≤l.length:=by
    simp[there]at ht;unfold U32 at ha;omega
  have haf:at_+qP op≤4294967296:=by
    simp[there]at ht
    unfold U32 at ha
    rcases hop with rfl|rfl|rfl|rfl|rfl<;>simp[qP]at ht ⊢ <;>omega
  have ha0:=ha.1
  have ha1:=ha.2
  obtain⟨k,rfl⟩:=sQ ha0
  rcases hop with rfl|rfl|rfl|rfl|rfl
  · have H:=lI h
    have hk0:k+1≤l.length:=by simpa[qP]using hat
    have hk1:(k:Int)+1≤4294967296:=by simpa[qP]using haf
    have c0:=hc (k) om
    have b0:=hb (k)
    obtain⟨x0,hx0⟩:∃x,x=l.getD (k) 0:=⟨_,rfl⟩
    rw[←hx0]at c0 b0
    have X0:=lI hx0
    clear hx0
    clear hc hb h hat haf
    go_enter Tryz.func59,Tryz.ntmps59
    go_wp2_with (first|(go_at_call 93;refine(jV _ _).mono ?_;rintro e w' ⟨rfl,rfl⟩;rw[show qP 11=1 from rfl])|(go_at_call 94;refine(Qs _ _ _ _ _ _ hn ha hm).mono ?_;rintro e w' ⟨rfl,rfl⟩))
    go_rounds 2
    go_ret2
    refine⟨congrArg (fun x=>Ending.returned (Value.tuple #[.int .u32 x,.bool true])) (?_:_=QB l 11 k),rfl⟩
    rw[mLoad_11 H.out,←X0.out,or0 _ om]
  · have H:=lI h
    have hk0:k+2≤l.length:=by simpa[qP]using hat
    have hk1:(k:Int)+2≤4294967296:=by simpa[qP]using haf
    have c0:=hc (k) om
    have b0:=hb (k)
    obtain⟨x0,hx0⟩:∃x,x=l.getD (k) 0:=⟨_,rfl⟩
    rw[←hx0]at c0 b0
    have X0:=lI hx0
    clear hx0
    have c1:=hc (k+1) om
    have b1:=hb (k+1)
    obtain⟨x1,hx1⟩:∃x,x=l.getD (k+1) 0:=⟨_,rfl⟩
    rw[←hx1]at c1 b1
    have X1:=lI hx1
    clear hx1
    clear hc hb h hat haf
    go_enter Tryz.func59,Tryz.ntmps59
    go_wp2_with (first|(go_at_call 93;refine(jV _ _).mono ?_;rintro e w' ⟨rfl,rfl⟩;rw[show qP 12=2 from rfl])|(go_at_call 94;refine(Qs _ _ _ _ _ _ hn ha hm).mono ?_;rintro e w' ⟨rfl,rfl⟩))
    go_rounds 3
    go_ret2
    refine⟨congrArg (fun x=>Ending.returned (Value.tuple #[.int .u32 x,.bool true])) (?_:_=QB l 12 k),rfl⟩
    rw[mLoad_12 H.out,←X0.out,←X1.out,le2 _ _ b0 b1]
  · have H:=lI h
    have hk0:k+4≤l.length:=by simpa[qP]using hat
    have hk1:(k:Int)+4≤4294967296:=by simpa[qP]using haf
    have c0:=hc (k) om
    have b0:=hb (k)
    obtain⟨x0,hx0⟩:∃x,x=l.getD (k) 0:=⟨_,rfl⟩
    rw[←hx0]at c0 b0
    have X0:=lI hx0
    clear hx0
    have c1:=hc (k+1) om
    have b1:=hb (k+1)
    obtain⟨x1,hx1⟩:∃x,x=l.getD (k+1) 0:=⟨_,rfl⟩
    rw[←hx1]at c1 b1
    have X1:=lI hx1
    clear hx1
    have c2:=hc (k+2) om
    have b2:=hb (k+2)
    obtain⟨x2,hx2⟩:∃x,x=l.getD (k+2) 0:=⟨_,rfl⟩
    rw[←hx2]at c2 b2
    have X2:=lI hx2
    clear hx2
    have c3:=hc (k+3) om
    have b3:=hb (k+3)
    obtain⟨x3,hx3⟩:∃x,x=l.getD (k+3) 0:=⟨_,rfl⟩
    rw[←hx3]at c3 b3
    have X3:=lI hx3
    clear hx3
    clear hc hb h hat haf
    go_enter Tryz.func59,Tryz.ntmps59
    go_wp2_with (first|(go_at_call 93;refine(jV _ _).mono ?_;rintro e w' ⟨rfl,rfl⟩;rw[show qP 13=4 from rfl])|(go_at_call 94;refine(Qs _ _ _ _ _ _ hn ha hm).mono ?_;rintro e w' ⟨rfl,rfl⟩))
    go_rounds 5
    go_ret2
    refine⟨congrArg (fun x=>Ending.returned (Value.tuple #[.int .u32 x,.bool true])) (?_:_=QB l 13 k),rfl⟩
    rw[mLoad_13 H.out,←X0.out,←X1.out,←X2.out,←X3.out,le4 _ _ _ _ b0 b1 b2 b3]
  · have H:=lI h
    have hk0:k+1≤l.length:=by simpa[qP]using hat
    have hk1:(k:Int)+1≤4294967296:=by simpa[qP]using haf
    have c0:=hc (k) om
    have b0:=hb (k)
    obtain⟨x0,hx0⟩:∃x,x=l.getD (k) 0:=⟨_,rfl⟩
    rw[←hx0]at c0 b0
    have X0:=lI hx0
    clear hx0
    clear hc hb h hat haf
    go_enter Tryz.func59,Tryz.ntmps59
    go_wp2_with (first|(go_at_call 93;refine(jV _ _).mono ?_;rintro e w' ⟨rfl,rfl⟩;rw[show qP 14=1 from rfl])|(go_at_call 94;refine(Qs _ _ _ _ _ _ hn ha hm).mono ?_;rintro e w' ⟨rfl,rfl⟩))
    go_rounds 2
    go_ret2
    refine⟨congrArg (fun x=>Ending.returned (Value.tuple #[.int .u32 x,.bool true])) (?_:_=QB l 14 k),rfl⟩
    rw[mLoad_14 H.out,←X0.out,or0 _ om]
  · have H:=lI h
    have hk0:k+2≤l.length:=by simpa[qP]using hat
    have hk1:(k:Int)+2≤4294967296:=by simpa[qP]using haf
    have c0:=hc (k) om
    have b0:=hb (k)
    obtain⟨x0,hx0⟩:∃x,x=l.getD (k) 0:=⟨_,rfl⟩
    rw[←hx0]at c0 b0
    have X0:=lI hx0
    clear hx0
    have c1:=hc (k+1) om
    have b1:=hb (k+1)
    obtain⟨x1,hx1⟩:∃x,x=l.getD (k+1) 0:=⟨_,rfl⟩
    rw[←hx1]at c1 b1
    have X1:=lI hx1
    clear hx1
    clear hc hb h hat haf
    go_enter Tryz.func59,Tryz.ntmps59
    go_wp2_with (first|(go_at_call 93;refine(jV _ _).mono ?_;rintro e w' ⟨rfl,rfl⟩;rw[show qP 15=2 from rfl])|(go_at_call 94;refine(Qs _ _ _ _ _ _ hn ha hm).mono ?_;rintro e w' ⟨rfl,rfl⟩))
    go_rounds 3
    go_ret2
    refine⟨congrArg (fun x=>Ending.returned (Value.tuple #[.int .u32 x,.bool true])) (?_:_=QB l 15 k),rfl⟩
    rw[mLoad_15 H.out,←X0.out,←X1.out,le2 _ _ b0 b1]
theorem load_any(v:Value)(l:List Int)(op at_:Int)(w:World)(hv:Ints .u8 w v l)(ha:U32 at_)(hb:∀i,0≤l.getD i 0∧l.getD i 0<256):
    Calls Tryz.prog 59 #[v,.int .i64 op,.int .u32 at_] w fun e w'=>e=.returned (.tuple #[.int .u32 (QB l op at_),.bool (qX l op at_)])∧w=w':=by
  obtain⟨ao,cap,rfl,hc,hm,_,ho⟩:=hv.open
  by_cases h:qX l op at_=true
  · have hne:l≠[]:=by
      rintro rfl
      simp[qX,there]at h
      have:=ha.1;omega
    obtain⟨b,off,rfl,_,hcell⟩:=ho hne
    rw[h]
    exact load_yes b off cap l op at_ w om ha h hcell hb
  · have h':qX l op at_=false:=by simpa using h
    rw[h',show QB l op at_=0 from by unfold QB;rw[if_neg h]]
    exact load_no ao l.length cap op at_ w om ha h'
theorem put_no(ao:Option Addr)(n c:Nat)(op at_ x:Int)(w:World)(hn:n≤maxLen)(ha:U32 at_)(h:(stores op&&there n at_ (qP op))=false):
    Calls Tryz.prog 139 #[.slice ao n c,.int .i64 op,.int .u32 at_,.int .u32 x] w fun e w'=>e=.returned (.bool false)∧w=w':=by
  have hm:U32 (qP op):=xW
  by_cases h1:16≤op∧op≤18
  · have hs:stores op=true:=by simp[stores];omega
    have ht:there n at_ (qP op)=false:=by simpa[hs]using h
    obtain⟨h1,h2⟩:=h1
    clear h hs
    go_enter Tryz.func139,Tryz.ntmps139
    go_wp2_with (first|(go_at_call 93;refine(jV _ _).mono ?_;rintro e w' ⟨rfl,rfl⟩)|(go_at_call 94;refine(Qs _ _ _ _ _ _ hn ha hm).mono ?_;rintro e w' ⟨rfl,rfl⟩))
    go_ret
    exact⟨rfl,rfl⟩
  · clear h
    have h3:op<16∨18<op:=om
    clear h1
    rcases h3 with h3|h3
    all_goals
      go_enter Tryz.func139,Tryz.ntmps139
      go_wp2_with (first|(go_at_call 93;refine(jV _ _).mono ?_;rintro e w' ⟨rfl,rfl⟩)|(go_at_call 94;refine(Qs _ _ _ _ _ _ hn ha hm).mono ?_;rintro e w' ⟨rfl,rfl⟩))
      go_ret
      exact⟨rfl,rfl⟩
theorem put_yes(b off c:Nat)(l:List Int)(op:Int)(k:Nat)(x:Int)(w:World)(hn:l.length≤maxLen)(ha:U32 k)(hx:U32 x)(h:qW l op k=true)
    (hc:∀i,i<l.length→∃y,w.cell? ⟨b,off+i,none⟩=some y) (hf:∀i,i<l.length→w.frozen? ⟨b,off+i,none⟩=false):
    Calls Tryz.prog 139 #[.slice (some ⟨b,off,none⟩) l.length c,.int .i64 op,.int .u32 k,.int .u32 x] w fun e w'=>e=.returned (.bool true)∧w'=putW w b off k x (qP op).toNat:=by
  have hm:U32 (qP op):=xW
  have ht:there l.length k (qP op)=true:=by simp[qW]at h;exact h.2
  have hop:op=16∨op=17∨op=18:=by simp[qW,stores]at h;omega
  have hat:k+(qP op).toNat≤l.length:=by
    simp[there]at ht;unfold U32 at ha;omega
  have haf:k+qP op≤4294967296:=by
    simp[there]at ht
    unfold U32 at ha
    rcases hop with rfl|rfl|rfl<;>simp[qP]at ht ⊢ <;>omega
  have HA:=lI ha
  have HM:=lI hm
  have HT:=lI ht
  have HN:=lI hn
  have hx0:=hx.1
  have hx1:=hx.2
  clear ha hm hn
  rcases hop with rfl|rfl|rfl
  · have hk0:k+1≤l.length:=by simpa[qP]using hat
    have hk1:k+1≤4294967296:=by simp[qP]at haf;omega
    have ht1:there l.length k 1=true:=HT.out
    have HM1:Hid (U32 1):=HM
    obtain⟨x0,c0⟩:=hc (k) om
    have f0:=hf (k) om
    clear hc hf h hat haf ht
    go_enter Tryz.func139,Tryz.ntmps139
    go_wp2_with (first|(go_at_call 93;refine(jV _ _).mono ?_;rintro e w' ⟨rfl,rfl⟩;rw[show qP 16=1 from rfl])|(go_at_call 94;refine(Qs _ _ _ _ _ _ HN.out HA.out HM1.out).mono ?_;rintro e w' ⟨rfl,rfl⟩))
    go_rounds 2
    go_ret
    refine⟨rfl, ?_⟩
    simp[putW,qP]
  · have hk0:k+2≤l.length:=by simpa[qP]using hat
    have hk1:k+2≤4294967296:=by simp[qP]at haf;omega
    have ht1:there l.length k 2=true:=HT.out
    have HM1:Hid (U32 2):=HM
    obtain⟨x0,c0⟩:=hc (k) om
    have f0:=hf (k) om
    obtain⟨x1,c1⟩:=hc (k+1) om
    have f1:=hf (k+1) om
    clear hc hf h hat haf ht
    go_enter Tryz.func139,Tryz.ntmps139
    go_wp2_with (first|(go_at_call 93;refine(jV _ _).mono ?_;rintro e w' ⟨rfl,rfl⟩;rw[show qP 17=2 from rfl])|(go_at_call 94;refine(Qs _ _ _ _ _ _ HN.out HA.out HM1.out).mono ?_;rintro e w' ⟨rfl,rfl⟩))
    go_rounds 3
    go_ret
    refine⟨rfl, ?_⟩
    simp[putW,qP]
  · have hk0:k+4≤l.length:=by simpa[qP]using hat
    have hk1:k+4≤4294967296:=by simp[qP]at haf;omega
    have ht1:there l.length k 4=true:=HT.out
    have HM1:Hid (U32 4):=HM
    obtain⟨x0,c0⟩:=hc (k) om
    have f0:=hf (k) om
    obtain⟨x1,c1⟩:=hc (k+1) om
    have f1:=hf (k+1) om
    obtain⟨x2,c2⟩:=hc (k+2) om
    have f2:=hf (k+2) om
    obtain⟨x3,c3⟩:=hc (k+3) om
    have f3:=hf (k+3) om
    clear hc hf h hat haf ht
    go_enter Tryz.func139,Tryz.ntmps139
    go_wp2_with (first|(go_at_call 93;refine(jV _ _).mono ?_;rintro e w' ⟨rfl,rfl⟩;rw[show qP 18=4 from rfl])|(go_at_call 94;refine(Qs _ _ _ _ _ _ HN.out HA.out HM1.out).mono ?_;rintro e w' ⟨rfl,rfl⟩))
    go_rounds 5
    go_ret
    refine⟨rfl, ?_⟩
    simp[putW,qP]
    rw[show x / 16777216%256=x / 16777216 from by omega]
theorem divide_any(a b:Int)(w:World)(ha: -2147483648≤a)(ha':a≤2147483647):
    Calls Tryz.prog 158 #[.int .i32 a,.int .i32 b] w fun e w'=>e=.returned (.tuple #[.int .i32 (divq a b),.int .i32 (divr a b)])∧∃n,w'=w.drewN n:=by
  by_cases h0:b=0
  · subst h0
    go_enter Tryz.func158,Tryz.ntmps158
    go_wp2
    go_ret2
    exact⟨rfl,0,rfl⟩
  · by_cases h1:b= -1
    · subst h1
      go_enter Tryz.func158,Tryz.ntmps158
      go_wp2
      go_ret2
      exact⟨rfl,0,rfl⟩
    · have hz:(b==0)=false:=by simpa using h0
      have hz1:(b== -1)=false:=by simpa using h1
      go_enter Tryz.func158,Tryz.ntmps158
      go_wp2
      go_quiet (fail)
      go_wp2
      go_ret2
      refine⟨?_,nq,rfl⟩
      have e1:wrap32 (a.tdiv b)=divq a b:=by
        rw[divq,if_neg h0,if_neg h1]
        have:=tdiv_small a b ha ha' h0 h1
        unfold wrap32;omega
      have e2:a.tmod b=divr a b:=by rw[divr,if_neg h0,if_neg h1]
      rw[←e1,←e2]
      rfl
theorem quotient_any(op a b:Int)(w:World)(ha:0≤a)(ha':a<4294967296)(hb:0≤b)(hb':b<4294967296):
    Calls Tryz.prog 143 #[.int .i64 op,.int .u32 a,.int .u32 b] w fun e w'=>e=.returned (.int .u32 (quot op a b))∧∃n,w'=w.drewN n:=by
  have hs:=uz a
  by_cases h0:b=0
  · have hz:(b==0)=true:=by simpa using h0
    have H0:=lI h0
    clear h0
    go_enter Tryz.func143,Tryz.ntmps143
    go_wp2_with (go_at_call 158;refine(divide_any _ _ _ hs.1 hs.2).mono ?_;rintro e w' ⟨rfl,n,rfl⟩)
    all_goals go_ret
    all_goals refine⟨qu ?_,n,rfl⟩
    all_goals have h0:=H0.out
    all_goals simp[quot, *]
  · have hz:(b==0)=false:=by simpa using h0
    go_enter Tryz.func143,Tryz.ntmps143
    go_wp2_with (go_at_call 158;refine(divide_any _ _ _ hs.1 hs.2).mono ?_;rintro e w' ⟨rfl,n,rfl⟩)
    all_goals go_ret
    all_goals refine⟨qu ?_,n,rfl⟩
    all_goals simp[quot, *]
theorem alu_any(op a b:Int)(w:World)(ha:0≤a)(ha':a<4294967296)(hb:0≤b)(hb':b<4294967296):
    Calls Tryz.prog 117 #[.int .i64 op,.int .u32 a,.int .u32 b] w fun e w'=>e=.returned (.int .u32 (alu op a b))∧∃n,w'=w.drewN n:=by
  have hm:bits .and .u32 b 31=b%32:=Qg b 5 om 31 rfl hb hb'
  have hs:=uz a
  have hs2:=uz b
  go_enter Tryz.func117,Tryz.ntmps117
  go_wp2_with (first|(go_at_call 143;refine(quotient_any _ _ _ _ ha ha' hb hb').mono ?_;rintro e w' ⟨rfl,n,rfl⟩)|go_in)
  all_goals go_ret
  all_goals refine⟨qu ?_,by first|exact⟨0,rfl⟩|exact⟨_,rfl⟩⟩
  all_goals first
    |(simp[alu, *];done)
    |(rw[mulh_eq _ _ hs om];simp[alu, *];done)
    |(rw[mulhu_eq _ _ ha ha' hb hb'];simp[alu, *];done)
theorem holds_any(op a b:Int)(w:World)(ha:0≤a)(ha':a<4294967296)(hb:0≤b)(hb':b<4294967296):
    Calls Tryz.prog 115 #[.int .i64 op,.int .u32 a,.int .u32 b] w fun e w'=>e=.returned (.bool (holds op a b))∧w=w':=by
  go_enter Tryz.func115,Tryz.ntmps115
  go_wp2
  all_goals go_ret
  all_goals refine⟨Qf ?_,rfl⟩
  all_goals simp[holds, *]
theorem amo_any(op a b:Int)(w:World)(ha:0≤a)(ha':a<4294967296)(hb:0≤b)(hb':b<4294967296):
    Calls Tryz.prog 144 #[.int .i64 op,.int .u32 a,.int .u32 b] w fun e w'=>e=.returned (.int .u32 (amo op a b))∧w=w':=by
  go_enter Tryz.func144,Tryz.ntmps144
  go_wp2
  all_goals go_ret
  all_goals refine⟨qu ?_,rfl⟩
  all_goals simp only[beq_iff_eq,sH,ne_eq]at *
  all_goals first|(subst_vars;first|rfl|(simp[amo];done)|(simp[amo];omega))|(simp[amo, *];done)|(simp[amo, *];omega)
section
variable {cp hb ho : Nat} {vm : Value} {d : qF} {w : World}
theorem Jz(h:qK cp hb ho vm 40 w d)(wf:d.h.Wf)(k:Nat)(hk:k<32)(x:Int):
    Calls Tryz.prog 114 #[.pointer (some ⟨cp,0,none⟩),.int .i64 k,.int .u32 x] w fun e w'=>e=.returned (.tuple #[])∧qK cp hb ho vm 40 w' (d.set k x)∧Cgo cp hb ho vm 40 w w':=by
  have hp:=h.ptr
  have hc:=h.hart.get (qV wf k hk)
  have hf:=h.hfz (ho+k)
  have H:=lI h
  clear h
  go_enter Tryz.func114,Tryz.ntmps114
  by_cases hk0:k=0
  · subst hk0
    go_wp2_with fail
    go_end0
    refine⟨rfl, ?_,Cgo.refl _⟩
    have e:d.set ((0:Nat):Int) x=d:=by simp[qF.set,Hart.setReg]
    rw[e]
    exact H.out
  · have hk1:(0:Int)<k:=om
    go_wp2_with fail
    go_end0
    refine⟨rfl, ?_,Cgo.setHart _ k om _⟩
    have e:d.set (k:Int) x={d with h:={d.h with regs:=d.h.regs.set k x}}:=by simp[qF.set,Hart.setReg];omega
    rw[e]
    exact H.out.setHart k _ _ (UY wf.len k hk x) (by rw[qG wf];omega)
theorem Jk(h:qK cp hb ho vm 40 w d)(wf:d.h.Wf)(c:Int):
    Calls Tryz.prog 85 #[.pointer (some ⟨cp,0,none⟩),.int .i64 c] w fun e w'=>e=.returned (.tuple #[])∧qK cp hb ho vm 40 w' (d.trap c)∧Cgo cp hb ho vm 40 w w':=by
  have hp:=h.ptr
  have h35:=h.hart.get (ji wf)
  have h36:=h.hart.get (uI wf)
  have f35:=h.hfz (ho+35)
  have f36:=h.hfz (ho+36)
  have hne:=h.hbl
  have H:=lI h
  clear h
  go_enter Tryz.func85,Tryz.ntmps85
  go_wp2_with fail
  go_region
  all_goals go_wp2_with fail
  all_goals go_end0
  all_goals exact⟨rfl,((H.out.setHart 35 _ _ (Js wf.len 2) (by rw[qG wf];omega)).setHart 36 _ _ (hlist_setCause (h:={d.h with state:=2}) wf.len c) (by have:=qG wf;unfold qJ at *;simp at *;omega)).below (Below.drew br),((Cgo.setHart _ 35 om _).trans (Cgo.setHart _ 36 om _)).drew⟩
theorem cput_any(h:qK cp hb ho vm 40 w d)(wf:d.Wf)(op at_ x:Int)(ha:U32 at_)(hx:U32 x):
    Calls Tryz.prog 116 #[.pointer (some ⟨cp,0,none⟩),.int .i64 op,.int .u32 at_,.int .u32 x] w fun e w'=>e=.returned (.bool (qW d.m op at_))∧qK cp hb ho vm 40 w' (d.put op at_ x)∧Cgo cp hb ho vm 40 w w':=by
  have hp:=h.ptr
  have hm:=h.mem
  have hfr:=h.fr
  have htw:=h.tw
  have f3:=h.frz 3
  have f4:=h.frz 4
  have hne:=h.hbl
  have H:=lI h
  have HA:=lI ha
  have HX:=lI hx
  obtain⟨ao,cap,rfl,hc1,hc2,_,hopen⟩:=h.bytes.open
  clear h ha hx
  cases hok:qW d.m op at_ with
  | false =>
    have e:d.put op at_ x=d:=by unfold qF.put;rw[hok];rfl
    rw[e]
    have hc:=put_no ao d.m.length cap op at_ x w om HA.out hok
    go_enter Tryz.func116,Tryz.ntmps116
    go_wp2_with fail
    refine hc.mono ?_
    rintro e w' ⟨rfl,rfl⟩
    go_wp2_with fail
    go_ret
    exact⟨rfl,H.out,Cgo.refl _⟩
  | true =>
    have hpos:=storeOk_pos HA.out hok
    obtain⟨b,off,rfl,hbl,hcell⟩:=hopen (by intro e;rw[e]at hpos;simp at hpos)
    obtain⟨m1,m2,m3,m4⟩:=H.out.mfz b off _ _ rfl
    obtain⟨k,rfl⟩:=sQ HA.out.1
    have hc:=put_yes b off cap d.m op k x w om HA.out HX.out hok (fun i hi=>⟨_,hcell i hi⟩) (fun i _=>m4 _)
    have hk:k+(qP op).toNat≤d.m.length:=by
      simp[qW,there]at hok
      have:=HA.out.1
      omega
    have H2:=lI (H.out.putW k x (qP op).toNat hk hpos)
    have C2:Hid (Cgo cp hb ho (.slice (some ⟨b,off,none⟩) d.m.length cap) 40 w (putW w b off k x (qP op).toNat)):=lI (Cgo.putW w rfl m2 k x _)
    have HP:Hid (d.put op k x={d with m:=lay d.m k x (qP op).toNat,fr:=(k:Int),tw:=((k:Int)+qP op)%4294967296}):=lI (by
      unfold qF.put;rw[if_pos hok];congr 1;unfold Qh;rw[if_pos hok])
    have hop:op=16∨op=17∨op=18:=by simp[qW,stores]at hok;omega
    clear hcell hopen m1 m2 m3 m4 hp hm hfr htw f3 f4
    generalize putW w b off k x (qP op).toNat=w2 at *
    have hp:=H2.out.ptr
    have hm:=H2.out.mem
    have hfr:=H2.out.fr
    have htw:=H2.out.tw
    have f3:=H2.out.frz 3
    have f4:=H2.out.frz 4
    have hp0:=H.out.ptr
    have hm0:=H.out.mem
    have hku:=HA.out.2
    have ix0:∀W,(Instr.index 233 (.agg #[.int .u32 1,.int .u32 2,.int .u32 4]) (.int .i64 0)).run Tryz.prog W=.ok (.int .u32 1) W:=fun _=>by kernel_rfl
    have ix1:∀W,(Instr.index 233 (.agg #[.int .u32 1,.int .u32 2,.int .u32 4]) (.int .i64 1)).run Tryz.prog W=.ok (.int .u32 2) W:=fun _=>by kernel_rfl
    have ix2:∀W,(Instr.index 233 (.agg #[.int .u32 1,.int .u32 2,.int .u32 4]) (.int .i64 2)).run Tryz.prog W=.ok (.int .u32 4) W:=fun _=>by kernel_rfl
    rcases hop with rfl|rfl|rfl
    all_goals
      go_enter Tryz.func116,Tryz.ntmps116
      go_upto_region 1 with(fail)
      clear hp hm hfr htw f3 f4
      go_wp2_with fail
      refine hc.mono ?_
      rintro e w' ⟨rfl,rfl⟩
      clear hp0 hm0
      have hp:=H2.out.ptr
      have hfr:=H2.out.fr
      have htw:=H2.out.tw
      have f3:=H2.out.frz 3
      have f4:=H2.out.frz 4
      go_wp2_with fail
      go_ret
      refine⟨rfl, ?_,(C2.out.trans (Cgo.setCore _ hne _ _)).trans (Cgo.setCore _ hne _ _)⟩
      rw[HP.out]
      exact(H2.out.setFr _).setTo _
theorem call_any(h:qK cp hb ho vm 40 w d)(wf:d.Wf)(hlen:d.out.length<1099511627776):
    Calls Tryz.prog 120 #[.pointer (some ⟨cp,0,none⟩)] w fun e w'=>e=.returned (.bool (qt d).2)∧qK cp hb ho vm 40 w' (qt d).1∧Cgo cp hb ho vm 40 w w':=by
  have hp:=h.ptr
  have h17:=h.hart.get (qV wf.h 17 om)
  have h10:=h.hart.get (qV wf.h 10 om)
  have h35:=h.hart.get (ji wf.h)
  have f35:=h.hfz (ho+35)
  have f2:=h.frz 2
  have hne:=h.hbl
  have hlt:=h.lt
  have H:=lI h
  have hT:=lI (Jk h wf.h 5)
  have hC:qt d=if d.h.regs.getD 17 0=0 then({d with h:={d.h with state:=1}},false)else if d.h.regs.getD 17 0=1 then({d with out:=d.out++[d.h.regs.getD 10 0]},true)else(d.trap 5,false):=rfl
  rw[hC]
  clear hC h
  generalize d.h.regs.getD 17 0=x17 at *
  generalize d.h.regs.getD 10 0=x10 at *
  by_cases h0:x17=0
  · rw[if_pos h0]
    subst h0
    go_enter Tryz.func120,Tryz.ntmps120
    go_wp2_with fail
    go_ret
    exact⟨rfl,H.out.setHart 35 _ _ (Js wf.h.len 1) xI,Cgo.setHart _ 35 om _⟩
  · rw[if_neg h0]
    by_cases h1:x17=1
    · rw[if_pos h1]
      subst h1
      obtain⟨v,hv1,hv3⟩:=H.out.row
      have hfar:Hid (some cp≠v.ownBlock):=lI (fun e=>by have:=(hv3.lt cp e.symm).1;omega)
      have hlo:∀k,v.ownBlock=some k→cp+1≤k:=fun k e=>(hv3.lt k e).1
      have HLO:=lI hlo
      have H3:=lI hv3
      have HV:=lI (And.intro hv1 f2)
      obtain⟨i0,hi,hz0,hz1,hz2⟩:=info_parts (show(Tryz.prog.info? 40).map (fun i=>(i.zero,i.size,i.bytes))=some (some (.int .u32 0),1,4) by kernel_rfl)
      clear hv3 hlo
      go_enter Tryz.func120,Tryz.ntmps120
      go_wp2_with fail
      go_region_law (
        refine step_append_lies _ zM _ _ _ zM (cp+1) 40 i0 _ 1 4 Tryz.underlying36 hi hz0 hz1 hz2 rfl om v d.out.length _ zM ((H3.out.alloc _).drew)
            ⟨w.heap.size,0,none⟩ 1 1 [.int .u32 x10] zM zM (World.news_of_block (cs:=#[.int .u32 x10]) (t:=40) (fr:=(0,0)) (sP w _)) zY
            om yG om zN (w.heap.size+1) zC ?_
        intro gg cap w1 hown1 hgrow hat hgl
        have hc1:w1.cell? ⟨cp,2,none⟩=some v:=(hgrow.cell_far _ zN hfar.out).trans (by simp[World.cell?_alloc_some,HV.out.1])
        have hc0:w1.cell? ⟨cp,0,none⟩=some (.pointer (some ⟨hb,ho,none⟩)):=(hgrow.cell_far _ zN hfar.out).trans (by simp[World.cell?_alloc_some,hp])
        have hf1:w1.frozen? ⟨cp,2,none⟩=false:=(hgrow.frozen_far _ zN hfar.out).trans ((frozen_da (p:=⟨cp,2,none⟩) _ hlt).trans HV.out.2))
      all_goals
        go_wp2
        go_ret
        refine⟨rfl,H.out.append (((Below.alloc br om _).drew).grown hgrow zN HLO.out) (by simpa using hown1), ?_⟩
        exact(((Cgo.of_below (Below.alloc br (sN _) _) om).drew).trans (Cgo.grown hne ((H3.out.alloc _).drew) hgrow zN)).trans (Cgo.setCore _ hne _ _)
    · rw[if_neg h1]
      go_enter Tryz.func120,Tryz.ntmps120
      go_wp2_with fail
      refine hT.out.mono ?_
      rintro e w1 ⟨rfl,hc,hg⟩
      go_wp2_with fail
      go_ret
      exact⟨rfl,hc,hg⟩
end
end Go.Proofs.YtlfnddmncbkjaabGreatDoor.W
