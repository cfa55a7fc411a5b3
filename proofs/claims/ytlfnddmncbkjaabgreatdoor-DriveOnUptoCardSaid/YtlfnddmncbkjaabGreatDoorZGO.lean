import Derived.Test.YtlfnddmncbkjaabGreatDoorZGM
set_option linter.unusedVariables false
set_option linter.unusedSimpArgs false
set_option maxRecDepth 100000
set_option maxHeartbeats 4000000
namespace Go.Proofs.YtlfnddmncbkjaabGreatDoor.W
open Go.RowKit Fb
theorem box_hart(h:Hart)(w:World)(t:TypeId):At (w.alloc (.cells (qQ h) t)) w.heap.size 0 (qJ h):=QN w (qJ h) t (0,0)
theorem may_any(h:Hart)(wf:h.Wf)(w:World):
    Calls Tryz.prog 48 #[.agg (qQ h)] w fun e w'=>e=.returned (.bool h.ok)∧Below w.heap.size w w':=by
  have hb:=box_hart h w 43
  have c0:(w.alloc (.cells (qQ h) 43)).cell? ⟨w.heap.size,0,none⟩=some (.int .u32 (h.regs.getD 0 0)):=hb.get (j:=0) (JB wf 0 om)
  have c33:(w.alloc (.cells (qQ h) 43)).cell? ⟨w.heap.size,33,none⟩=some (.bool h.held):=by simpa using hb.get (jh wf)
  have c34:(w.alloc (.cells (qQ h) 43)).cell? ⟨w.heap.size,34,none⟩=some (.int .u32 h.heldAt):=by simpa using hb.get (jl wf)
  have c35:(w.alloc (.cells (qQ h) 43)).cell? ⟨w.heap.size,35,none⟩=some (.int .i64 h.state):=by simpa using hb.get (jg wf)
  have c36:(w.alloc (.cells (qQ h) 43)).cell? ⟨w.heap.size,36,none⟩=some (.int .i64 h.cause):=by simpa using hb.get (uH wf)
  have HOK:=lI (show h.ok=((h.regs.getD 0 0==0)&&(h.held||h.heldAt==0)&&((h.state==2&&decide (1≤h.cause)&&decide (h.cause≤6))||((h.state==0||h.state==1)&&h.cause==0)))from rfl)
  generalize h.ok=ok at *
  generalize h.regs.getD 0 0=r0 at *
  generalize h.held=hd at *
  generalize h.heldAt=ha at *
  generalize h.state=st at *
  generalize h.cause=ca at *
  clear hb
  go_enter Tryz.func48,Tryz.ntmps48
  go_wp2
  all_goals go_ret
  all_goals refine⟨Qe ?_,by go_grown⟩
  all_goals rw[HOK.out]
  all_goals clear HOK c0 c33 c34 c35 c36
  all_goals(try simp only[beq_iff_eq,sH,ne_eq]at *)
  all_goals first|(simp[*];done)|(simp[*];omega)|(rw[Bool.eq_iff_iff];simp[*];omega)|(simp_all;done)|(simp_all;omega)
theorem dB{p:Prop}(h:p:=by
 go_enter Tryz.func27,Tryz.ntmps27
 go_wp2
 all_goals go_ret
 all_goals exact⟨by first|rfl|(rw[W];rfl),by go_grown⟩):p:=h
theorem dC{p:Prop}(h:p:=by
 rw[List.any_eq_false]
 intro h hh
 obtain⟨j,hj,rfl⟩:=List.getElem_of_mem hh
 simp[hok.out j hj om]):p:=h
theorem uD(vm vh vs:Value)(m:Mach)(wf:m.Wf)(script:List (Int × Int))(w:World)(hm:jw w vm vh m)(hs:Picks w vs script)(hp:∀p∈script,QY p.1∧QY p.2):
    Calls Tryz.prog 27 #[.agg #[vm,vh],vs] w fun e w'=>e=.returned (.int .i64 (qj m script))∧Below w.heap.size w w':=by
  obtain⟨aom,capm,rfl,hcm,hmm,_,_⟩:=hm.1.open
  obtain⟨aoh,caph,rfl,hch,hmh,_,hoh⟩:=hm.2.open (fun h hh=>qG (wf.harts h hh)) om
  obtain⟨aos,caps,rfl,hcs,hms,_,hos⟩:=hs.open (fun _ _=>rfl) om
  unfold maxLen at hmm hmh hms
  by_cases c1:4096<m.mem.length
  · have W:qj m script=2:=by simp[qj,c1]
    exact dB
  by_cases c2:m.harts.length<1
  · have W:qj m script=2:=by simp[qj,c2]
    exact dB
  by_cases c3:4<m.harts.length
  · have W:qj m script=2:=by simp[qj,c3]
    exact dB
  go_enter Tryz.func27,Tryz.ntmps27
  go_wp2_with fail
  have hc0:(w.alloc (.cells #[.slice aom m.mem.length capm,.slice aoh m.harts.length caph] 30)).cell? ⟨w.heap.size,1,none⟩=some (.slice aoh m.harts.length caph):=by go_cell
  have hb0:Below w.heap.size w (w.alloc (.cells #[.slice aom m.mem.length capm,.slice aoh m.harts.length caph] 30)):=by go_grown
  have hs0:(w.alloc (.cells #[.slice aom m.mem.length capm,.slice aoh m.harts.length caph] 30)).heap.size=w.heap.size+1:=zC
  generalize w.alloc (.cells #[.slice aom m.mem.length capm,.slice aoh m.harts.length caph] 30)=w1 at *
  have HO:=lI hoh
  have HS:=lI hos
  clear hoh hos
  go_loopw [28] (fun i wr=>∃k:Nat,i=.int .i64 k∧k≤m.harts.length∧Hid (∀j (h:j<m.harts.length),j<k→m.harts[j].ok=true)∧∃w2,wr=w2∧Below w1.heap.size w1 w2) (fun i _=>m.harts.length-(intOf i).toNat)
  case atStart=>exact⟨0,rfl,om,lI (by intro j h hj;omega),_,rfl,Below.refl _ _⟩
  case round=>
    obtain⟨k,rfl,hk,hok,w2,rfl,hbr⟩:=hrel
    have hb2:=hb0.trans (hbr.mono om)
    by_cases hlt:k<m.harts.length
    · obtain⟨b,off,rfl,hbl,hel⟩:=HO.out zQ
      have hat:At wr b (off+k*37) (qJ m.harts[k]):=(hel k hlt).below hb2
      clear hel
      have wfk:m.harts[k].Wf:=wf.harts _ (sR hlt)
      have hsz:(Tryz.prog.info? 43).map (·.size)=some (qQ m.harts[k]).size:=by rw[Ql wfk];kernel_rfl
      have hbox:=box_hart m.harts[k] wr 43
      go_wp2_with (first|(refine Qb rfl 43 _ rfl b (off+k*37) rfl (qQ m.harts[k]) _ hat Tryz.underlying43 rfl hsz ?_)|(refine jE rfl 43 _ _ rfl wr _ (qQ m.harts[k]) rfl rfl rfl hsz (by rw[Ql wfk];rfl) (jY _) ?_)|(refine Qb rfl 43 _ rfl wr.heap.size 0 rfl (qQ m.harts[k]) _ hbox Tryz.underlying43 rfl hsz ?_))
      refine(may_any m.harts[k] wfk _).mono ?_
      rintro e w3 ⟨rfl,hb3⟩
      have hb4:Below w1.heap.size w1 w3:=hbr.trans (Below.trans (Below.alloc br hbr.size _) (hb3.mono (by simp;have:=hbr.size;omega)))
      cases hko:m.harts[k].ok with
      | false =>
        have W:qj m script=2:=by
          have:m.harts.any (fun h=> !h.ok)=true:=List.any_eq_true.2 ⟨m.harts[k],sR hlt,by simp[hko]⟩
          simp[qj,c1,c2,c3,this]
        clear hok HO HS hat hbox hsz hm hs
        go_wp2
        go_ret
        exact⟨by first|rfl|(rw[W];rfl),hb0.trans (hb4.mono om)⟩
      | true =>
        have hok2:Hid (∀j (h:j<m.harts.length),j<k+1→m.harts[j].ok=true):=lI (fun j h hj=>if e:j=k then by subst e;exact hko else hok.out j h om)
        clear hok HO HS hat hbox hsz hm hs
        go_wp2
        go_roundw
        case rel=>exact⟨k+1,by go_num,om,hok2,_,rfl,hb4⟩
        case measure=>simp[intOf];omega
    · have hall:m.harts.any (fun h=> !h.ok)=false:=by
        exact dC
      have hkn:k=m.harts.length:=om
      subst hkn
      have hcm1:=(hbr.cell (p:=⟨w.heap.size,1,none⟩) zN).trans hc0
      have hb5:=hb0.trans (hbr.mono om)
      have hsz5:=hbr.size
      clear hok HO hm hc0 hb2
      by_cases c4:300<script.length
      · have W:qj m script=1:=by simp[qj,c1,c2,c3,hall,c4]
        clear HS hs
        go_wp2
        go_ret
        exact⟨by first|rfl|(rw[W];rfl),hb5⟩
      go_wp2_with fail
      obtain⟨wo,rfl⟩:∃wo:World,wo=wr:=⟨_,rfl⟩
      have hlt5:w.heap.size<wo.heap.size:=om
      go_loopw [41] (fun i wx=>∃k:Nat,i=.int .i64 k∧k≤script.length∧Hid (∀j (h:j<script.length),j<k→js m.harts.length script[j]=false)∧∃w2,wx=w2∧Below wo.heap.size wo w2) (fun i _=>script.length-(intOf i).toNat)
      case atStart=>exact⟨0,rfl,om,lI (by intro j h hj;omega),_,rfl,Below.refl _ _⟩
      case round=>
        obtain⟨k,rfl,hk,hok,wq,hwq,hbq⟩:=hrel
        subst hwq
        have hcq:=(hbq.cell (p:=⟨w.heap.size,1,none⟩) hlt5).trans hcm1
        have hb6:=hb5.trans (hbq.mono hb5.size)
        have hsz6:wo.heap.size≤wr.heap.size:=hbq.size
        have hlt6:w.heap.size<wr.heap.size:=om
        clear hcm1
        by_cases hlt:k<script.length
        · obtain⟨b,off,rfl,hbl,hel⟩:=HS.out zQ
          have hat:=(hel k hlt).below hb6
          have d0:=hat.get (j:=0) (v:=.int .i64 script[k].1) rfl
          have d1:=hat.get (j:=1) (v:=.int .i64 script[k].2) rfl
          simp only[Nat.add_zero]at d0
          obtain⟨⟨q1,q2⟩,q3,q4⟩:=hp _ (sR hlt)
          have HB:Hid (js m.harts.length script[k]=(decide (script[k].1<0)||decide ((m.harts.length:Int)≤script[k].1)||decide (script[k].2<0)||decide (400<script[k].2))):=lI rfl
          have hok2:Hid (js m.harts.length script[k]=false→∀j (h:j<script.length),j<k+1→js m.harts.length script[j]=false):=lI (fun hf j h hj=>if e:j=k then by subst e;exact hf else hok.out j h om)
          have W:Hid (js m.harts.length script[k]=true→qj m script=3):=lI (fun hf=>by
            have:script.any (js m.harts.length)=true:=List.any_eq_true.2 ⟨script[k],sR hlt,hf⟩
            simp[qj,c1,c2,c3,hall,c4,this])
          clear hel hok HS hs hp hat
          generalize js m.harts.length script[k]=bad at *
          generalize script[k].1=x at *
          generalize script[k].2=y at *
          go_wp2
          all_goals first
            | (go_ret
               refine⟨?_,hb6.trans (by go_grown)⟩
               have hbt:bad=true:=by rw[HB.out];clear HB W;simp[*];try omega
               have hw:=W.out hbt
               first|rfl|(rw[hw];rfl))
            | (go_roundw
               case rel=>
                have hbt:bad=false:=by rw[HB.out];clear HB W;simp;omega
                exact⟨k+1,by go_num,om,lI (hok2.out hbt),_,rfl,hbq.trans (by go_grown)⟩
               case measure=>simp[intOf];omega)
        · have hall2:script.any (js m.harts.length)=false:=by
            exact dC
          have W:qj m script=0:=by simp[qj,c1,c2,c3,hall,c4,hall2]
          clear hok HS hs
          go_wp2
          go_ret
          exact⟨by first|rfl|(rw[W];rfl),hb6⟩
end Go.Proofs.YtlfnddmncbkjaabGreatDoor.W
