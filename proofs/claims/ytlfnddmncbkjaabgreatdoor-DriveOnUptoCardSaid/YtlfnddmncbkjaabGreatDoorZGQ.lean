import Derived.Test.YtlfnddmncbkjaabGreatDoorZGH
set_option linter.unusedVariables false
set_option linter.unusedSimpArgs false
set_option maxRecDepth 100000
set_option maxHeartbeats 4000000
namespace Go.Proofs.YtlfnddmncbkjaabGreatDoor.W
open Go.RowKit Fb
theorem efind1_any(x:BlkD)(p:Int)(pb:Nat)(w:World)(hp:w.cell? ⟨pb,0,none⟩=some (.int .u32 p))(hx:∀u∈qo x,u.oneCell'=true):
    Calls Tryz.prog 82 #[.agg #[.int .u32 x.pc,x.vi],.pointer (some ⟨pb,0,none⟩)] w fun e w'=>e=.returned (.bool (x.pc==p))∧Below w.heap.size w w':=by
  have hl:pb<w.heap.size:=qD hp
  go_enter Tryz.func82,Tryz.ntmps82
  go_wp2_with fail
  go_ret
  exact⟨rfl,Fb.blw⟩
theorem eindexOf_any(v:Value)(l:List BlkD)(p:Int)(pb:Nat)(w:World)(hv:Blks w v l)(hp:w.cell? ⟨pb,0,none⟩=some (.int .u32 p)):
    Calls Tryz.prog 81 #[v,.func (.func 82) #[] #[.pointer (some ⟨pb,0,none⟩)]] w fun e w'=>e=.returned (.int .i64 (qu l p))∧Below w.heap.size w w':=by
  obtain⟨ao,cap,rfl,hc,hm,-,ho⟩:=hv.1.open (fun _ _=>rfl) om
  unfold maxLen at hm
  have HO:=lI ho
  have hlp:pb<w.heap.size:=qD hp
  have HA1:Hid (∀(x:BlkD),x∈l→∀W,Below w.heap.size w W→Calls Tryz.prog 82 #[.agg #[.int .u32 x.pc,x.vi],.pointer (some ⟨pb,0,none⟩)] W fun e w'=>e=.returned (.bool (x.pc==p))∧Below W.heap.size W w'):=lI (fun x hx W hW=>efind1_any x p pb W ((hW.cell (p:=⟨pb,0,none⟩) hlp).trans hp) (blist_one (hv.2 x hx)))
  obtain⟨r,hr⟩:∃r,r=qu l p:=⟨_,rfl⟩
  rw[←hr]
  have HR:=lI hr
  have HONE:Hid (∀x∈l,∃n cc ac,x.vi=.slice ac n cc):=lI (fun x hx=>by obtain⟨ac,cc,e,_⟩:=(hv.2 x hx).at_.open (fun _ _=>rfl) om;exact⟨_,cc,ac,e⟩)
  clear ho hv hr hp
  go_enter Tryz.func81,Tryz.ntmps81
  go_wp2_with fail
  go_loopw [8] (fun i wr=>∃k:Nat,i=.int .i64 k∧k≤l.length∧Hid (Below w.heap.size w wr∧∀j (hj:j<l.length),j<k→l[j].pc≠p)) (fun i _=>l.length-(intOf i).toNat)
  case atStart=>exact⟨0,rfl,om,lI ⟨Below.refl _ _,fun j _ hj=>om⟩⟩
  case round=>
    obtain⟨k,rfl,hk,HI⟩:=hrel
    by_cases hlt:k<l.length
    · obtain⟨b,off,rfl,hbl,hel⟩:=HO.out zQ
      have hat:=(hel k hlt).of_lt HI.out.1 hbl
      obtain⟨nn,cc,ac,hvi⟩:=HONE.out l[k] (sR hlt)
      have c0:=hat.get (j:=0) (v:=.int .u32 l[k].pc) rfl
      have c1:=hat.get (j:=1) (v:=l[k].vi) rfl
      simp only[Nat.add_zero]at c0
      rw[hvi]at c1
      have HN:Hid (l[k].pc=p→r=k):=lI (fun e=>HR.out.trans (placeI_at hlt e (fun j hj=>HI.out.2 j om hj)))
      have HG:Hid (l[k].pc≠p→∀j (hj:j<l.length),j<k+1→l[j].pc≠p):=lI (fun e j hj hj2=>by
        by_cases e2:j=k
        · subst e2;exact e
        · exact HI.out.2 j hj om)
      have HC:=lI (HA1.out l[k] (sR hlt) wr HI.out.1)
      rw[hvi]at HC
      have HB:=lI HI.out.1
      clear hel hat
      obtain⟨x,hx⟩:∃x,x=l[k].pc:=⟨_,rfl⟩
      rw[←hx]at c0 HN HG HC
      clear hx hvi
      go_wp2_with fail
      refine HC.out.mono ?_
      rintro e w2 ⟨rfl,hb2⟩
      have HB2:=lI (HB.out.trans (hb2.mono HB.out.size))
      clear hb2 c0 c1
      by_cases he:x=p
      · obtain rfl:=HN.out he
        have hbq:(x==p)=true:=by simpa using he
        rw[hbq]
        go_wp2_with fail
        go_ret
        exact⟨rfl,HB2.out⟩
      · have hbq:(x==p)=false:=by simpa using he
        rw[hbq]
        go_wp2_with fail
        exact⟨⟨k+1,by simp,om,lI ⟨HB2.out,HG.out he⟩⟩,by simp[intOf];omega⟩
    · obtain rfl:k=l.length:=om
      obtain rfl:=HR.out.trans (placeI_no (fun j hj=>HI.out.2 j hj hj))
      go_wp2_with fail
      go_ret
      exact⟨rfl,HI.out.1⟩
theorem estale1_any(x:BlkD)(fr tw:Int)(pb:Nat)(w:World)(h0:w.cell? ⟨pb,0,none⟩=some (.int .u32 fr))(h1:w.cell? ⟨pb,1,none⟩=some (.int .u32 tw))(hx:uO w x)(hl:x.ins.length≤3518437208883)(hf:U32 fr)(ht:U32 tw):
    Calls Tryz.prog 123 #[.agg #[.int .u32 x.pc,x.vi],.pointer (some ⟨pb,0,none⟩)] w fun e w'=>e=.returned (.bool (hasB x.pc x.ins.length fr tw))∧Below w.heap.size w w':=by
  have hlp:pb<w.heap.size:=qD h0
  obtain⟨ao,cap,hvi,-⟩:=hx.at_.open (fun _ _=>rfl) om
  obtain⟨w1,hw1⟩:∃w1,w1=w.alloc (.cells #[.int .u32 x.pc,.slice ao x.ins.length cap] 62):=⟨_,rfl⟩
  have hb1:Below w.heap.size w w1:=zI
  have c0:(w1).cell? ⟨w.heap.size,0,none⟩=some (.int .u32 x.pc):=zA
  have c1:(w1).cell? ⟨w.heap.size,1,none⟩=some (.slice ao x.ins.length cap):=zA
  have g0:=(hb1.cell (p:=⟨pb,0,none⟩) hlp).trans h0
  have g1:=(hb1.cell (p:=⟨pb,1,none⟩) hlp).trans h1
  have HH:=lI (chas_any x fr tw w1 (hx.below hb1) hl hf ht)
  rw[hvi]at HH ⊢
  have HW1:=lI hw1
  have HB1:=lI hb1
  clear hw1 hb1 hx h0 h1
  go_enter Tryz.func123,Tryz.ntmps123
  go_upto_region 1 with(fail)
  rw[←HW1.out]
  go_wp2_with fail
  refine HH.out.mono ?_
  rintro e w2 ⟨rfl,hb2⟩
  have HB2:=lI (HB1.out.trans (hb2.mono HB1.out.size))
  clear hb2
  go_wp2_with fail
  go_ret
  exact⟨rfl,HB2.out⟩
theorem eindexStale_any(v:Value)(l:List BlkD)(fr tw:Int)(pb:Nat)(w:World)(hv:Blks w v l)(h0:w.cell? ⟨pb,0,none⟩=some (.int .u32 fr))(h1:w.cell? ⟨pb,1,none⟩=some (.int .u32 tw))(hins:∀x∈l,x.ins.length≤3518437208883)(hf:U32 fr)(ht:U32 tw):
    Calls Tryz.prog 81 #[v,.func (.func 123) #[] #[.pointer (some ⟨pb,0,none⟩)]] w fun e w'=>e=.returned (.int .i64 (Jt (qp fr tw) l))∧Below w.heap.size w w':=by
  obtain⟨ao,cap,rfl,hc,hm,-,ho⟩:=hv.1.open (fun _ _=>rfl) om
  unfold maxLen at hm
  have HO:=lI ho
  have hlp:pb<w.heap.size:=qD h0
  have HA1:Hid (∀(x:BlkD),x∈l→∀W,Below w.heap.size w W→Calls Tryz.prog 123 #[.agg #[.int .u32 x.pc,x.vi],.pointer (some ⟨pb,0,none⟩)] W fun e w'=>e=.returned (.bool (hasB x.pc x.ins.length fr tw))∧Below W.heap.size W w'):=lI (fun x hx W hW=>estale1_any x fr tw pb W ((hW.cell (p:=⟨pb,0,none⟩) hlp).trans h0) ((hW.cell (p:=⟨pb,1,none⟩) hlp).trans h1) ((hv.2 x hx).below hW) (hins x hx) hf ht)
  obtain⟨r,hr⟩:∃r,r=Jt (qp fr tw) l:=⟨_,rfl⟩
  rw[←hr]
  have HR:=lI hr
  have HONE:Hid (∀x∈l,∃cc ac,x.vi=.slice ac x.ins.length cc):=lI (fun x hx=>by obtain⟨ac,cc,e,_⟩:=(hv.2 x hx).at_.open (fun _ _=>rfl) om;exact⟨cc,ac,e⟩)
  clear ho hv hr h0 h1 hins hf ht
  go_enter Tryz.func81,Tryz.ntmps81
  go_wp2_with fail
  go_loopw [8] (fun i wr=>∃k:Nat,i=.int .i64 k∧k≤l.length∧Hid (Below w.heap.size w wr∧∀j (hj:j<l.length),j<k→qp fr tw l[j]=false)) (fun i _=>l.length-(intOf i).toNat)
  case atStart=>exact⟨0,rfl,om,lI ⟨Below.refl _ _,fun j _ hj=>om⟩⟩
  case round=>
    obtain⟨k,rfl,hk,HI⟩:=hrel
    by_cases hlt:k<l.length
    · obtain⟨b,off,rfl,hbl,hel⟩:=HO.out zQ
      have hat:=(hel k hlt).of_lt HI.out.1 hbl
      obtain⟨cc,ac,hvi⟩:=HONE.out l[k] (sR hlt)
      have c0:=hat.get (j:=0) (v:=.int .u32 l[k].pc) rfl
      have c1:=hat.get (j:=1) (v:=l[k].vi) rfl
      simp only[Nat.add_zero]at c0
      rw[hvi]at c1
      have HN:Hid (qp fr tw l[k]=true→r=k):=lI (fun e=>HR.out.trans (firstI_at hlt e (fun j hj=>HI.out.2 j om hj)))
      have HG:Hid (qp fr tw l[k]=false→∀j (hj:j<l.length),j<k+1→qp fr tw l[j]=false):=lI (fun e j hj hj2=>by
        by_cases e2:j=k
        · subst e2;exact e
        · exact HI.out.2 j hj om)
      have HC:=lI (HA1.out l[k] (sR hlt) wr HI.out.1)
      rw[hvi]at HC
      have HB:=lI HI.out.1
      clear hel hat
      obtain⟨s,hs⟩:∃s,s=qp fr tw l[k]:=⟨_,rfl⟩
      rw[←hs]at HN HG
      have hs2:hasB l[k].pc l[k].ins.length fr tw=s:=hs.symm
      rw[hs2]at HC
      obtain⟨x,hx⟩:∃x,x=l[k].pc:=⟨_,rfl⟩
      obtain⟨nn,hnn⟩:∃n,n=l[k].ins.length:=⟨_,rfl⟩
      rw[←hx]at c0 HC
      rw[←hnn]at c1 HC
      clear hx hnn hs hs2 hvi
      go_wp2_with fail
      refine HC.out.mono ?_
      rintro e w2 ⟨rfl,hb2⟩
      have HB2:=lI (HB.out.trans (hb2.mono HB.out.size))
      clear hb2 c0 c1
      cases s with
      | true =>
        obtain rfl:=HN.out rfl
        go_wp2_with fail
        go_ret
        exact⟨rfl,HB2.out⟩
      | false =>
        go_wp2_with fail
        exact⟨⟨k+1,by simp,om,lI ⟨HB2.out,HG.out yS⟩⟩,by simp[intOf];omega⟩
    · obtain rfl:k=l.length:=om
      obtain rfl:=HR.out.trans (firstI_no (fun j hj=>HI.out.2 j hj hj))
      go_wp2_with fail
      go_ret
      exact⟨rfl,HI.out.1⟩
theorem firstI_bool(P:BlkD→Bool)(l:List BlkD):decide (Jt P l≥0)=l.any P:=by
  unfold Jt
  by_cases h:l.findIdx P<l.length
  · rw[if_pos h]
    have:l.any P=true:=List.any_eq_true.2 ⟨_,sR h,List.findIdx_getElem⟩
    rw[this]
    simp
  · rw[if_neg h]
    have:l.any P=false:=by
      rw[List.any_eq_false]
      intro x hx hp
      exact h (List.findIdx_lt_length_of_exists ⟨x,hx,hp⟩)
    rw[this]
    rfl
theorem econtains_any(v:Value)(l:List BlkD)(fr tw:Int)(pb:Nat)(w:World)(hv:Blks w v l)(h0:w.cell? ⟨pb,0,none⟩=some (.int .u32 fr))(h1:w.cell? ⟨pb,1,none⟩=some (.int .u32 tw))(hins:∀x∈l,x.ins.length≤3518437208883)(hf:U32 fr)(ht:U32 tw):
    Calls Tryz.prog 122 #[v,.func (.func 123) #[] #[.pointer (some ⟨pb,0,none⟩)]] w fun e w'=>e=.returned (.bool (l.any (qp fr tw)))∧Below w.heap.size w w':=by
  have HX:=lI (eindexStale_any v l fr tw pb w hv h0 h1 hins hf ht)
  have HB:=lI (firstI_bool (qp fr tw) l)
  obtain⟨r,hr⟩:∃r,r=Jt (qp fr tw) l:=⟨_,rfl⟩
  rw[←hr]at HX HB
  obtain⟨ao,cap,rfl,-⟩:=hv.1.open (fun _ _=>rfl) om
  clear hv h0 h1 hins hf ht hr
  go_enter Tryz.func122,Tryz.ntmps122
  go_wp2_with fail
  refine HX.out.mono ?_
  rintro e w2 ⟨rfl,hb2⟩
  go_wp2_with fail
  go_ret
  exact⟨by rw[←HB.out];rfl,hb2⟩
theorem cat_any(room:Int)(v:Value)(pu st:Int)(l:List BlkD)(p:Int)(w:World)(hv:Blks w v l):
    Calls Tryz.prog 111 #[.agg #[.int .i64 room,v,.int .i64 pu,.int .i64 st],.int .u32 p] w fun e w'=>e=.returned (.int .i64 (qu l p))∧Below w.heap.size w w':=by
  obtain⟨ao,cap,rfl,-⟩:=hv.1.open (fun _ _=>rfl) om
  obtain⟨w1,hw1⟩:∃w1,w1=(w.alloc (.cells #[.int .i64 room,.slice ao l.length cap,.int .i64 pu,.int .i64 st] 53)).alloc (.cells #[.int .u32 p] 40):=⟨_,rfl⟩
  have hb1:Below w.heap.size w w1:=zI
  have c1:w1.cell? ⟨w.heap.size,1,none⟩=some (.slice ao l.length cap):=zA
  have HX:=lI (indexOf_any (.slice ao l.length cap) l p (w.heap.size+1) w1 (hv.below hb1) zA)
  have HW1:=lI hw1
  have HB1:=lI hb1
  clear hw1 hb1 hv
  go_enter Tryz.func111,Tryz.ntmps111
  go_upto_region 1 with(fail)
  rw[←HW1.out]
  go_wp2_with fail
  refine HX.out.mono ?_
  rintro e w2 ⟨rfl,hb2⟩
  have HB2:=lI (HB1.out.trans (hb2.mono HB1.out.size))
  clear hb2 c1
  go_wp2_with fail
  go_ret
  exact⟨rfl,HB2.out⟩
theorem info_ins:(Tryz.prog.info? 91).map (fun i=>(i.zero,i.size,i.bytes))=some (some (.agg #[.int .i64 0,.int .i64 0,.int .i64 0,.int .i64 0,.int .i32 0]),5,40):=by kernel_rfl
theorem clone_ins(v:Value)(n:Nat)(xs:List Value)(w:World)(hv:Sl w v 5 n xs)(h1c:∀u∈xs,u.oneCell'=true)(hr:n*40≤140737488355328):
    Calls Tryz.prog 138 #[v] w fun e w'=>(∃v',e=.returned v'∧w'.ownsRow w.heap.size 91 5 v' n xs∧(v'=.slice none 0 0→v=.slice none 0 0))∧Below w.heap.size w w':=by
  obtain⟨hlen,ao,cap,rfl,hnc,hcm,hnone,hat⟩:=hv
  have heq:=fun(W:World) (m c:Nat)=>Lib.run_eql_slice_nil (P:=Tryz.prog) W 60 91 ao m c 0 0 Tryz.underlying60
  unfold maxLen at hcm
  cases ao with
  | none =>
    obtain rfl:cap=0:=hnone rfl
    obtain rfl:n=0:=om
    obtain rfl:xs=[]:=List.eq_nil_of_length_eq_zero (by simpa using hlen)
    clear hnone hat
    go_enter Tryz.func138,Tryz.ntmps138
    go_wp2
    go_ret
    exact⟨⟨_,rfl,World.ownsRow_nil _ _ _ _,by simp⟩,Below.refl _ _⟩
  | some a =>
    obtain⟨i0,hi,hz0,hz1,hz2⟩:=info_parts info_ins
    clear hnone
    have HAT:=lI hat
    have HL:=lI hlen
    have HC:=lI h1c
    clear hat hlen h1c
    go_enter Tryz.func138,Tryz.ntmps138
    go_wp2_with (at_builtin;refine wpList_append_own _ rfl _ _ 60 rfl w.heap.size 91 i0 (.agg #[.int .i64 0,.int .i64 0,.int .i64 0,.int .i64 0,.int .i32 0]) 5 40 Tryz.underlying60 hi hz0 hz1 hz2 rfl zF _ 0 [] rfl ?_ a n cap xs rfl HL.out ?_ HC.out ?_ ?_ ?_ ?_)
    rotate_right
    · intro v' w1 hown hgrow hnil
      go_wp2
      go_ret
      refine⟨⟨_,rfl, ?_, ?_⟩, ?_⟩
      · simpa using hown
      · intro h
        exact(hnil h).elim
      · exact(Below.alloc br (sN _) _).grown hgrow zC (by intro k hk;simp[Value.ownBlock]at hk;omega)
    all_goals(first|(unfold maxLen;omega)|omega|(simp;done)|skip)
    · exact uP _ _ _ _ (sN _)
    · intro j u hu
      have hj:j<xs.length:=(List.getElem?_eq_some_iff.1 hu).1
      have hne:xs≠[]:=yZ
      have h3:=(HAT.out a rfl hne)
      have h4:=h3.2 j hj
      have hu2:u=xs[j]:=by rw[sU hj]at hu;exact(Option.some.inj hu).symm
      rw[hu2,JY a h3.1,sI _ _ _ (qD h4)]
      exact h4
theorem ins_one(l:List InsD):∀u∈l.flatMap jJ,u.oneCell'=true:=fun u hu=>by
  obtain⟨i,_,hu⟩:=List.mem_flatMap.1 hu
  exact ilist_one i u hu
theorem cclone_any(x:BlkD)(w:World)(hx:uO w x)(hl:x.ins.length≤3518437208883):
    Calls Tryz.prog 113 #[.agg #[.int .u32 x.pc,x.vi]] w fun e w'=>(∃y:BlkD,e=.returned (.agg #[.int .u32 y.pc,y.vi])∧y.pc=x.pc∧y.ins=x.ins∧uO w' y∧w'.ownsRow (w.heap.size+2) 91 5 y.vi y.ins.length (y.ins.flatMap jJ))∧Below w.heap.size w w':=by
  obtain⟨pc,vi,ins⟩:=x
  have hat:=hx.at_
  have hpc:=hx.pc
  dsimp only at hat hpc hl ⊢
  obtain⟨ao,cap,rfl,-⟩:=hat.open (fun _ _=>rfl) om
  obtain⟨w1,hw1⟩:∃w1,w1=(w.alloc (.cells #[.int .u32 pc,.slice ao ins.length cap] 62)).alloc (.cells #[.int .u32 0,.slice none 0 0] 62):=⟨_,rfl⟩
  have hb1:Below w.heap.size w w1:=zI
  have hs1:w1.heap.size=w.heap.size+2:=zO
  have c0:(w1).cell? ⟨w.heap.size,0,none⟩=some (.int .u32 pc):=zA
  have c1:(w1).cell? ⟨w.heap.size,1,none⟩=some (.slice ao ins.length cap):=zA
  have f1:w1.frozen? ⟨w.heap.size,1,none⟩=false:=by
    have:w1.heap[w.heap.size]? =some (.cells #[.int .u32 pc,.slice ao ins.length cap] 62 (0,0)):=by rw[hw1,heap_alloc_old _ _ zC];exact sP _ _
    unfold World.frozen?;rw[this];simp
  have hZ:w1.heap[w.heap.size+1]? =some (.cells #[.int .u32 0,.slice none 0 0] 62 (0,0)):=by
    have:=sP (w.alloc (.cells #[.int .u32 pc,.slice ao ins.length cap] 62)) (.cells #[.int .u32 0,.slice none 0 0] 62)
    rw[World.size_alloc]at this
    rw[hw1];exact this
  have HCL:=lI (clone_ins (.slice ao ins.length cap) ins.length (ins.flatMap jJ) w1 (Sl.below hat hb1) (ins_one ins) om)
  have HW1:=lI hw1
  have HB1:=lI hb1
  have HZ:=lI hZ
  clear hw1 hb1 hx hat hZ
  go_enter Tryz.func113,Tryz.ntmps113
  go_upto_region 1 with(fail)
  rw[←HW1.out]
  go_wp2_with fail
  refine HCL.out.mono ?_
  rintro e w2 ⟨⟨v2,rfl,hown,-⟩,hb2⟩
  obtain⟨a2,c2,rfl⟩:=qE hown
  have l1:w.heap.size<w1.heap.size:=om
  have l2:w.heap.size+1<w1.heap.size:=om
  have d0:=(hb2.cell (p:=⟨w.heap.size,0,none⟩) l1).trans c0
  have d1:=(hb2.cell (p:=⟨w.heap.size,1,none⟩) l1).trans c1
  have g1:=(hb2.frozen (p:=⟨w.heap.size,1,none⟩) l1).trans f1
  have hZ2:=(hb2.block (w.heap.size+1) l2).trans HZ.out
  have z0:w2.cell? ⟨w.heap.size+1,0,none⟩=some (.int .u32 0):=by simp[World.cell?,hZ2]
  have z1:w2.cell? ⟨w.heap.size+1,1,none⟩=some (.slice none 0 0):=by simp[World.cell?,hZ2]
  have zf0:w2.frozen? ⟨w.heap.size+1,0,none⟩=false:=by simp[World.frozen?,hZ2]
  have zf1:w2.frozen? ⟨w.heap.size+1,1,none⟩=false:=by simp[World.frozen?,hZ2]
  have HO:=lI hown
  have HB2:=lI (HB1.out.trans (hb2.mono HB1.out.size))
  clear c0 c1 f1 hb2 hown hZ2
  go_wp2_with fail
  have y0:(w2.setCell ⟨w.heap.size,1,none⟩ (.slice a2 ins.length c2)).cell? ⟨w.heap.size+1,0,none⟩=some (.int .u32 0):=(sJ _ _ _ _ zS).trans z0
  have y1:(w2.setCell ⟨w.heap.size,1,none⟩ (.slice a2 ins.length c2)).cell? ⟨w.heap.size+1,1,none⟩=some (.slice none 0 0):=(sJ _ _ _ _ zS).trans z1
  have ho:=HO.out
  rw[hs1]at ho
  have ho2:=ownsRow_setCell_below (ownsRow_setCell_below (ownsRow_setCell_below ho (a:=⟨w.heap.size,1,none⟩) (by show w.heap.size<w.heap.size+2;omega) (.slice a2 ins.length c2)) (a:=⟨w.heap.size+1,0,none⟩) (by show w.heap.size+1<w.heap.size+2;omega) (.int .u32 pc)) (a:=⟨w.heap.size+1,1,none⟩) (by show w.heap.size+1<w.heap.size+2;omega) (.slice a2 ins.length c2)
  refine sO (UN zK _ zK (load_out2 y0 y1 Tryz.underlying62 rfl kr)) rfl ⟨⟨⟨pc,.slice a2 ins.length c2,ins⟩,rfl,rfl,rfl,⟨ql ho2,hpc⟩,ho2⟩, ?_⟩
  exact((HB2.out.setCell (p:=⟨w.heap.size,1,none⟩) (sN _) _).setCell (p:=⟨w.heap.size+1,0,none⟩) (by show w.heap.size≤w.heap.size+1;omega) _).setCell (p:=⟨w.heap.size+1,1,none⟩) (by show w.heap.size≤w.heap.size+1;omega) _
theorem info_block:(Tryz.prog.info? 62).map (fun i=>(i.zero,i.size,i.bytes))=some (some (.agg #[.int .u32 0,.slice none 0 0]),2,32):=by kernel_rfl
theorem ccopied_any(room:Int)(v:Value)(pu st:Int)(l:List BlkD)(w:World)(hv:Blks w v l)(hins:∀x∈l,x.ins.length≤3518437208883)(hl:l.length*32≤140737488351232):
    Calls Tryz.prog 110 #[.agg #[.int .i64 room,v,.int .i64 pu,.int .i64 st]] w fun e w'=>(∃v' ys,e=.returned (.agg #[.int .i64 room,v',.int .i64 pu,.int .i64 st])∧Cp (w.heap.size+2) 62 91 w' v' ys∧ys.map BlkD.abs=l.map BlkD.abs)∧Below w.heap.size w w':=by
  obtain⟨ao,cap,rfl,hc,hm,-,ho⟩:=hv.1.open (fun _ _=>rfl) om
  unfold maxLen at hm
  obtain⟨w1,hw1⟩:∃w1,w1=(w.alloc (.cells #[.int .i64 room,.slice ao l.length cap,.int .i64 pu,.int .i64 st] 53)).alloc (.cells #[.int .i64 0,.slice none 0 0,.int .i64 0,.int .i64 0] 53):=⟨_,rfl⟩
  have hb1:Below w.heap.size w w1:=zI
  have hs1:w1.heap.size=w.heap.size+2:=zO
  have hA:w1.heap[w.heap.size]? =some (.cells #[.int .i64 room,.slice ao l.length cap,.int .i64 pu,.int .i64 st] 53 (0,0)):=by rw[hw1,heap_alloc_old _ _ zC];exact sP _ _
  have hZ:w1.heap[w.heap.size+1]? =some (.cells #[.int .i64 0,.slice none 0 0,.int .i64 0,.int .i64 0] 53 (0,0)):=by
    have:=sP (w.alloc (.cells #[.int .i64 room,.slice ao l.length cap,.int .i64 pu,.int .i64 st] 53)) (.cells #[.int .i64 0,.slice none 0 0,.int .i64 0,.int .i64 0] 53)
    rw[World.size_alloc]at this
    rw[hw1];exact this
  have HA:=lI hA
  have HZ:=lI hZ
  have HW1:=lI hw1
  have HB1:=lI hb1
  have HV:=lI hv
  have HO:=lI ho
  have HL:=lI hl
  have HINS:=lI hins
  have c1:w1.cell? ⟨w.heap.size,1,none⟩=some (.slice ao l.length cap):=by simp[World.cell?,hA]
  have HCL:Hid (∀x∈l,∀W,Below w.heap.size w W→_):=lI (fun x hx W hW=>cclone_any x W ((hv.2 x hx).below hW) (hins x hx))
  have HONE:Hid (∀x∈l,∃cc ac,x.vi=.slice ac x.ins.length cc):=lI (fun x hx=>by obtain⟨ac,cc,e,_⟩:=(hv.2 x hx).at_.open (fun _ _=>rfl) om;exact⟨cc,ac,e⟩)
  have hln:l.length≤4398046510976:=om
  obtain⟨ib,hib,hb0,hb1',hby⟩:=info_parts info_block
  have hne:62≠91:=zF
  clear hw1 hb1 hv ho hins hA hZ hl
  go_enter Tryz.func110,Tryz.ntmps110
  go_upto_region 1 with(fail)
  rw[←HW1.out]
  go_wp2_with (first|(refine wpList_make_own _ rfl _ _ 51 rfl (w.heap.size+2) 62 ib _ 2 Tryz.underlying51 hib hb0 hb1' .i64 .i64 ((l.length:Int)+1) (l.length+1) rfl rfl zC ?_ ?_ ?_ ?_))
  rotate_right
  · intro w2 hown2 hgrow2
    have hb2':Below (w.heap.size+2) w1 w2:=by rw[←hs1];exact(Below.refl _ w1).grown hgrow2 (sN _) (by intro k hk;cases hk)
    have l1:w.heap.size<w.heap.size+2:=om
    have HA2:Hid (w2.heap[w.heap.size]? =_):=lI ((hb2'.block w.heap.size om).trans HA.out)
    have HZ2:Hid (w2.heap[w.heap.size+1]? =_):=lI ((hb2'.block (w.heap.size+1) om).trans HZ.out)
    have d1:w2.cell? ⟨w.heap.size,1,none⟩=some (.slice ao l.length cap):=by simp[World.cell?,HA2.out]
    have HB2:=lI (HB1.out.trans (hb2'.mono om))
    have HCP0:Hid (Cp (w.heap.size+2) 62 91 w2 (.slice (some ⟨w.heap.size+2,0,none⟩) 0 (l.length+1)) []):=lI ⟨hown2,fun y hy=>(by cases hy),fun y hy=>(by cases hy)⟩
    have HB12:=lI hb2'
    have hs2:w.heap.size+2≤w2.heap.size:=by have:=hb2'.size;omega
    clear hown2 hgrow2 hb2' c1
    go_wp2_with fail
    clear d1
    go_loopw [3,14] (fun x i wr=>∃(k:Nat) (ys:List BlkD),i=.int .i64 k∧k≤l.length∧ys.length=k∧w.heap.size+2≤wr.heap.size∧Hid (Cp (w.heap.size+2) 62 91 wr x ys∧ys.map BlkD.abs=(l.take k).map BlkD.abs∧Below (w.heap.size+2) w2 wr)) (fun _ i _=>l.length-(intOf i).toNat)
    case atStart=>exact⟨0,[],rfl,om,rfl,hs2,lI ⟨HCP0.out,rfl,Below.refl _ _⟩⟩
    case round=>
      obtain⟨k,ys,rfl,hk,hyl,hsz,HI⟩:=hrel
      by_cases hlt:k<l.length
      · obtain⟨b,off,rfl,hbl,hel⟩:=HO.out zQ
        have hat:=(hel k hlt).of_lt (HB2.out.trans (HI.out.2.2.mono om)) hbl
        obtain⟨cc,ac,hvi⟩:=HONE.out l[k] (sR hlt)
        have c0:=hat.get (j:=0) (v:=.int .u32 l[k].pc) rfl
        have c1:=hat.get (j:=1) (v:=l[k].vi) rfl
        simp only[Nat.add_zero]at c0
        rw[hvi]at c1
        have HT:Hid ((l.take (k+1)).map BlkD.abs=(l.take k).map BlkD.abs++[l[k].abs]):=lI (by rw[List.take_succ_eq_append_getElem hlt,List.map_append];rfl)
        have HCK:=lI (HCL.out l[k] (sR hlt))
        clear hel hat
        obtain⟨x,hx⟩:∃x,x=l[k]:=⟨_,rfl⟩
        rw[←hx]at c0 c1 hvi HT HCK
        clear hx
        obtain⟨w3,hw3⟩:∃w3,w3=wr.alloc (.cells #[.int .u32 x.pc,.slice ac x.ins.length cc] 62):=⟨_,rfl⟩
        have hb3:Below wr.heap.size wr w3:=by rw[hw3];exact Fb.blw
        have e0:(w3).cell? ⟨wr.heap.size,0,none⟩=some (.int .u32 x.pc):=yO
        have e1:(w3).cell? ⟨wr.heap.size,1,none⟩=some (.slice ac x.ins.length cc):=yO
        have hbb:Below w.heap.size w w3:=(HB2.out.trans (HI.out.2.2.mono om)).trans (hb3.mono om)
        have HC3:=lI (HCK.out w3 hbb)
        rw[hvi]at HC3
        have HCP3:=lI (HI.out.1.below hb3)
        have HB3:=lI (HI.out.2.2.trans (hb3.mono hsz))
        have hs3:=hb3.size
        have HW3:=lI hw3
        clear hw3 hb3 hbb HCK
        go_upto_region 5 with(fail)
        rw[←HW3.out]
        clear c0 c1
        go_wp2_with fail
        refine HC3.out.mono ?_
        rintro e w4 ⟨⟨y,rfl,hy1,hy2,hy3,hy4⟩,hb4⟩
        obtain⟨ay,cy,hyv,-⟩:=hy3.at_.open (fun _ _=>rfl) om
        have hpc:=hy3.pc
        have hrow:=qe hy4 (B':=w.heap.size+2) om
        rw[hyv]
        have hs4:=hb4.size
        have HCP4:=lI (HCP3.out.below hb4)
        have HB4:=lI (HB3.out.trans (hb4.mono om))
        have HROW:=lI hrow
        have HPC:=lI hpc
        have HYV:=lI hyv
        have HABS:Hid (y.abs=x.abs):=lI (by unfold BlkD.abs;rw[hy1,hy2])
        have hyl2:ys.length≤4398046510976:=om
        have hal:∀W,Below W.heap.size W (W.alloc (.cells #[.int .u32 y.pc,.slice ay y.ins.length cy] 62)):=fun W=>Below.alloc br (sN _) _
        have HSRC:Hid (Sl (w4.alloc (.cells #[.int .u32 y.pc,.slice ay y.ins.length cy] 62)) (.slice (some ⟨w4.heap.size,0,none⟩) 1 1) 2 1 (qo y)):=lI (by
          have:=at_new2 w4 (.int .u32 y.pc) (.slice ay y.ins.length cy) 62
          unfold qo;rw[hyv];exact this)
        clear hb4 hy1 hy2 hy3 hy4 hyv hpc hrow e0 e1
        go_wp2_with (first|(at_builtin;refine append_any rfl _ _ 51 rfl (w.heap.size+2) 62 ib _ 2 32 Tryz.underlying51 hib hb0 hb1' hby rfl zF u3 ys.length (ys.flatMap qo) rfl (qP HCP4.out.own (hal _)) (.slice (some ⟨w4.heap.size,0,none⟩) 1 1) 1 (qo y) rfl HSRC.out (blk1_one HROW.out) ?_ ?_ ?_ ?_))
        rotate_right
        · intro v5 w5 hown5 hgrow5
          have hown5:w5.ownsRow (w.heap.size+2) 62 2 v5 (ys.length+1) (ys.flatMap qo++qo y):=by rw[hyl];exact hown5
          have hcp5:=Cp.snoc hne (HCP4.out.below (hal _)) HPC.out (qP HROW.out (hal _)) hown5 hgrow5
          have hb5:Below (w.heap.size+2) w2 w5:=((HB4.out.trans ((hal w4).mono om)).grown hgrow5 zL (fun g e=>(HCP4.out.own.lt g e).1))
          have hs5:w4.heap.size≤w5.heap.size:=by have:=hgrow5.size;simp at this;omega
          have HCP5:=lI hcp5
          have HB5:=lI hb5
          clear hcp5 hb5 hown5 hgrow5
          go_wp2_with fail
          exact⟨⟨k+1,ys++[y],by simp,om,by simp[hyl],om,lI ⟨HCP5.out,by rw[List.map_append,HI.out.2.1,HT.out,List.map_cons,List.map_nil,HABS.out],HB5.out⟩⟩,by simp[intOf];omega⟩
        all_goals first
          |(unfold maxLen;omega)
          |(simp;omega)
          |omega
      · obtain rfl:k=l.length:=om
        have HYL:=lI hyl
        clear hyl
        have hA3:=(HI.out.2.2.block w.heap.size om).trans HA2.out
        have hZ3:=(HI.out.2.2.block (w.heap.size+1) om).trans HZ2.out
        obtain⟨ax,cx,rfl⟩:=qE HI.out.1.own
        have a0:(wr).cell? ⟨w.heap.size,0,none⟩=some (.int .i64 room):=by simp[World.cell?,hA3]
        have a1:(wr).cell? ⟨w.heap.size,1,none⟩=some (.slice ao l.length cap):=by simp[World.cell?,hA3]
        have a2:(wr).cell? ⟨w.heap.size,2,none⟩=some (.int .i64 pu):=by simp[World.cell?,hA3]
        have a3:(wr).cell? ⟨w.heap.size,3,none⟩=some (.int .i64 st):=by simp[World.cell?,hA3]
        have z0:(wr).cell? ⟨w.heap.size+1,0,none⟩=some (.int .i64 0):=by simp[World.cell?,hZ3]
        have z1:(wr).cell? ⟨w.heap.size+1,1,none⟩=some (.slice none 0 0):=by simp[World.cell?,hZ3]
        have z2:(wr).cell? ⟨w.heap.size+1,2,none⟩=some (.int .i64 0):=by simp[World.cell?,hZ3]
        have z3:(wr).cell? ⟨w.heap.size+1,3,none⟩=some (.int .i64 0):=by simp[World.cell?,hZ3]
        have af:wr.frozen? ⟨w.heap.size,1,none⟩=false:=by simp[World.frozen?,hA3]
        have zf:∀o,wr.frozen? ⟨w.heap.size+1,o,none⟩=false:=fun o=>by simp[World.frozen?,hZ3]
        have ht:wr.there (w.heap.size+1) 0 4:=qt hZ3 rfl
        have HT4:=lI ht
        clear hA3 hZ3 ht
        go_upto_region 8 with(fail)
        obtain⟨w6,hw6⟩:∃w6,w6=wr.setCell ⟨w.heap.size,1,none⟩ (.slice ax ys.length cx):=⟨_,rfl⟩
        rw[←hw6]
        have q0:w6.cell? ⟨w.heap.size,0,none⟩=some (.int .i64 room):=by rw[hw6];exact(sJ _ _ _ _ zD).trans a0
        have q1:w6.cell? ⟨w.heap.size,1,none⟩=some (.slice ax ys.length cx):=by rw[hw6];exact sK _ _ _ a1
        have q2:w6.cell? ⟨w.heap.size,2,none⟩=some (.int .i64 pu):=by rw[hw6];exact(sJ _ _ _ _ zD).trans a2
        have q3:w6.cell? ⟨w.heap.size,3,none⟩=some (.int .i64 st):=by rw[hw6];exact(sJ _ _ _ _ zD).trans a3
        have ht6:w6.there (w.heap.size+1) 0 (#[.int .i64 room,.slice ax ys.length cx,.int .i64 pu,.int .i64 st]:Array Value).size:=by
          rw[hw6];exact there_block HT4.out (sT _ _ _ _ (by show w.heap.size+1≠w.heap.size;omega))
        have hsz6:(Tryz.prog.info? 53).map (·.size)=some (#[.int .i64 room,.slice ax ys.length cx,.int .i64 pu,.int .i64 st]:Array Value).size:=yD
        have hall:(#[.int .i64 room,.slice ax ys.length cx,.int .i64 pu,.int .i64 st]:Array Value).all (·.oneCell')=true:=zT
        have hld:=QQ (P:=Tryz.prog) ht6 Tryz.underlying53 rfl hsz6
        have HCP6:Hid (Cp (w.heap.size+2) 62 91 w6 (.slice ax ys.length cx) ys):=lI (by rw[hw6];exact HI.out.1.set (by show w.heap.size<w.heap.size+2;omega) _)
        have HB6:Hid (Below w.heap.size w w6):=lI (by rw[hw6];exact(HB2.out.trans (HI.out.2.2.mono om)).setCell (p:=⟨w.heap.size,1,none⟩) (sN _) _)
        clear hw6 a0 a1 a2 a3 z0 z1 z2 z3 af zf
        go_wp2_with (first|(refine wpList_store_mid rfl 53 _ _ rfl (w.heap.size+1) 0 #[.int .i64 room,.slice ax ys.length cx,.int .i64 pu,.int .i64 st] rfl rfl ht6 hsz6 hall ?_))
        refine sO (UN zK _ zK hld) rfl ⟨⟨_,rfl,ys,HCP6.out.sets om _ _,by rw[HI.out.2.1,List.take_length]⟩,qL om _ _ _ HB6.out⟩
  all_goals first
    |(unfold maxLen;omega)
    |(rw[hby];omega)
    |omega
end Go.Proofs.YtlfnddmncbkjaabGreatDoor.W
