import Derived.Test.YtlfnddmncbkjaacGreatZMB
set_option linter.unusedVariables false
set_option linter.unusedSimpArgs false
set_option maxRecDepth 100000
set_option maxHeartbeats 4000000
namespace Go.Proofs.YtlfnddmncbkjaacGreat.W
open Go.RowKit Fb
theorem cnew_any(room:Int)(w:World)(hr:QW room):
    Calls Tryz.prog 12 #[.int .i64 room] w fun e w'=>e=.returned (.tuple #[.agg #[.int .i64 (if room<0∨64<room then 0 else room),.slice none 0 0,.int .i64 0,.int .i64 0],.int .i64 (if room<0∨64<room then 3 else 0)])∧Below w.heap.size w w':=by
  by_cases h:room<0∨64<room
  · rw[if_pos h,if_pos h]
    rcases h with h|h
    · go_enter Tryz.func12,Tryz.ntmps12
      go_wp2_with fail
      exact sP (QK zP _ zP (load_new w _ _ Tryz.underlying35 rfl kr)) rfl ⟨rfl,Fb.blw⟩
    · have h0:¬room<0:=om
      go_enter Tryz.func12,Tryz.ntmps12
      go_wp2_with fail
      exact sP (QK zP _ zP (load_new w _ _ Tryz.underlying35 rfl kr)) rfl ⟨rfl,Fb.blw⟩
  · rw[if_neg h,if_neg h]
    have h0:¬room<0:=om
    have h1:¬64<room:=om
    clear h
    go_enter Tryz.func12,Tryz.ntmps12
    go_wp2_with fail
    exact sP (QK zP _ zP (load_new w _ _ Tryz.underlying35 rfl kr)) rfl ⟨rfl,Fb.blw⟩
theorem at1_any(x:BlkD)(p:Int)(pb:Nat)(w:World)(hp:w.cell? ⟨pb,0,none⟩=some (.int .u32 p))(hx:∀u∈qw x,u.oneCell'=true):
    Calls Tryz.prog 90 #[.agg #[.int .u32 x.pc,x.vi],.pointer (some ⟨pb,0,none⟩)] w fun e w'=>e=.returned (.bool (x.pc==p))∧Below w.heap.size w w':=by
  have hl:pb<w.heap.size:=qH hp
  go_enter Tryz.func90,Tryz.ntmps90
  go_wp2_with fail
  go_ret
  exact⟨rfl,Fb.blw⟩
theorem indexOf_any(v:Value)(l:List BlkD)(p:Int)(pb:Nat)(w:World)(hv:Blks w v l)(hp:w.cell? ⟨pb,0,none⟩=some (.int .u32 p)):
    Calls Tryz.prog 38 #[v,.func (.func 90) #[] #[.pointer (some ⟨pb,0,none⟩)]] w fun e w'=>e=.returned (.int .i64 (QE l p))∧Below w.heap.size w w':=by
  obtain⟨ao,cap,rfl,hc,hm,-,ho⟩:=hv.1.open (fun _ _=>rfl) om
  unfold maxLen at hm
  have HO:=lI ho
  have hlp:pb<w.heap.size:=qH hp
  have HA1:Hid (∀(x:BlkD),x∈l→∀W,Below w.heap.size w W→Calls Tryz.prog 90 #[.agg #[.int .u32 x.pc,x.vi],.pointer (some ⟨pb,0,none⟩)] W fun e w'=>e=.returned (.bool (x.pc==p))∧Below W.heap.size W w'):=lI (fun x hx W hW=>at1_any x p pb W ((hW.cell (p:=⟨pb,0,none⟩) hlp).trans hp) (blist_one (hv.2 x hx)))
  obtain⟨r,hr⟩:∃r,r=QE l p:=⟨_,rfl⟩
  rw[←hr]
  have HR:=lI hr
  have HONE:Hid (∀x∈l,∃n cc ac,x.vi=.slice ac n cc):=lI (fun x hx=>by obtain⟨ac,cc,e,_⟩:=(hv.2 x hx).at_.open (fun _ _=>rfl) om;exact⟨_,cc,ac,e⟩)
  clear ho hv hr hp
  go_enter Tryz.func38,Tryz.ntmps38
  go_wp2_with fail
  go_loopw [8] (fun i wr=>∃k:Nat,i=.int .i64 k∧k≤l.length∧Hid (Below w.heap.size w wr∧∀j (hj:j<l.length),j<k→l[j].pc≠p)) (fun i _=>l.length-(intOf i).toNat)
  case atStart=>exact⟨0,rfl,om,lI ⟨Below.refl _ _,fun j _ hj=>om⟩⟩
  case round=>
    obtain⟨k,rfl,hk,HI⟩:=hrel
    by_cases hlt:k<l.length
    · obtain⟨b,off,rfl,hbl,hel⟩:=HO.out zR
      have hat:=(hel k hlt).of_lt HI.out.1 hbl
      obtain⟨nn,cc,ac,hvi⟩:=HONE.out l[k] (sU hlt)
      have c0:=hat.get (j:=0) (v:=.int .u32 l[k].pc) rfl
      have c1:=hat.get (j:=1) (v:=l[k].vi) rfl
      simp only[sN]at c0
      rw[hvi]at c1
      have HN:Hid (l[k].pc=p→r=k):=lI (fun e=>HR.out.trans (placeI_at hlt e (fun j hj=>HI.out.2 j om hj)))
      have HG:Hid (l[k].pc≠p→∀j (hj:j<l.length),j<k+1→l[j].pc≠p):=lI (fun e j hj hj2=>by
        by_cases e2:j=k
        · subst e2;exact e
        · exact HI.out.2 j hj om)
      have HC:=lI (HA1.out l[k] (sU hlt) wr HI.out.1)
      rw[hvi]at HC
      have HB:=lI HI.out.1
      clear hel hat
      obtain⟨x,hx⟩:∃x,x=l[k].pc:=⟨_,rfl⟩
      rw[←hx]at c0 HN HG HC
      clear hx hvi
      go_wp2_with fail
      refine HC.out.mono ?_
      rintro e w2 ⟨rfl,hb2⟩
      have HB2:=lI (HB.out.trans (hb2.mono HB.out.size))
      clear hb2 c0 c1
      by_cases he:x=p
      · obtain rfl:=HN.out he
        have hbq:(x==p)=true:=by simpa using he
        rw[hbq]
        go_wp2_with fail
        go_ret
        exact⟨rfl,HB2.out⟩
      · have hbq:(x==p)=false:=by simpa using he
        rw[hbq]
        go_wp2_with fail
        exact⟨⟨k+1,by simp,om,lI ⟨HB2.out,HG.out he⟩⟩,by simp[intOf];omega⟩
    · obtain rfl:k=l.length:=om
      obtain rfl:=HR.out.trans (placeI_no (fun j hj=>HI.out.2 j hj hj))
      go_wp2_with fail
      go_ret
      exact⟨rfl,HI.out.1⟩
end Go.Proofs.YtlfnddmncbkjaacGreat.W
namespace Go.Proofs.YtlfnddmncbkjaacGreat.Fb
open Go.RowKit
def hasB(pc:Int)(n:Nat)(fr tw:Int):Bool:=decide (max pc fr<min (pc+4*(n:Int)) tw)
def QC(fr tw:Int)(x:BlkD):Bool:=hasB x.pc x.ins.length fr tw
def uL(P:BlkD→Bool)(l:List BlkD):Int:=if l.findIdx P<l.length then(l.findIdx P:Int)else -1
theorem firstI_at{P:BlkD→Bool}{l:List BlkD}{k:Nat}(hk:k<l.length)(h:P l[k]=true)(hn:∀j (hj:j<k),P l[j]=false):uL P l=k:=by
  have e:l.findIdx P=k:=by
    refine Nat.le_antisymm ?_ ?_
    · refine Nat.le_of_not_lt (fun hlt=> ?_)
      have:=List.not_of_lt_findIdx hlt
      simp[h]at this
    · refine Nat.le_of_not_lt (fun hlt=> ?_)
      have h2:l.findIdx P<l.length:=om
      have:P l[l.findIdx P]=true:=List.findIdx_getElem (w:=h2)
      rw[hn _ hlt]at this;cases this
  unfold uL;rw[e,if_pos hk]
theorem firstI_no{P:BlkD→Bool}{l:List BlkD}(hn:∀j (hj:j<l.length),P l[j]=false):uL P l= -1:=by
  unfold uL
  rw[if_neg]
  intro h
  have:P l[l.findIdx P]=true:=List.findIdx_getElem (w:=h)
  rw[hn _ h]at this;cases this
end Go.Proofs.YtlfnddmncbkjaacGreat.Fb
namespace Go.Proofs.YtlfnddmncbkjaacGreat.W
open Go.RowKit Fb
theorem chas_any(x:BlkD)(fr tw:Int)(w:World)(hx:uU w x)(hl:x.ins.length≤3518437208883)(hf:U32 fr)(ht:U32 tw):
    Calls Tryz.prog 82 #[.agg #[.int .u32 x.pc,x.vi],.agg #[.int .u32 fr,.int .u32 tw]] w fun e w'=>e=.returned (.bool (hasB x.pc x.ins.length fr tw))∧Below w.heap.size w w':=by
  obtain⟨pc,vi,ins⟩:=x
  have hpc:=hx.pc
  obtain⟨ao,cap,e,-⟩:=hx.at_.open (fun _ _=>rfl) om
  dsimp only at hpc hl e ⊢
  subst e
  obtain⟨p,rfl⟩:=sS hpc.1
  obtain⟨f,rfl⟩:=sS hf.1
  obtain⟨t,rfl⟩:=sS ht.1
  have hp1:p<4294967296:=by have:=hpc.2;omega
  have hf1:f<4294967296:=by have:=hf.2;omega
  have ht1:t<4294967296:=by have:=ht.2;omega
  clear hx hpc hf ht
  generalize ins.length=n at *
  obtain⟨w1,hw1⟩:∃w1,w1=(w.alloc (.cells #[.int .u32 p,.slice ao n cap] 65)).alloc (.cells #[.int .u32 f,.int .u32 t] 108):=⟨_,rfl⟩
  have hb1:Below w.heap.size w w1:=zK
  have c0:(w1).cell? ⟨w.heap.size,0,none⟩=some (.int .u32 p):=zA
  have c1:(w1).cell? ⟨w.heap.size,1,none⟩=some (.slice ao n cap):=zA
  have d0:(w1).cell? ⟨w.heap.size+1,0,none⟩=some (.int .u32 f):=zA
  have d1:(w1).cell? ⟨w.heap.size+1,1,none⟩=some (.int .u32 t):=zA
  have HW1:=lI hw1
  have HB1:=lI hb1
  clear hw1 hb1
  obtain⟨r,hr⟩:∃r,r=hasB (p:Int) n (f:Int) (t:Int):=⟨_,rfl⟩
  rw[←hr]
  have HR:=lI hr
  clear hr
  go_enter Tryz.func82,Tryz.ntmps82
  go_upto_region 1 with(fail)
  rw[←HW1.out]
  go_quiet (fail)
  go_wp2_with fail
  all_goals
    go_ret
    refine⟨?_,qC HB1.out _⟩
    rw[HR.out]
    refine congrArg (fun b=>Ending.returned (Value.bool b)) (decide_eq_decide.2 ?_)
    omega
theorem stale1_any(x:BlkD)(fr tw:Int)(pb:Nat)(w:World)(h0:w.cell? ⟨pb,0,none⟩=some (.int .u32 fr))(h1:w.cell? ⟨pb,1,none⟩=some (.int .u32 tw))(hx:uU w x)(hl:x.ins.length≤3518437208883)(hf:U32 fr)(ht:U32 tw):
    Calls Tryz.prog 110 #[.agg #[.int .u32 x.pc,x.vi],.pointer (some ⟨pb,0,none⟩)] w fun e w'=>e=.returned (.bool (hasB x.pc x.ins.length fr tw))∧Below w.heap.size w w':=by
  have hlp:pb<w.heap.size:=qH h0
  obtain⟨ao,cap,hvi,-⟩:=hx.at_.open (fun _ _=>rfl) om
  obtain⟨w1,hw1⟩:∃w1,w1=w.alloc (.cells #[.int .u32 x.pc,.slice ao x.ins.length cap] 65):=⟨_,rfl⟩
  have hb1:Below w.heap.size w w1:=zK
  have c0:(w1).cell? ⟨w.heap.size,0,none⟩=some (.int .u32 x.pc):=zA
  have c1:(w1).cell? ⟨w.heap.size,1,none⟩=some (.slice ao x.ins.length cap):=zA
  have g0:=(hb1.cell (p:=⟨pb,0,none⟩) hlp).trans h0
  have g1:=(hb1.cell (p:=⟨pb,1,none⟩) hlp).trans h1
  have HH:=lI (chas_any x fr tw w1 (hx.below hb1) hl hf ht)
  rw[hvi]at HH ⊢
  have HW1:=lI hw1
  have HB1:=lI hb1
  clear hw1 hb1 hx h0 h1
  go_enter Tryz.func110,Tryz.ntmps110
  go_upto_region 1 with(fail)
  rw[←HW1.out]
  go_wp2_with fail
  refine HH.out.mono ?_
  rintro e w2 ⟨rfl,hb2⟩
  have HB2:=lI (HB1.out.trans (hb2.mono HB1.out.size))
  clear hb2
  go_wp2_with fail
  go_ret
  exact⟨rfl,HB2.out⟩
theorem indexStale_any(v:Value)(l:List BlkD)(fr tw:Int)(pb:Nat)(w:World)(hv:Blks w v l)(h0:w.cell? ⟨pb,0,none⟩=some (.int .u32 fr))(h1:w.cell? ⟨pb,1,none⟩=some (.int .u32 tw))(hins:∀x∈l,x.ins.length≤3518437208883)(hf:U32 fr)(ht:U32 tw):
    Calls Tryz.prog 38 #[v,.func (.func 110) #[] #[.pointer (some ⟨pb,0,none⟩)]] w fun e w'=>e=.returned (.int .i64 (uL (QC fr tw) l))∧Below w.heap.size w w':=by
  obtain⟨ao,cap,rfl,hc,hm,-,ho⟩:=hv.1.open (fun _ _=>rfl) om
  unfold maxLen at hm
  have HO:=lI ho
  have hlp:pb<w.heap.size:=qH h0
  have HA1:Hid (∀(x:BlkD),x∈l→∀W,Below w.heap.size w W→Calls Tryz.prog 110 #[.agg #[.int .u32 x.pc,x.vi],.pointer (some ⟨pb,0,none⟩)] W fun e w'=>e=.returned (.bool (hasB x.pc x.ins.length fr tw))∧Below W.heap.size W w'):=lI (fun x hx W hW=>stale1_any x fr tw pb W ((hW.cell (p:=⟨pb,0,none⟩) hlp).trans h0) ((hW.cell (p:=⟨pb,1,none⟩) hlp).trans h1) ((hv.2 x hx).below hW) (hins x hx) hf ht)
  obtain⟨r,hr⟩:∃r,r=uL (QC fr tw) l:=⟨_,rfl⟩
  rw[←hr]
  have HR:=lI hr
  have HONE:Hid (∀x∈l,∃cc ac,x.vi=.slice ac x.ins.length cc):=lI (fun x hx=>by obtain⟨ac,cc,e,_⟩:=(hv.2 x hx).at_.open (fun _ _=>rfl) om;exact⟨cc,ac,e⟩)
  clear ho hv hr h0 h1 hins hf ht
  go_enter Tryz.func38,Tryz.ntmps38
  go_wp2_with fail
  go_loopw [8] (fun i wr=>∃k:Nat,i=.int .i64 k∧k≤l.length∧Hid (Below w.heap.size w wr∧∀j (hj:j<l.length),j<k→QC fr tw l[j]=false)) (fun i _=>l.length-(intOf i).toNat)
  case atStart=>exact⟨0,rfl,om,lI ⟨Below.refl _ _,fun j _ hj=>om⟩⟩
  case round=>
    obtain⟨k,rfl,hk,HI⟩:=hrel
    by_cases hlt:k<l.length
    · obtain⟨b,off,rfl,hbl,hel⟩:=HO.out zR
      have hat:=(hel k hlt).of_lt HI.out.1 hbl
      obtain⟨cc,ac,hvi⟩:=HONE.out l[k] (sU hlt)
      have c0:=hat.get (j:=0) (v:=.int .u32 l[k].pc) rfl
      have c1:=hat.get (j:=1) (v:=l[k].vi) rfl
      simp only[sN]at c0
      rw[hvi]at c1
      have HN:Hid (QC fr tw l[k]=true→r=k):=lI (fun e=>HR.out.trans (firstI_at hlt e (fun j hj=>HI.out.2 j om hj)))
      have HG:Hid (QC fr tw l[k]=false→∀j (hj:j<l.length),j<k+1→QC fr tw l[j]=false):=lI (fun e j hj hj2=>by
        by_cases e2:j=k
        · subst e2;exact e
        · exact HI.out.2 j hj om)
      have HC:=lI (HA1.out l[k] (sU hlt) wr HI.out.1)
      rw[hvi]at HC
      have HB:=lI HI.out.1
      clear hel hat
      obtain⟨s,hs⟩:∃s,s=QC fr tw l[k]:=⟨_,rfl⟩
      rw[←hs]at HN HG
      have hs2:hasB l[k].pc l[k].ins.length fr tw=s:=hs.symm
      rw[hs2]at HC
      obtain⟨x,hx⟩:∃x,x=l[k].pc:=⟨_,rfl⟩
      obtain⟨nn,hnn⟩:∃n,n=l[k].ins.length:=⟨_,rfl⟩
      rw[←hx]at c0 HC
      rw[←hnn]at c1 HC
      clear hx hnn hs hs2 hvi
      go_wp2_with fail
      refine HC.out.mono ?_
      rintro e w2 ⟨rfl,hb2⟩
      have HB2:=lI (HB.out.trans (hb2.mono HB.out.size))
      clear hb2 c0 c1
      cases s with
      | true =>
        obtain rfl:=HN.out rfl
        go_wp2_with fail
        go_ret
        exact⟨rfl,HB2.out⟩
      | false =>
        go_wp2_with fail
        exact⟨⟨k+1,by simp,om,lI ⟨HB2.out,HG.out yO⟩⟩,by simp[intOf];omega⟩
    · obtain rfl:k=l.length:=om
      obtain rfl:=HR.out.trans (firstI_no (fun j hj=>HI.out.2 j hj hj))
      go_wp2_with fail
      go_ret
      exact⟨rfl,HI.out.1⟩
theorem efind1_any(x:BlkD)(p:Int)(pb:Nat)(w:World)(hp:w.cell? ⟨pb,0,none⟩=some (.int .u32 p))(hx:∀u∈qw x,u.oneCell'=true):
    Calls Tryz.prog 39 #[.agg #[.int .u32 x.pc,x.vi],.pointer (some ⟨pb,0,none⟩)] w fun e w'=>e=.returned (.bool (x.pc==p))∧Below w.heap.size w w':=by
  have hl:pb<w.heap.size:=qH hp
  go_enter Tryz.func39,Tryz.ntmps39
  go_wp2_with fail
  go_ret
  exact⟨rfl,Fb.blw⟩
theorem eindexOf_any(v:Value)(l:List BlkD)(p:Int)(pb:Nat)(w:World)(hv:Blks w v l)(hp:w.cell? ⟨pb,0,none⟩=some (.int .u32 p)):
    Calls Tryz.prog 38 #[v,.func (.func 39) #[] #[.pointer (some ⟨pb,0,none⟩)]] w fun e w'=>e=.returned (.int .i64 (QE l p))∧Below w.heap.size w w':=by
  obtain⟨ao,cap,rfl,hc,hm,-,ho⟩:=hv.1.open (fun _ _=>rfl) om
  unfold maxLen at hm
  have HO:=lI ho
  have hlp:pb<w.heap.size:=qH hp
  have HA1:Hid (∀(x:BlkD),x∈l→∀W,Below w.heap.size w W→Calls Tryz.prog 39 #[.agg #[.int .u32 x.pc,x.vi],.pointer (some ⟨pb,0,none⟩)] W fun e w'=>e=.returned (.bool (x.pc==p))∧Below W.heap.size W w'):=lI (fun x hx W hW=>efind1_any x p pb W ((hW.cell (p:=⟨pb,0,none⟩) hlp).trans hp) (blist_one (hv.2 x hx)))
  obtain⟨r,hr⟩:∃r,r=QE l p:=⟨_,rfl⟩
  rw[←hr]
  have HR:=lI hr
  have HONE:Hid (∀x∈l,∃n cc ac,x.vi=.slice ac n cc):=lI (fun x hx=>by obtain⟨ac,cc,e,_⟩:=(hv.2 x hx).at_.open (fun _ _=>rfl) om;exact⟨_,cc,ac,e⟩)
  clear ho hv hr hp
  go_enter Tryz.func38,Tryz.ntmps38
  go_wp2_with fail
  go_loopw [8] (fun i wr=>∃k:Nat,i=.int .i64 k∧k≤l.length∧Hid (Below w.heap.size w wr∧∀j (hj:j<l.length),j<k→l[j].pc≠p)) (fun i _=>l.length-(intOf i).toNat)
  case atStart=>exact⟨0,rfl,om,lI ⟨Below.refl _ _,fun j _ hj=>om⟩⟩
  case round=>
    obtain⟨k,rfl,hk,HI⟩:=hrel
    by_cases hlt:k<l.length
    · obtain⟨b,off,rfl,hbl,hel⟩:=HO.out zR
      have hat:=(hel k hlt).of_lt HI.out.1 hbl
      obtain⟨nn,cc,ac,hvi⟩:=HONE.out l[k] (sU hlt)
      have c0:=hat.get (j:=0) (v:=.int .u32 l[k].pc) rfl
      have c1:=hat.get (j:=1) (v:=l[k].vi) rfl
      simp only[sN]at c0
      rw[hvi]at c1
      have HN:Hid (l[k].pc=p→r=k):=lI (fun e=>HR.out.trans (placeI_at hlt e (fun j hj=>HI.out.2 j om hj)))
      have HG:Hid (l[k].pc≠p→∀j (hj:j<l.length),j<k+1→l[j].pc≠p):=lI (fun e j hj hj2=>by
        by_cases e2:j=k
        · subst e2;exact e
        · exact HI.out.2 j hj om)
      have HC:=lI (HA1.out l[k] (sU hlt) wr HI.out.1)
      rw[hvi]at HC
      have HB:=lI HI.out.1
      clear hel hat
      obtain⟨x,hx⟩:∃x,x=l[k].pc:=⟨_,rfl⟩
      rw[←hx]at c0 HN HG HC
      clear hx hvi
      go_wp2_with fail
      refine HC.out.mono ?_
      rintro e w2 ⟨rfl,hb2⟩
      have HB2:=lI (HB.out.trans (hb2.mono HB.out.size))
      clear hb2 c0 c1
      by_cases he:x=p
      · obtain rfl:=HN.out he
        have hbq:(x==p)=true:=by simpa using he
        rw[hbq]
        go_wp2_with fail
        go_ret
        exact⟨rfl,HB2.out⟩
      · have hbq:(x==p)=false:=by simpa using he
        rw[hbq]
        go_wp2_with fail
        exact⟨⟨k+1,by simp,om,lI ⟨HB2.out,HG.out he⟩⟩,by simp[intOf];omega⟩
    · obtain rfl:k=l.length:=om
      obtain rfl:=HR.out.trans (placeI_no (fun j hj=>HI.out.2 j hj hj))
      go_wp2_with fail
      go_ret
      exact⟨rfl,HI.out.1⟩
theorem estale1_any(x:BlkD)(fr tw:Int)(pb:Nat)(w:World)(h0:w.cell? ⟨pb,0,none⟩=some (.int .u32 fr))(h1:w.cell? ⟨pb,1,none⟩=some (.int .u32 tw))(hx:uU w x)(hl:x.ins.length≤3518437208883)(hf:U32 fr)(ht:U32 tw):
    Calls Tryz.prog 81 #[.agg #[.int .u32 x.pc,x.vi],.pointer (some ⟨pb,0,none⟩)] w fun e w'=>e=.returned (.bool (hasB x.pc x.ins.length fr tw))∧Below w.heap.size w w':=by
  have hlp:pb<w.heap.size:=qH h0
  obtain⟨ao,cap,hvi,-⟩:=hx.at_.open (fun _ _=>rfl) om
  obtain⟨w1,hw1⟩:∃w1,w1=w.alloc (.cells #[.int .u32 x.pc,.slice ao x.ins.length cap] 65):=⟨_,rfl⟩
  have hb1:Below w.heap.size w w1:=zK
  have c0:(w1).cell? ⟨w.heap.size,0,none⟩=some (.int .u32 x.pc):=zA
  have c1:(w1).cell? ⟨w.heap.size,1,none⟩=some (.slice ao x.ins.length cap):=zA
  have g0:=(hb1.cell (p:=⟨pb,0,none⟩) hlp).trans h0
  have g1:=(hb1.cell (p:=⟨pb,1,none⟩) hlp).trans h1
  have HH:=lI (chas_any x fr tw w1 (hx.below hb1) hl hf ht)
  rw[hvi]at HH ⊢
  have HW1:=lI hw1
  have HB1:=lI hb1
  clear hw1 hb1 hx h0 h1
  go_enter Tryz.func81,Tryz.ntmps81
  go_upto_region 1 with(fail)
  rw[←HW1.out]
  go_wp2_with fail
  refine HH.out.mono ?_
  rintro e w2 ⟨rfl,hb2⟩
  have HB2:=lI (HB1.out.trans (hb2.mono HB1.out.size))
  clear hb2
  go_wp2_with fail
  go_ret
  exact⟨rfl,HB2.out⟩
theorem eindexStale_any(v:Value)(l:List BlkD)(fr tw:Int)(pb:Nat)(w:World)(hv:Blks w v l)(h0:w.cell? ⟨pb,0,none⟩=some (.int .u32 fr))(h1:w.cell? ⟨pb,1,none⟩=some (.int .u32 tw))(hins:∀x∈l,x.ins.length≤3518437208883)(hf:U32 fr)(ht:U32 tw):
    Calls Tryz.prog 38 #[v,.func (.func 81) #[] #[.pointer (some ⟨pb,0,none⟩)]] w fun e w'=>e=.returned (.int .i64 (uL (QC fr tw) l))∧Below w.heap.size w w':=by
  obtain⟨ao,cap,rfl,hc,hm,-,ho⟩:=hv.1.open (fun _ _=>rfl) om
  unfold maxLen at hm
  have HO:=lI ho
  have hlp:pb<w.heap.size:=qH h0
  have HA1:Hid (∀(x:BlkD),x∈l→∀W,Below w.heap.size w W→Calls Tryz.prog 81 #[.agg #[.int .u32 x.pc,x.vi],.pointer (some ⟨pb,0,none⟩)] W fun e w'=>e=.returned (.bool (hasB x.pc x.ins.length fr tw))∧Below W.heap.size W w'):=lI (fun x hx W hW=>estale1_any x fr tw pb W ((hW.cell (p:=⟨pb,0,none⟩) hlp).trans h0) ((hW.cell (p:=⟨pb,1,none⟩) hlp).trans h1) ((hv.2 x hx).below hW) (hins x hx) hf ht)
  obtain⟨r,hr⟩:∃r,r=uL (QC fr tw) l:=⟨_,rfl⟩
  rw[←hr]
  have HR:=lI hr
  have HONE:Hid (∀x∈l,∃cc ac,x.vi=.slice ac x.ins.length cc):=lI (fun x hx=>by obtain⟨ac,cc,e,_⟩:=(hv.2 x hx).at_.open (fun _ _=>rfl) om;exact⟨cc,ac,e⟩)
  clear ho hv hr h0 h1 hins hf ht
  go_enter Tryz.func38,Tryz.ntmps38
  go_wp2_with fail
  go_loopw [8] (fun i wr=>∃k:Nat,i=.int .i64 k∧k≤l.length∧Hid (Below w.heap.size w wr∧∀j (hj:j<l.length),j<k→QC fr tw l[j]=false)) (fun i _=>l.length-(intOf i).toNat)
  case atStart=>exact⟨0,rfl,om,lI ⟨Below.refl _ _,fun j _ hj=>om⟩⟩
  case round=>
    obtain⟨k,rfl,hk,HI⟩:=hrel
    by_cases hlt:k<l.length
    · obtain⟨b,off,rfl,hbl,hel⟩:=HO.out zR
      have hat:=(hel k hlt).of_lt HI.out.1 hbl
      obtain⟨cc,ac,hvi⟩:=HONE.out l[k] (sU hlt)
      have c0:=hat.get (j:=0) (v:=.int .u32 l[k].pc) rfl
      have c1:=hat.get (j:=1) (v:=l[k].vi) rfl
      simp only[sN]at c0
      rw[hvi]at c1
      have HN:Hid (QC fr tw l[k]=true→r=k):=lI (fun e=>HR.out.trans (firstI_at hlt e (fun j hj=>HI.out.2 j om hj)))
      have HG:Hid (QC fr tw l[k]=false→∀j (hj:j<l.length),j<k+1→QC fr tw l[j]=false):=lI (fun e j hj hj2=>by
        by_cases e2:j=k
        · subst e2;exact e
        · exact HI.out.2 j hj om)
      have HC:=lI (HA1.out l[k] (sU hlt) wr HI.out.1)
      rw[hvi]at HC
      have HB:=lI HI.out.1
      clear hel hat
      obtain⟨s,hs⟩:∃s,s=QC fr tw l[k]:=⟨_,rfl⟩
      rw[←hs]at HN HG
      have hs2:hasB l[k].pc l[k].ins.length fr tw=s:=hs.symm
      rw[hs2]at HC
      obtain⟨x,hx⟩:∃x,x=l[k].pc:=⟨_,rfl⟩
      obtain⟨nn,hnn⟩:∃n,n=l[k].ins.length:=⟨_,rfl⟩
      rw[←hx]at c0 HC
      rw[←hnn]at c1 HC
      clear hx hnn hs hs2 hvi
      go_wp2_with fail
      refine HC.out.mono ?_
      rintro e w2 ⟨rfl,hb2⟩
      have HB2:=lI (HB.out.trans (hb2.mono HB.out.size))
      clear hb2 c0 c1
      cases s with
      | true =>
        obtain rfl:=HN.out rfl
        go_wp2_with fail
        go_ret
        exact⟨rfl,HB2.out⟩
      | false =>
        go_wp2_with fail
        exact⟨⟨k+1,by simp,om,lI ⟨HB2.out,HG.out yO⟩⟩,by simp[intOf];omega⟩
    · obtain rfl:k=l.length:=om
      obtain rfl:=HR.out.trans (firstI_no (fun j hj=>HI.out.2 j hj hj))
      go_wp2_with fail
      go_ret
      exact⟨rfl,HI.out.1⟩
theorem firstI_bool(P:BlkD→Bool)(l:List BlkD):decide (uL P l≥0)=l.any P:=by
  unfold uL
  by_cases h:l.findIdx P<l.length
  · rw[if_pos h]
    have:l.any P=true:=List.any_eq_true.2 ⟨_,sU h,List.findIdx_getElem⟩
    rw[this]
    simp
  · rw[if_neg h]
    have:l.any P=false:=by
      rw[List.any_eq_false]
      intro x hx hp
      exact h (List.findIdx_lt_length_of_exists ⟨x,hx,hp⟩)
    rw[this]
    rfl
theorem econtains_any(v:Value)(l:List BlkD)(fr tw:Int)(pb:Nat)(w:World)(hv:Blks w v l)(h0:w.cell? ⟨pb,0,none⟩=some (.int .u32 fr))(h1:w.cell? ⟨pb,1,none⟩=some (.int .u32 tw))(hins:∀x∈l,x.ins.length≤3518437208883)(hf:U32 fr)(ht:U32 tw):
    Calls Tryz.prog 80 #[v,.func (.func 81) #[] #[.pointer (some ⟨pb,0,none⟩)]] w fun e w'=>e=.returned (.bool (l.any (QC fr tw)))∧Below w.heap.size w w':=by
  have HX:=lI (eindexStale_any v l fr tw pb w hv h0 h1 hins hf ht)
  have HB:=lI (firstI_bool (QC fr tw) l)
  obtain⟨r,hr⟩:∃r,r=uL (QC fr tw) l:=⟨_,rfl⟩
  rw[←hr]at HX HB
  obtain⟨ao,cap,rfl,-⟩:=hv.1.open (fun _ _=>rfl) om
  clear hv h0 h1 hins hf ht hr
  go_enter Tryz.func80,Tryz.ntmps80
  go_wp2_with fail
  refine HX.out.mono ?_
  rintro e w2 ⟨rfl,hb2⟩
  go_wp2_with fail
  go_ret
  exact⟨by rw[←HB.out];rfl,hb2⟩
theorem of1(n:Int)(w:World)(h: -9223372036854775808≤n∧n≤9223372036854775807):
    Calls Tryz.prog 30 #[.int .i64 n] w fun e w'=>e=.returned (.int .u32 (n%4294967296))∧w=w':=by
  by_cases hn:0≤n
  all_goals
    go_enter Tryz.func30,Tryz.ntmps30
    go_wp2
    all_goals go_ret
    all_goals refine⟨qR ?_,rfl⟩
    all_goals first
      |rfl
      |(have hq:=Int.tmod_def n 4294967296;unfold wrap64;omega)
      |(have hq:=Int.tmod_def n 4294967296;omega)
theorem signed1(a:Int)(w:World)(h:U32 a):
    Calls Tryz.prog 53 #[.int .u32 a] w fun e w'=>e=.returned (.int .i64 (wrap32 a))∧w=w':=by
  have hs:=signed_wrap h
  have HS:=lI hs
  clear hs
  obtain⟨h0,h1⟩:=h
  go_enter Tryz.func53,Tryz.ntmps53
  go_wp2
  all_goals go_ret
  all_goals refine⟨qR ?_,rfl⟩
  all_goals rw[←HS.out]
  all_goals first|(rw[if_pos (by assumption)];done)|(rw[if_neg om];done)
theorem power1(n:Int)(w:World)(h:0≤n∧n≤32):
    Calls Tryz.prog 57 #[.int .i64 n] w fun e w'=>e=.returned (.int .i64 ((2 ^ n.toNat:Nat):Int))∧w=w':=by
  obtain⟨h0,h1⟩:=h
  obtain⟨n,rfl⟩:=sS h0
  have hn:n≤32:=om
  rw[rA]
  clear h0 h1
  go_enter Tryz.func57,Tryz.ntmps57
  go_wp2
  go_loop [3,4] (fun p i=>∃(k pw:Nat),i=.int .i64 k∧k≤n∧p=.int .i64 pw∧pw≤4294967296∧Hid (pw=2 ^ k)) (fun _ i=>n-(intOf i).toNat)
  case atStart=>exact⟨0,1,rfl,om,rfl,om,lI rfl⟩
  case round=>
    obtain⟨k,pw,rfl,hk,rfl,hpw,HP⟩:=hrel
    by_cases hlt:k<n
    · have h2:pw+pw≤4294967296:=by
        rw[HP.out]
        have:=pow_le32 (k:=k+1) om
        rw[Nat.pow_succ]at this;omega
      go_wp2
      go_round
      case rel=>exact⟨k+1,pw+pw,by go_num,om,by go_num,h2,lI (by rw[HP.out,Nat.pow_succ];omega)⟩
      case measure=>simp[intOf];omega
    · obtain rfl:k=n:=om
      go_wp2
      go_ret
      exact⟨qR (by rw[HP.out];rfl),rfl⟩
theorem floor1(a b:Int)(w:World)(hb:0<b∧b≤4294967296)(ha: -9223372032559808512≤a∧a≤9223372032559808511):
    Calls Tryz.prog 58 #[.int .i64 a,.int .i64 b] w fun e w'=>e=.returned (.int .i64 (a / b))∧w=w':=by
  have HE:=lI (floor_eq a b hb.1)
  have h2:=Int.tmod_lt_of_pos a hb.1
  have h3: -b<a.tmod b:=Int.lt_tmod_of_pos a hb.1
  have hz:(b==0)=false:=by simpa using (by omega:b≠0)
  have hz1:(b== -1)=false:=by simpa using (by omega:b≠ -1)
  obtain⟨hb0,hb1⟩:=hb
  go_enter Tryz.func58,Tryz.ntmps58
  go_wp2
  all_goals go_ret
  all_goals refine⟨qR ?_,rfl⟩
  all_goals rw[←HE.out]
  all_goals first|(rw[if_pos (by assumption)];done)|(rw[if_neg om];done)
theorem truth1(b:Bool)(w:World):
    Calls Tryz.prog 59 #[.bool b] w fun e w'=>e=.returned (.int .u32 (if b=true then 1 else 0))∧w=w':=by
  cases b
  all_goals
    go_enter Tryz.func59,Tryz.ntmps59
    go_wp2
    go_ret
    exact⟨rfl,rfl⟩
theorem upper1(a b:Int)(w:World)(ha: -2147483648≤a∧a≤4294967295)(hb:U32 b):
    Calls Tryz.prog 60 #[.int .i64 a,.int .i64 b] w fun e w'=>e=.returned (.int .u32 (a*b / 4294967296%4294967296))∧w=w':=by
  obtain⟨hb0,hb1⟩:=hb
  obtain⟨p,hp⟩:∃p,p=a*(b / 65536):=⟨_,rfl⟩
  obtain⟨q,hq⟩:∃q,q=a*(b%65536):=⟨_,rfl⟩
  have b1:=JG a (b / 65536) 4294967295 65535 om om
  have b2:=JG a (b%65536) 4294967295 65535 om om
  rw[←hp]at b1
  rw[←hq]at b2
  have HE:Hid ((p+q / 65536) / 65536=a*b / 4294967296):=lI (by rw[upper_eq a (b%65536) (b / 65536) p q hp hq];congr 2;omega)
  have p1: -281470681743360≤p∧p≤281470681743360:=om
  have q1: -281470681743360≤q∧q≤281470681743360:=om
  clear b1 b2
  have e1:wrap64 (a*(b / 65536))=p:=by rw[←hp];unfold wrap64;omega
  have e2:wrap64 (a*(b%65536))=q:=by rw[←hq];unfold wrap64;omega
  obtain⟨p1,p2⟩:=p1
  obtain⟨q1,q2⟩:=q1
  have HP:=lI hp
  have HQ:=lI hq
  clear hp hq
  go_enter Tryz.func60,Tryz.ntmps60
  go_wp2_with fail
  refine(floor1 _ _ _ om om).mono ?_;rintro e w' ⟨rfl,rfl⟩
  go_wp2_with fail
  refine(floor1 _ _ _ om om).mono ?_;rintro e w' ⟨rfl,rfl⟩
  go_wp2_with fail
  refine(of1 _ _ om).mono ?_;rintro e w' ⟨rfl,rfl⟩
  go_wp2_with fail
  go_ret
  exact⟨qR (by rw[HE.out]),rfl⟩
theorem bits1(o:BOp)(x y:Nat)(w:World)(hx:x<4294967296)(hy:y<4294967296):
    Calls Tryz.prog 56 #[.int .i64 o.code,.int .u32 x,.int .u32 y] w fun e w'=>e=.returned (.int .u32 (bits o.op .u32 x y))∧w=w':=by
  rw[o.bits x y hx hy]
  have HZ:=lI (show o.nat x y%2 ^ 32=o.nat x y from Nat.mod_eq_of_lt (o.lt hx hy))
  have HLT:=lI (o.lt hx hy)
  have HO:=fun k p q=>o.round x y k p q
  have HR:=lI HO
  clear HO
  cases o
  all_goals
    simp only[BOp.code,BOp.bit]at *
    generalize BOp.nat _ x y=z at *
    go_enter Tryz.func56,Tryz.ntmps56
    go_wp2
    go_loop [7,8,9,10] (fun xs ys ns i=>∃(k X Y n:Nat),i=.int .i64 k∧k≤32∧xs=.int .i64 X∧ys=.int .i64 Y∧ns=.int .i64 n∧X≤4294967296∧Y≤4294967296∧n≤4294967296∧Hid (X=x / 2 ^ k∧Y=y / 2 ^ k∧n=z%2 ^ k)) (fun _ _ _ i=>32-(intOf i).toNat)
    case atStart=>exact⟨0,x,y,0,rfl,om,rfl,rfl,rfl,om,om,om,lI ⟨by simp,by simp,by simp[Nat.mod_one]⟩⟩
    case round=>
      obtain⟨k,X,Y,n,rfl,hk,rfl,rfl,rfl,hX,hY,hn,HS⟩:=hrel
      by_cases hlt:k<32
      · have hrd:=HR.out k (decide (X%2=1)) (decide (Y%2=1)) (by rw[HS.out.1]) (by rw[HS.out.2.1])
        rw[←HS.out.2.2]at hrd
        have hn2:z%2 ^ (k+1)≤4294967296:=Nat.le_trans (Nat.mod_le _ _) (Nat.le_of_lt HLT.out)
        have hp32:=pow_le31 (k:=k) om
        have hp0:0<2 ^ k:=Nat.pow_pos zL
        have HX:Hid (X / 2=x / 2 ^ (k+1)∧Y / 2=y / 2 ^ (k+1)):=lI ⟨by rw[div_more,HS.out.1],by rw[div_more,HS.out.2.1]⟩
        have hpw:=power1 (k:Int)
        rw[rA]at hpw
        have HPW:=lI hpw
        clear hpw
        have hx2:X%2=0∨X%2=1:=om
        have hy2:Y%2=0∨Y%2=1:=om
        rcases hx2 with hx2|hx2<;>rcases hy2 with hy2|hy2
        all_goals
          rw[hx2,hy2]at hrd
          simp only[Nat.zero_ne_one,decide_true,decide_false,Bool.and_true,Bool.and_false,Bool.or_true,Bool.or_false,Bool.false_eq_true,if_true,if_false,bne_self_eq_false,sN,Bool.true_bne,Bool.false_bne,Bool.not_true,Bool.not_false]at hrd
          have q1:((X:Int)%2==1)=decide (X%2=1):=by rw[hx2];first|(rw[sH.2 om];rfl)|(rw[beq_iff_eq.2 om];rfl)
          have q2:((Y:Int)%2==1)=decide (Y%2=1):=by rw[hy2];first|(rw[sH.2 om];rfl)|(rw[beq_iff_eq.2 om];rfl)
          rw[hx2]at q1
          rw[hy2]at q2
          simp only[Nat.zero_ne_one,decide_true,decide_false]at q1 q2
          generalize 2 ^ k=pw at *
          have HRD:=lI hrd
          have HN2:=lI hn2
          have hsum:z%2 ^ (k+1)=n∨z%2 ^ (k+1)=n+pw:=om
          clear hrd hn2 hx2 hy2 hsum
          go_wp2_with (refine(HPW.out _ om).mono ?_;rintro e w' ⟨rfl,rfl⟩)
          go_round
          case rel=>exact⟨k+1,X / 2,Y / 2,z%2 ^ (k+1),by go_num,om,by go_num,by go_num,by first|(rw[HRD.out];done)|(rw[HRD.out];go_num),om,om,HN2.out,lI ⟨HX.out.1,HX.out.2,rfl⟩⟩
          case measure=>simp[intOf];omega
      · obtain rfl:k=32:=om
        have hz:n=z:=by rw[HS.out.2.2,HZ.out]
        subst hz
        have hzl:=HLT.out
        clear hk hlt
        go_wp2_with (refine(of1 _ _ om).mono ?_;rintro e w' ⟨rfl,rfl⟩)
        go_ret
        exact⟨qR om,rfl⟩
end Go.Proofs.YtlfnddmncbkjaacGreat.W
