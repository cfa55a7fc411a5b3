import Derived.Test.YtlfnddmncbkjaabGreatDoorZGH
import Derived.Maps.OwnSet
import Derived.Maps.Views
set_option linter.unusedVariables false
set_option linter.unusedSimpArgs false
set_option maxRecDepth 100000
set_option maxHeartbeats 4000000
namespace Go.Proofs.YtlfnddmncbkjaabGreatDoor.Fb
open Go.RowKit
def URng(d:JE):Prop:=QE d.hart∧U32 d.frm∧jE d.bytes∧∀p∈d.lost,QE p.1∧U32 p.2
theorem lostN_rng{k:Nat}{was now:List Hart}(hw:∀j,U32 (was.getD j QC).heldAt):∀n,n≤4→∀p∈jJ k was now n,QE p.1∧U32 p.2
  |0,_=>fun p hp=>by cases hp
  | n + 1, h => fun p hp => by
    rcases List.mem_append.1 hp with hp|hp
    · exact lostN_rng hw n om p hp
    · unfold lost1 at hp
      split at hp
      · rw[List.mem_singleton]at hp
        subst hp
        exact⟨⟨by show -9223372036854775808≤(n:Int);omega,by show(n:Int)≤9223372036854775807;omega⟩,hw n⟩
      · cases hp
theorem undoOf_rng{k:Nat}{s:St}(g:s.Good)(hk:k<s.harts.length)(h4:s.harts.length≤4):URng (undoOf k s):=by
  have hml:=g.wf.mlen
  have hrg:Rng (jg k s):=goS_rng _ (g.wf.hart k) _ hml
  have hdl:(jg k s).m.length=s.mem.length:=goS_ml _
  refine⟨⟨by show -9223372036854775808≤(k:Int);omega,by show(k:Int)≤9223372036854775807;omega⟩, ?_, ?_,fun p hp=>lostN_rng (fun j=>(g.wf.hart j).heldAt) _ h4 p hp⟩
  · show U32 (if(jg k s).fr<(jg k s).tw then(jg k s).fr else 0)
    split
    · unfold Rng at hrg
      rw[hdl]at hrg
      exact⟨om,om⟩
    · exact⟨by decide,by decide⟩
  · show jE (if _ then _ else _)
    split
    · exact fun x hx=>g.wf.mem x (List.mem_of_mem_drop (List.mem_of_mem_take hx))
    · intro x hx;cases hx
theorem undoPick_rng{k:Nat}:∀(n:Nat) {s:St},s.Good→k<s.harts.length→s.harts.length≤4→∀d∈Qi k n s,URng d
  |0,_,_,_,_=>fun d hd=>by cases hd
  | n + 1, s, h, hk, h4 => by
    unfold Qi
    split
    · rename_i hs
      intro d hd
      rcases List.mem_cons.1 hd with rfl|hd
      · exact undoOf_rng h hk h4
      · exact undoPick_rng n (goM_good h hs) (by rw[goM_len];exact hk) (by rw[goM_len];exact h4) d hd
    · intro d hd;cases hd
theorem undoPlay_rng:∀(l:List (Int × Int)) {s:St},s.Good→(∀p∈l,0≤p.1∧p.1<s.harts.length)→s.harts.length≤4→∀d∈QF l s,URng d
  |[],_,_,_,_=>fun d hd=>by cases hd
  | p :: r, s, h, hp, h4 => by
    intro d hd
    obtain⟨h1,h2⟩:=hp p zC
    rcases List.mem_append.1 hd with hd|hd
    · exact undoPick_rng _ h om h4 d hd
    · exact undoPlay_rng r (UT _ h) (fun q hq=>by rw[uc];exact hp q (by simp[hq])) (by rw[uc];exact h4) d hd
theorem UR.of_up{B:Nat}{TD TY TL:TypeId}{w:World}{v:Value}{us:List UndD}(h:Up B TD TY TL w v us)(hr:∀d∈us.map (·.d),URng d):UR w v us:=
  ⟨qn h.own,h.wf,fun x hx=>qn (h.byt x hx),fun x hx=>qn (h.los x hx),fun x hx=>hr _ (List.mem_map.2 ⟨x,hx,rfl⟩)⟩
end Go.Proofs.YtlfnddmncbkjaabGreatDoor.Fb
namespace Go.Proofs.YtlfnddmncbkjaabGreatDoor.W
open Go.RowKit Fb
theorem ce{p:Prop}(h:p:=by
 go_enter Tryz.func28,Tryz.ntmps28
 go_wp2_with fail
 exact sO (QL zM _ zM (load_new w _ _ Tryz.underlying53 rfl kr)) rfl ⟨rfl,Fb.blw⟩):p:=h
theorem cnew_any(room:Int)(w:World)(hr:QE room):
    Calls Tryz.prog 28 #[.int .i64 room] w fun e w'=>e=.returned (.tuple #[.agg #[.int .i64 (if room<0∨64<room then 0 else room),.slice none 0 0,.int .i64 0,.int .i64 0],.int .i64 (if room<0∨64<room then 3 else 0)])∧Below w.heap.size w w':=by
  by_cases h:room<0∨64<room
  · rw[if_pos h,if_pos h]
    rcases h with h|h
    · exact ce
    · have h0:¬room<0:=om
      exact ce
  · rw[if_neg h,if_neg h]
    have h0:¬room<0:=om
    have h1:¬64<room:=om
    clear h
    exact ce
theorem at1_any(x:BlkD)(p:Int)(pb:Nat)(w:World)(hp:w.cell? ⟨pb,0,none⟩=some (.int .u32 p))(hx:∀u∈qr x,u.oneCell'=true):
    Calls Tryz.prog 137 #[.agg #[.int .u32 x.pc,x.vi],.pointer (some ⟨pb,0,none⟩)] w fun e w'=>e=.returned (.bool (x.pc==p))∧Below w.heap.size w w':=by
  have hl:pb<w.heap.size:=qD hp
  go_enter Tryz.func137,Tryz.ntmps137
  go_wp2_with fail
  go_ret
  exact⟨rfl,Fb.blw⟩
theorem indexOf_any(v:Value)(l:List BlkD)(p:Int)(pb:Nat)(w:World)(hv:Blks w v l)(hp:w.cell? ⟨pb,0,none⟩=some (.int .u32 p)):
    Calls Tryz.prog 81 #[v,.func (.func 137) #[] #[.pointer (some ⟨pb,0,none⟩)]] w fun e w'=>e=.returned (.int .i64 (qw l p))∧Below w.heap.size w w':=by
  obtain⟨ao,cap,rfl,hc,hm,-,ho⟩:=hv.1.open (fun _ _=>rfl) om
  unfold maxLen at hm
  have HO:=lI ho
  have hlp:pb<w.heap.size:=qD hp
  have HA1:Hid (∀(x:BlkD),x∈l→∀W,Below w.heap.size w W→Calls Tryz.prog 137 #[.agg #[.int .u32 x.pc,x.vi],.pointer (some ⟨pb,0,none⟩)] W fun e w'=>e=.returned (.bool (x.pc==p))∧Below W.heap.size W w'):=lI (fun x hx W hW=>at1_any x p pb W ((hW.cell (p:=⟨pb,0,none⟩) hlp).trans hp) (blist_one (hv.2 x hx)))
  obtain⟨r,hr⟩:∃r,r=qw l p:=⟨_,rfl⟩
  rw[←hr]
  have HR:=lI hr
  have HONE:Hid (∀x∈l,∃n cc ac,x.vi=.slice ac n cc):=lI (fun x hx=>by obtain⟨ac,cc,e,_⟩:=(hv.2 x hx).at_.open (fun _ _=>rfl) om;exact⟨_,cc,ac,e⟩)
  clear ho hv hr hp
  go_enter Tryz.func81,Tryz.ntmps81
  go_wp2_with fail
  go_loopw [8] (fun i wr=>∃k:Nat,i=.int .i64 k∧k≤l.length∧Hid (Below w.heap.size w wr∧∀j (hj:j<l.length),j<k→l[j].pc≠p)) (fun i _=>l.length-(intOf i).toNat)
  case atStart=>exact⟨0,rfl,om,lI ⟨Below.refl _ _,fun j _ hj=>om⟩⟩
  case round=>
    obtain⟨k,rfl,hk,HI⟩:=hrel
    by_cases hlt:k<l.length
    · obtain⟨b,off,rfl,hbl,hel⟩:=HO.out zV
      have hat:=(hel k hlt).of_lt HI.out.1 hbl
      obtain⟨nn,cc,ac,hvi⟩:=HONE.out l[k] (sR hlt)
      have c0:=hat.get (j:=0) (v:=.int .u32 l[k].pc) rfl
      have c1:=hat.get (j:=1) (v:=l[k].vi) rfl
      simp only[Nat.add_zero]at c0
      rw[hvi]at c1
      have HN:Hid (l[k].pc=p→r=k):=lI (fun e=>HR.out.trans (placeI_at hlt e (fun j hj=>HI.out.2 j om hj)))
      have HG:Hid (l[k].pc≠p→∀j (hj:j<l.length),j<k+1→l[j].pc≠p):=lI (fun e j hj hj2=>by
        by_cases e2:j=k
        · subst e2;exact e
        · exact HI.out.2 j hj om)
      have HC:=lI (HA1.out l[k] (sR hlt) wr HI.out.1)
      rw[hvi]at HC
      have HB:=lI HI.out.1
      clear hel hat
      obtain⟨x,hx⟩:∃x,x=l[k].pc:=⟨_,rfl⟩
      rw[←hx]at c0 HN HG HC
      clear hx hvi
      go_wp2_with fail
      refine HC.out.mono ?_
      rintro e w2 ⟨rfl,hb2⟩
      have HB2:=lI (HB.out.trans (hb2.mono HB.out.size))
      clear hb2 c0 c1
      by_cases he:x=p
      · obtain rfl:=HN.out he
        have hbq:(x==p)=true:=by simpa using he
        rw[hbq]
        go_wp2_with fail
        go_ret
        exact⟨rfl,HB2.out⟩
      · have hbq:(x==p)=false:=by simpa using he
        rw[hbq]
        go_wp2_with fail
        exact⟨⟨k+1,by simp,om,lI ⟨HB2.out,HG.out he⟩⟩,by simp[intOf];omega⟩
    · obtain rfl:k=l.length:=om
      obtain rfl:=HR.out.trans (placeI_no (fun j hj=>HI.out.2 j hj hj))
      go_wp2_with fail
      go_ret
      exact⟨rfl,HI.out.1⟩
end Go.Proofs.YtlfnddmncbkjaabGreatDoor.W
namespace Go.Proofs.YtlfnddmncbkjaabGreatDoor.Fb
open Go.RowKit
def hasB(pc:Int)(n:Nat)(fr tw:Int):Bool:=decide (max pc fr<min (pc+4*(n:Int)) tw)
def qs(fr tw:Int)(x:BlkD):Bool:=hasB x.pc x.ins.length fr tw
def Ju(P:BlkD→Bool)(l:List BlkD):Int:=if l.findIdx P<l.length then(l.findIdx P:Int)else -1
theorem firstI_at{P:BlkD→Bool}{l:List BlkD}{k:Nat}(hk:k<l.length)(h:P l[k]=true)(hn:∀j (hj:j<k),P l[j]=false):Ju P l=k:=by
  have e:l.findIdx P=k:=by
    refine Nat.le_antisymm ?_ ?_
    · refine Nat.le_of_not_lt (fun hlt=> ?_)
      have:=List.not_of_lt_findIdx hlt
      simp[h]at this
    · refine Nat.le_of_not_lt (fun hlt=> ?_)
      have h2:l.findIdx P<l.length:=om
      have:P l[l.findIdx P]=true:=List.findIdx_getElem (w:=h2)
      rw[hn _ hlt]at this;cases this
  unfold Ju;rw[e,if_pos hk]
theorem firstI_no{P:BlkD→Bool}{l:List BlkD}(hn:∀j (hj:j<l.length),P l[j]=false):Ju P l= -1:=by
  unfold Ju
  rw[if_neg]
  intro h
  have:P l[l.findIdx P]=true:=List.findIdx_getElem (w:=h)
  rw[hn _ h]at this;cases this
end Go.Proofs.YtlfnddmncbkjaabGreatDoor.Fb
namespace Go.Proofs.YtlfnddmncbkjaabGreatDoor.W
open Go.RowKit Fb
theorem chas_any(x:BlkD)(fr tw:Int)(w:World)(hx:uO w x)(hl:x.ins.length≤3518437208883)(hf:U32 fr)(ht:U32 tw):
    Calls Tryz.prog 124 #[.agg #[.int .u32 x.pc,x.vi],.agg #[.int .u32 fr,.int .u32 tw]] w fun e w'=>e=.returned (.bool (hasB x.pc x.ins.length fr tw))∧Below w.heap.size w w':=by
  obtain⟨pc,vi,ins⟩:=x
  have hpc:=hx.pc
  obtain⟨ao,cap,e,-⟩:=hx.at_.open (fun _ _=>rfl) om
  dsimp only at hpc hl e ⊢
  subst e
  obtain⟨p,rfl⟩:=sQ hpc.1
  obtain⟨f,rfl⟩:=sQ hf.1
  obtain⟨t,rfl⟩:=sQ ht.1
  have hp1:p<4294967296:=by have:=hpc.2;omega
  have hf1:f<4294967296:=by have:=hf.2;omega
  have ht1:t<4294967296:=by have:=ht.2;omega
  clear hx hpc hf ht
  generalize ins.length=n at *
  obtain⟨w1,hw1⟩:∃w1,w1=(w.alloc (.cells #[.int .u32 p,.slice ao n cap] 62)).alloc (.cells #[.int .u32 f,.int .u32 t] 165):=⟨_,rfl⟩
  have hb1:Below w.heap.size w w1:=zG
  have c0:(w1).cell? ⟨w.heap.size,0,none⟩=some (.int .u32 p):=zA
  have c1:(w1).cell? ⟨w.heap.size,1,none⟩=some (.slice ao n cap):=zA
  have d0:(w1).cell? ⟨w.heap.size+1,0,none⟩=some (.int .u32 f):=zA
  have d1:(w1).cell? ⟨w.heap.size+1,1,none⟩=some (.int .u32 t):=zA
  have HW1:=lI hw1
  have HB1:=lI hb1
  clear hw1 hb1
  obtain⟨r,hr⟩:∃r,r=hasB (p:Int) n (f:Int) (t:Int):=⟨_,rfl⟩
  rw[←hr]
  have HR:=lI hr
  clear hr
  go_enter Tryz.func124,Tryz.ntmps124
  go_upto_region 1 with(fail)
  rw[←HW1.out]
  go_quiet (fail)
  go_wp2_with fail
  all_goals
    go_ret
    refine⟨?_,qB HB1.out _⟩
    rw[HR.out]
    refine congrArg (fun b=>Ending.returned (Value.bool b)) (decide_eq_decide.2 ?_)
    omega
theorem stale1_any(x:BlkD)(fr tw:Int)(pb:Nat)(w:World)(h0:w.cell? ⟨pb,0,none⟩=some (.int .u32 fr))(h1:w.cell? ⟨pb,1,none⟩=some (.int .u32 tw))(hx:uO w x)(hl:x.ins.length≤3518437208883)(hf:U32 fr)(ht:U32 tw):
    Calls Tryz.prog 153 #[.agg #[.int .u32 x.pc,x.vi],.pointer (some ⟨pb,0,none⟩)] w fun e w'=>e=.returned (.bool (hasB x.pc x.ins.length fr tw))∧Below w.heap.size w w':=by
  have hlp:pb<w.heap.size:=qD h0
  obtain⟨ao,cap,hvi,-⟩:=hx.at_.open (fun _ _=>rfl) om
  obtain⟨w1,hw1⟩:∃w1,w1=w.alloc (.cells #[.int .u32 x.pc,.slice ao x.ins.length cap] 62):=⟨_,rfl⟩
  have hb1:Below w.heap.size w w1:=zG
  have c0:(w1).cell? ⟨w.heap.size,0,none⟩=some (.int .u32 x.pc):=zA
  have c1:(w1).cell? ⟨w.heap.size,1,none⟩=some (.slice ao x.ins.length cap):=zA
  have g0:=(hb1.cell (p:=⟨pb,0,none⟩) hlp).trans h0
  have g1:=(hb1.cell (p:=⟨pb,1,none⟩) hlp).trans h1
  have HH:=lI (chas_any x fr tw w1 (hx.below hb1) hl hf ht)
  rw[hvi]at HH ⊢
  have HW1:=lI hw1
  have HB1:=lI hb1
  clear hw1 hb1 hx h0 h1
  go_enter Tryz.func153,Tryz.ntmps153
  go_upto_region 1 with(fail)
  rw[←HW1.out]
  go_wp2_with fail
  refine HH.out.mono ?_
  rintro e w2 ⟨rfl,hb2⟩
  have HB2:=lI (HB1.out.trans (hb2.mono HB1.out.size))
  clear hb2
  go_wp2_with fail
  go_ret
  exact⟨rfl,HB2.out⟩
theorem indexStale_any(v:Value)(l:List BlkD)(fr tw:Int)(pb:Nat)(w:World)(hv:Blks w v l)(h0:w.cell? ⟨pb,0,none⟩=some (.int .u32 fr))(h1:w.cell? ⟨pb,1,none⟩=some (.int .u32 tw))(hins:∀x∈l,x.ins.length≤3518437208883)(hf:U32 fr)(ht:U32 tw):
    Calls Tryz.prog 81 #[v,.func (.func 153) #[] #[.pointer (some ⟨pb,0,none⟩)]] w fun e w'=>e=.returned (.int .i64 (Ju (qs fr tw) l))∧Below w.heap.size w w':=by
  obtain⟨ao,cap,rfl,hc,hm,-,ho⟩:=hv.1.open (fun _ _=>rfl) om
  unfold maxLen at hm
  have HO:=lI ho
  have hlp:pb<w.heap.size:=qD h0
  have HA1:Hid (∀(x:BlkD),x∈l→∀W,Below w.heap.size w W→Calls Tryz.prog 153 #[.agg #[.int .u32 x.pc,x.vi],.pointer (some ⟨pb,0,none⟩)] W fun e w'=>e=.returned (.bool (hasB x.pc x.ins.length fr tw))∧Below W.heap.size W w'):=lI (fun x hx W hW=>stale1_any x fr tw pb W ((hW.cell (p:=⟨pb,0,none⟩) hlp).trans h0) ((hW.cell (p:=⟨pb,1,none⟩) hlp).trans h1) ((hv.2 x hx).below hW) (hins x hx) hf ht)
  obtain⟨r,hr⟩:∃r,r=Ju (qs fr tw) l:=⟨_,rfl⟩
  rw[←hr]
  have HR:=lI hr
  have HONE:Hid (∀x∈l,∃cc ac,x.vi=.slice ac x.ins.length cc):=lI (fun x hx=>by obtain⟨ac,cc,e,_⟩:=(hv.2 x hx).at_.open (fun _ _=>rfl) om;exact⟨cc,ac,e⟩)
  clear ho hv hr h0 h1 hins hf ht
  go_enter Tryz.func81,Tryz.ntmps81
  go_wp2_with fail
  go_loopw [8] (fun i wr=>∃k:Nat,i=.int .i64 k∧k≤l.length∧Hid (Below w.heap.size w wr∧∀j (hj:j<l.length),j<k→qs fr tw l[j]=false)) (fun i _=>l.length-(intOf i).toNat)
  case atStart=>exact⟨0,rfl,om,lI ⟨Below.refl _ _,fun j _ hj=>om⟩⟩
  case round=>
    obtain⟨k,rfl,hk,HI⟩:=hrel
    by_cases hlt:k<l.length
    · obtain⟨b,off,rfl,hbl,hel⟩:=HO.out zV
      have hat:=(hel k hlt).of_lt HI.out.1 hbl
      obtain⟨cc,ac,hvi⟩:=HONE.out l[k] (sR hlt)
      have c0:=hat.get (j:=0) (v:=.int .u32 l[k].pc) rfl
      have c1:=hat.get (j:=1) (v:=l[k].vi) rfl
      simp only[Nat.add_zero]at c0
      rw[hvi]at c1
      have HN:Hid (qs fr tw l[k]=true→r=k):=lI (fun e=>HR.out.trans (firstI_at hlt e (fun j hj=>HI.out.2 j om hj)))
      have HG:Hid (qs fr tw l[k]=false→∀j (hj:j<l.length),j<k+1→qs fr tw l[j]=false):=lI (fun e j hj hj2=>by
        by_cases e2:j=k
        · subst e2;exact e
        · exact HI.out.2 j hj om)
      have HC:=lI (HA1.out l[k] (sR hlt) wr HI.out.1)
      rw[hvi]at HC
      have HB:=lI HI.out.1
      clear hel hat
      obtain⟨s,hs⟩:∃s,s=qs fr tw l[k]:=⟨_,rfl⟩
      rw[←hs]at HN HG
      have hs2:hasB l[k].pc l[k].ins.length fr tw=s:=hs.symm
      rw[hs2]at HC
      obtain⟨x,hx⟩:∃x,x=l[k].pc:=⟨_,rfl⟩
      obtain⟨nn,hnn⟩:∃n,n=l[k].ins.length:=⟨_,rfl⟩
      rw[←hx]at c0 HC
      rw[←hnn]at c1 HC
      clear hx hnn hs hs2 hvi
      go_wp2_with fail
      refine HC.out.mono ?_
      rintro e w2 ⟨rfl,hb2⟩
      have HB2:=lI (HB.out.trans (hb2.mono HB.out.size))
      clear hb2 c0 c1
      cases s with
      | true =>
        obtain rfl:=HN.out rfl
        go_wp2_with fail
        go_ret
        exact⟨rfl,HB2.out⟩
      | false =>
        go_wp2_with fail
        exact⟨⟨k+1,by simp,om,lI ⟨HB2.out,HG.out xB⟩⟩,by simp[intOf];omega⟩
    · obtain rfl:k=l.length:=om
      obtain rfl:=HR.out.trans (firstI_no (fun j hj=>HI.out.2 j hj hj))
      go_wp2_with fail
      go_ret
      exact⟨rfl,HI.out.1⟩
end Go.Proofs.YtlfnddmncbkjaabGreatDoor.W
namespace Go.Proofs.YtlfnddmncbkjaabGreatDoor.Fb
open Go.RowKit
structure jW (m:List Int) (room:Int) (bl:List BlkD):Prop where
  room0:0≤room
  room1:room≤64
  len:(bl.length:Int)≤room
  nodup:(pcs bl).Nodup
  kept:∀x∈bl,Kept m x.pc x.ins
theorem jW.ins{m:List Int}{room:Int}{bl:List BlkD}(h:jW m room bl):∀x∈bl,x.ins.length≤16:=fun x hx=>(h.kept x hx).len
theorem putL_mem{room:Int}{l:List BlkD}{y x:BlkD}(h:x∈putL room l y):x∈l∨x=y:=by
  have key:x∈dq (qw l y.pc) l++[y]:=by
    unfold putL at h
    split at h
    · exact List.mem_of_mem_drop h
    · exact h
  rcases List.mem_append.1 key with h1|h1
  · exact .inl (dq_mem h1)
  · exact .inr (by simpa using h1)
theorem jW.put{m:List Int}{room:Int}{bl:List BlkD}(h:jW m room bl){y:BlkD}(hy:Kept m y.pc y.ins):jW m room (putL room bl y):=by
  obtain⟨h1,h2,h3,-⟩:=putL_keeps h.room0 h.len h.nodup h.ins (y:=y) hy.len
  refine⟨h.room0,h.room1,h2,h1,fun x hx=> ?_⟩
  rcases putL_mem hx with h4|rfl
  · exact h.kept x h4
  · exact hy
def Qx:List (Int × Int)→List BlkD→List BlkD
  |[],bl=>bl
  |p::r,bl=>Qx r (bl.filter (fun x=> !qs p.1 p.2 x))
theorem UF:∀(st:List (Int × Int)) (bl:List BlkD),(Qx st bl).Sublist bl
  |[],_=>List.Sublist.refl _
  |p::r,bl=>(UF r _).trans List.filter_sublist
theorem UG:∀(st:List (Int × Int)) (bl:List BlkD) (x:BlkD),x∈Qx st bl→x∈bl∧∀p∈st,qs p.1 p.2 x=false
  |[],_,_,h=>⟨h,(by intro p hp;cases hp)⟩
  | p :: r, bl, x, h => by
    obtain⟨h1,h2⟩:=UG r _ x h
    rw[List.mem_filter]at h1
    refine⟨h1.1,fun q hq=> ?_⟩
    rcases List.mem_cons.1 hq with rfl|hq
    · simpa using h1.2
    · exact h2 q hq
theorem jW.run{m m':List Int}{room:Int}{bl:List BlkD}(h:jW m room bl)(st:List (Int × Int))(hl:m'.length=m.length)(hm:m.length≤4096)(hp:∀p∈st,0≤p.1∧p.1<p.2∧p.2≤4096)
    (hf:∀q,0≤q→(∀p∈st,q+4≤p.1∨p.2≤q)→qe m' q=qe m q):jW m' room (Qx st bl):=by
  have hsub:=UF st bl
  refine⟨h.room0,h.room1,by have:=hsub.length_le;have:=h.len;omega,pcs_sub hsub h.nodup,fun x hx=> ?_⟩
  obtain⟨h1,h2⟩:=UG st bl x hx
  have k:=h.kept x h1
  have k1:=k.pos
  refine k.apart hl hm (fun q g1 g2=>hf q om (fun p hq=> ?_))
  have h3:=h2 p hq
  have h4:=hp p hq
  unfold qs hasB at h3
  rw[decide_eq_false_iff_not]at h3
  omega
theorem loop8_pick{s:St}(wf:s.Wf){k:Nat}(hk:k<s.harts.length)(bf bt left:Int):∀(n kk:Nat) (X:RunD),X.core0.Wf→X.m.length≤4096→0≤X.steps→X.h.state=0→
    ∃j:Nat,JX s k (js bf bt left n kk X)=qm k j (JX s k X)∧(js bf bt left n kk X).steps=X.steps+j
  |0,kk,X,wx,hm,h0,_=>⟨0,rfl,by show X.steps=_;omega⟩
  | n + 1, kk, X, wx, hm, h0, hs => by
    unfold js
    by_cases c:X.steps<left
    · rw[if_pos c]
      have hh:=outSt_hart hk X
      have hg:=outSt_go wf hk wx hm h0
      have hst:(jD X).steps=X.steps+1:=rfl
      have e2:∀j,qm k (j+1) (JX s k X)=qm k j (JX s k (jD X)):=fun j=>by
        rw[qm,hh,if_pos hs,hg]
      by_cases b:brk8 bf bt (pl8 bf (kk+1)) (goS X.core0)=true
      · rw[if_pos b]
        exact⟨1,(e2 0).symm,hst⟩
      · rw[if_neg b]
        have b':brk8 bf bt (pl8 bf (kk+1)) (goS X.core0)=false:=by simpa using b
        have hs':(jD X).h.state=0:=by
          unfold brk8 at b'
          simp only[Bool.or_eq_false_iff,bne_eq_false_iff_eq]at b'
          exact b'.1.1
        obtain⟨j,i1,i2⟩:=loop8_pick wf hk bf bt left n (kk+1) (jD X) (next8_wf wx) (by rw[uh];exact hm) (by rw[hst];omega) hs'
        exact⟨j+1,i1.trans (e2 j).symm,by rw[i2,hst];omega⟩
    · rw[if_neg c]
      exact⟨0,rfl,om⟩
theorem loop8_ml(bf bt left:Int):∀(n kk:Nat) (X:RunD),(js bf bt left n kk X).m.length=X.m.length
  |0,_,_=>rfl
  | n + 1, kk, X => by
    unfold js
    split
    · split
      · exact uh X
      · rw[loop8_ml bf bt left n (kk+1) (jD X),uh]
    · rfl
theorem set_hart{s:St}{k:Nat}(hk:k<s.harts.length):s.harts.set k (s.hart k)=s.harts:=by
  rw[St.hart_at hk];exact List.set_getElem_self hk
def runB(h:Hart)(m o:List Int)(bf bt:Int):RunD:={run0 h m bf bt with out:=o}
def runE(h:Hart)(m o:List Int)(bf bt:Int):RunD:={run0 h m bf bt with out:=o,here:=0}
theorem runE_wf{h:Hart}{m o:List Int}{bf bt:Int}(wf:h.Wf)(hb:jE m)(hl:m.length≤4096)(ho:∀x∈o,U32 x)(h1:U32 bf)(h2:U32 bt):(runE h m o bf bt).Wf:=
  {run0_wf wf hb om h1 h2 with out:=ho,here:=jr}
theorem block_turn{s1:St}(g:s1.Good){k:Nat}(hk:k<s1.harts.length)(hst:(s1.hart k).state=0){l:List InsD}(K:Kept s1.mem (s1.hart k).pc l){left:Nat}(hl:0<left){o0 o:List Int}(ho:s1.out=o0++o)
    (X:RunD) (hX:X=(runL left (mkM (s1.hart k).pc l) (runB (s1.hart k) s1.mem o (s1.hart k).pc (u32 ((s1.hart k).pc+4*(l.length:Int))))).fin):
    ∃j:Nat,X.steps=j∧1≤j∧j≤left∧(⟨qo k X.stores (s1.harts.set k X.h),X.m,o0++X.out,s1.steps+j⟩:St)=qm k j s1∧(∀p∈X.stores,0≤p.1∧p.1<p.2∧p.2≤4096)∧(∀room zs,jW s1.mem room zs→jW X.m room (Qx X.stores zs))∧X.m.length=s1.mem.length:=by
  have hm:=g.wf.mlen
  obtain⟨d,hd⟩:∃d,d=(runB (s1.hart k) s1.mem o (s1.hart k).pc (u32 ((s1.hart k).pc+4*(l.length:Int)))):=⟨_,rfl⟩
  rw[←hd]at hX
  have d1:d.h=s1.hart k:=xV
  have d2:d.m=s1.mem:=xV
  have d3:d.out=o:=xV
  have d4:d.steps=0:=xV
  have d5:d.stores=[]:=xV
  have wf0:d.core0.Wf:=by
    have h1:(s1.hart k).Wf:=g.wf.hart k
    refine⟨by rw[show d.core0.h=d.h from rfl,d1];exact h1,by rw[show d.core0.m=d.m from rfl,d2];exact g.wf.mem,yD,jr,jr,by rw[show d.core0.m=d.m from rfl,d2];omega,by show([]:List Int).length≤_;simp⟩
  have E:=steps8_kept (d:=d) (pc:=(s1.hart k).pc) (bt:=u32 ((s1.hart k).pc+4*(l.length:Int))) (left:=left) (l:=l) (by rw[d2];exact K) (by rw[d1]) wf0 (by rw[d2];exact hm) (by rw[d1];exact g.hart k) (by rw[d1];exact hst) xV xV xV xV rfl xV d4 om
  rw[←hX]at E
  obtain⟨L,hL⟩:∃L,L=js (s1.hart k).pc (u32 ((s1.hart k).pc+4*(l.length:Int))) left l.length 0 d:=⟨_,rfl⟩
  have hml:=loop8_ml (s1.hart k).pc (u32 ((s1.hart k).pc+4*(l.length:Int))) left l.length 0 d
  have hwf:({s1 with out:=o0}:St).Wf:=⟨g.wf.harts,g.wf.mem,g.wf.mlen,fun x hx=>g.wf.out x (by rw[ho];exact List.mem_append_left _ hx)⟩
  obtain⟨j,j1,j2⟩:=loop8_pick (s:={s1 with out:=o0}) hwf hk (s1.hart k).pc (u32 ((s1.hart k).pc+4*(l.length:Int))) left l.length 0 d wf0 (by rw[d2];exact hm) (by rw[d4];exact Int.le_refl _) (by rw[d1];exact hst)
  obtain⟨-,-,-,q4,q5,q6⟩:=outSt_loop (s:={s1 with out:=o0}) hwf hk (s1.hart k).pc (u32 ((s1.hart k).pc+4*(l.length:Int))) left l.length 0 d wf0 (by rw[d2];exact hm) (by rw[d4];exact Int.le_refl _) (by rw[d1];exact hst)
  obtain⟨nw,f1,f2,f3⟩:=loop8_fetch (s1.hart k).pc (u32 ((s1.hart k).pc+4*(l.length:Int))) left l.length 0 d wf0 (by rw[d2];exact hm)
  rw[←hL]at E j1 j2 q5 q6 f1 f3 hml
  rw[d4]at j2 q5 q6
  rw[d5,List.nil_append]at f1
  rw[d2]at hml f3
  have hlen:0<l.length:=List.length_pos_iff.2 K.ne
  have hs0:JX {s1 with out:=o0} k d=s1:=by
    unfold JX
    rw[d1,d2,d3,d4,d5,←ho]
    show(⟨s1.harts.set k (s1.hart k),s1.mem,s1.out,s1.steps+0⟩:St)=s1
    rw[set_hart hk]
    rfl
  rw[hs0]at j1
  have e5:=q5 hlen om
  have e6:=q6 om
  refine⟨j,by rw[←E.steps,j2];omega,om,om, ?_,fun p hp=>f2 p (by rw[←f1,E.stores];exact hp),fun room zs hz=> ?_,by rw[←E.m];exact hml⟩
  · rw[←j1,←E.stores,←E.h,←E.m,←E.out]
    unfold JX
    congr 1
    show s1.steps+j=s1.steps+L.steps.toNat
    rw[j2];omega
  · rw[←E.stores,←E.m]
    exact hz.run L.stores hml hm (by rw[f1];exact f2) (fun q hq hp=>f3 q hq (by rw[←f1];exact hp))
theorem trap_turn{s:St}{k:Nat}(hk:k<s.harts.length)(hm:s.mem.length≤4096)(he:(QU s.mem (s.hart k).pc).2=[]):((goM k s).hart k).state≠0:=by
  have e2:(QU s.mem (s.hart k).pc).2=rowS s.mem 16 (s.hart k).pc:=by unfold QU;rw[if_neg om]
  rw[e2,row_step]at he
  have hf:¬(qe s.mem (s.hart k).pc).2=0:=fun e=>by rw[if_pos e]at he;cases he
  have hh:(goM k s).hart k=(goS (⟨s.hart k,s.mem,[],0,0⟩:qF)).h:=by
    obtain⟨c,hc⟩:∃c,c=goS (⟨s.hart k,s.mem,[],0,0⟩:qF):=⟨_,rfl⟩
    have hl:k<(QD k c.fr c.tw s.harts.length (s.harts.set k c.h)).length:=by rw[QI,List.length_set];exact hk
    have e:(goM k s).hart k=(QD k c.fr c.tw s.harts.length (s.harts.set k c.h)).getD k QC:=by rw[hc];rfl
    rw[e,List.getD,sU hl,←hc]
    show(QD k c.fr c.tw s.harts.length (s.harts.set k c.h))[k]'hl=_
    rw[QV _ _ _ _ _ _ (by rw[List.length_set];exact hk),if_neg om,List.getElem_set_self]
  rw[hh]
  unfold goS
  rw[if_neg hf]
  have:=fetchS_c s.mem (s.hart k).pc
  show(2:Int)≠0
  decide
theorem pickM_ol{k:Nat}:∀(n:Nat) {s:St},s.Good→(qm k n s).out.length≤s.out.length+n
  |0,_,_=>sN _
  | n + 1, s, h => by
    unfold qm
    split
    · rename_i hs
      have h1:=pickM_ol (k:=k) n (goM_good h hs)
      have hf:=goS_fin (s.hart k) s.mem (h.hart k) hs
      have h2:(goM k s).out.length≤s.out.length+1:=by
        show(s.out++(goS _).out).length≤_
        have:=hf.ol
        rw[sW];omega
      omega
    · omega
open Go.RowKit Go.Maps
structure Fr (S:Nat→Prop) (w w':World):Prop where
  os:w'.os=w.os
  tape:w'.tape=w.tape
  output:w'.output=w.output
  size:w.heap.size≤w'.heap.size
  block:∀j,j<w.heap.size→¬S j→w'.heap[j]? =w.heap[j]?
theorem Fr.refl(S:Nat→Prop)(w:World):Fr S w w:=⟨rfl,rfl,rfl,sN _,fun _ _ _=>rfl⟩
theorem Fr.trans{S S':Nat→Prop}{a b c:World}(h:Fr S a b)(k:Fr S' b c)(hS:∀j,j<a.heap.size→S' j→S j):Fr S a c:=
  ⟨k.os.trans h.os,k.tape.trans h.tape,k.output.trans h.output,Nat.le_trans h.size k.size,fun j hj hn=>(k.block j (Nat.lt_of_lt_of_le hj h.size) (fun hs=>hn (hS j hj hs))).trans (h.block j hj hn)⟩
theorem Fr.shp{S:Nat→Prop}{a b:World}(h:Fr S a b){k:Nat}(hk:k<a.heap.size)(hS:¬S k):QK b.heap[k]? a.heap[k]? :=QK.of_eq (h.block k hk hS)
theorem Fr.mono{S S':Nat→Prop}{a b:World}(h:Fr S a b)(hS:∀j,j<a.heap.size→S j→S' j):Fr S' a b:=⟨h.os,h.tape,h.output,h.size,fun j hj hn=>h.block j hj (fun hs=>hn (hS j hj hs))⟩
theorem Fr.of_below{S:Nat→Prop}{B:Nat}{a b:World}(h:Below B a b)(hB:∀j,B≤j→j<a.heap.size→S j):Fr S a b:=⟨h.os,h.tape,h.output,h.size,fun j hj hn=>h.block j (Nat.lt_of_not_le (fun hle=>hn (hB j hle hj)))⟩
theorem Fr.below{S:Nat→Prop}{B:Nat}{a b:World}(h:Fr S a b)(hB:∀j,j<B→¬S j)(hle:B≤a.heap.size):Below B a b:=⟨h.os,h.tape,h.output,h.size,fun j hj=>h.block j om (hB j hj)⟩
theorem Fr.of_chg{S:Nat→Prop}{T:Addr→Prop}{a b:World}(h:Chg T a b)(hS:∀j o,T ⟨j,o,none⟩→S j):Fr S a b:=⟨h.os,h.tape,h.output,h.size,fun j hj hn=>h.block j hj (fun o ho=>hn (hS j o ho))⟩
theorem Fr.of_grown{S:Nat→Prop}{a b:World}{row:Option Nat}(h:a.grownBy b row)(hS:∀j,some j=row→S j):Fr S a b:=⟨h.os,h.tape,h.output,h.size,fun j hj hn=>h.block j hj (fun e=>hn (hS j e))⟩
theorem Fr.setCells{S:Nat→Prop}{a b:World}(h:Fr S a b)(g:Nat)(hg:S g):∀(vs:List Value) (o:Nat),Fr S a (b.setCells g o vs):=fun vs o=>
  h.trans (S':=fun j=>j=g) (by
    have key:∀(vs:List Value) (o:Nat) (b:World),Fr (fun j=>j=g) b (b.setCells g o vs):=by
      intro vs
      induction vs with
      |nil=>intro o b;exact Fr.refl _ _
      | cons v r ih =>
        intro o b
        show Fr _ b ((b.setCell ⟨g,o,none⟩ v).setCells g (o+1) r)
        have h1:Fr (fun j=>j=g) b (b.setCell ⟨g,o,none⟩ v):=⟨rfl,rfl,rfl,by simp,fun j _ hn=>sT _ _ _ _ hn⟩
        exact h1.trans (ih (o+1) _) (fun j _ h=>h)
    exact key vs o b) (fun j _ e=>by subst e;exact hg)
theorem Fr.drewN{S:Nat→Prop}{a b:World}(h:Fr S a b)(n:Nat):Fr S a (b.drewN n):=⟨h.os,h.tape,h.output,h.size,h.block⟩
theorem Fr.drew{S:Nat→Prop}{a b:World}(h:Fr S a b):Fr S a b.drew:=⟨h.os,h.tape,h.output,h.size,h.block⟩
theorem Fr.setCell{S:Nat→Prop}{a b:World}(h:Fr S a b)(p:Addr)(v:Value)(hp:S p.block):Fr S a (b.setCell p v):=
  h.trans (S':=fun j=>j=p.block) ⟨rfl,rfl,rfl,by simp,fun j _ hn=>sT _ _ _ _ hn⟩ (fun j _ e=>by subst e;exact hp)
def heldR(v:Value):Option (DataW Value × List MemPlace):=some (.held v,[])
def FarA(A:Nat→Prop)(v:Value)(l:List BlkD):Prop:=(∀q,v.ownBlock=some q→A q)∧∀x∈l,∀q,x.vi.ownBlock=some q→A q
theorem Far.toA{A:Nat→Prop}{B:Nat}{v:Value}{l:List BlkD}(h:Far B v l)(hA:∀q,B≤q→A q):FarA A v l:=⟨fun q e=>hA q (h.1 q e),fun x hx q e=>hA q (h.2 x hx q e)⟩
structure EnB (A:Nat→Prop) (TE TB TI:TypeId) (ep mp bp:Nat) (w:World) (room pu st:Int) (v:Value) (zs:List BlkD):Prop where
  ty:∃cs f,w.heap[ep]? =some (.cells cs TE f)
  at_:At w ep 0 [.pointer (some ⟨bp,0,none⟩),.int .i64 room,v,.int .i64 pu,.int .i64 st,.map (some mp)]
  frz:∀o,w.frozen? ⟨ep,o,none⟩=false
  blks:Blks w v zs
  far:FarA A v zs
  typ:Typ TB TI w v zs
def EnC(A:Nat→Prop)(P:Program)(K TM:TypeId)(ep mp:Nat)(w:World)(zs:List BlkD)(n:Nat):Prop:=
  mp<ep∧∃D,w.ownsMap P K heldR mp n D∧∀x∈zs,∃vc,D.atKey (.int .u32 x.pc) (.held (.slice none 0 0))=.held vc∧Sl w vc 5 (mkM x.pc x.ins).length ((mkM x.pc x.ins).flatMap jq)∧∀q,vc.ownBlock=some q→A q∧∃cs f,w.heap[q]? =some (.cells cs TM f)
def Row3(TB TI TM:TypeId)(w:World)(q:Nat):Prop:=∃cs f,w.heap[q]? =some (.cells cs TB f)∨w.heap[q]? =some (.cells cs TI f)∨w.heap[q]? =some (.cells cs TM f)
section
variable {A : Nat → Prop} {P : Program} {K TE TB TI TM TU : TypeId} {ep mp bp : Nat} {w w' : World} {room pu st pu' st' : Int} {v v' : Value} {zs zs' : List BlkD} {n : Nat}
theorem qT{q:Nat}{o:Obj}(h:w.heap[q]? =some o):q<w.heap.size:=(Array.getElem?_eq_some_iff.1 h).1
theorem EnB.lt(h:EnB A TE TB TI ep mp bp w room pu st v zs):ep<w.heap.size:=by obtain⟨cs,f,e⟩:=h.ty;exact qT e
theorem EnB.keep0(h:EnB A TE TB TI ep mp bp w room pu st v zs)(e0:w'.heap[ep]? =w.heap[ep]?)(hv:∀g,v.ownBlock=some g→w'.heap[g]? =w.heap[g]?)(hx:∀x∈zs,∀g,x.vi.ownBlock=some g→w'.heap[g]? =w.heap[g]?):EnB A TE TB TI ep mp bp w' room pu st v zs:=by
  refine⟨?_,fun j hj=>(qA e0 _).trans (h.at_ j hj),fun o=>(qL e0 o).trans (h.frz o),⟨QZ h.blks.1 hv,fun x hx'=>⟨QZ (h.blks.2 x hx').at_ (hx x hx'),(h.blks.2 x hx').pc⟩⟩,h.far,⟨fun g hg=> ?_,fun x hx' g hg=> ?_⟩⟩
  · obtain⟨cs,f,e⟩:=h.ty;exact⟨cs,f,e0.trans e⟩
  · obtain⟨cs,f,e⟩:=h.typ.1 g hg;exact⟨cs,f,(hv g hg).trans e⟩
  · obtain⟨cs,f,e⟩:=h.typ.2 x hx' g hg;exact⟨cs,f,(hx x hx' g hg).trans e⟩
theorem EnB.keep(h:EnB A TE TB TI ep mp bp w room pu st v zs)(hA:∀q,A q→ep<q)(hk:∀k,k<w.heap.size→(k=ep∨(ep<k∧A k∧Row3 TB TI TM w k))→w'.heap[k]? =w.heap[k]?):EnB A TE TB TI ep mp bp w' room pu st v zs:=by
  refine h.keep0 (hk ep h.lt (.inl rfl)) (fun g hg=> ?_) (fun x hx g hg=> ?_)
  · obtain⟨cs,f,e⟩:=h.typ.1 g hg
    exact hk g (qT e) (.inr ⟨hA g (h.far.1 g hg),h.far.1 g hg,cs,f,.inl e⟩)
  · obtain⟨cs,f,e⟩:=h.typ.2 x hx g hg
    exact hk g (qT e) (.inr ⟨hA g (h.far.2 x hx g hg),h.far.2 x hx g hg,cs,f,.inr (.inl e)⟩)
theorem EnC.keep(h:EnC A P K TM ep mp w zs n)(hA:∀q,A q→ep<q)(hk:∀k,k<w.heap.size→(k=mp∨(ep<k∧A k∧Row3 TB TI TM w k))→w'.heap[k]? =w.heap[k]?):EnC A P K TM ep mp w' zs n:=by
  obtain⟨h0,D,⟨es,clock,hb,F,hs,hD⟩,h2⟩:=h
  refine⟨h0,D,⟨es,clock,(hk mp (qT hb) (.inl rfl)).trans hb,F,hs,hD⟩,fun x hx=> ?_⟩
  obtain⟨vc,e1,e2,e3⟩:=h2 x hx
  have hv:∀g,vc.ownBlock=some g→w'.heap[g]? =w.heap[g]? :=fun g hg=>by
    obtain⟨h4,cs,f,e⟩:=e3 g hg
    exact hk g (qT e) (.inr ⟨hA g h4,h4,cs,f,.inr (.inr e)⟩)
  refine⟨vc,e1,QZ e2 hv,fun q hq=> ?_⟩
  obtain⟨h4,cs,f,e⟩:=e3 q hq
  exact⟨h4,cs,f,(hv q hq).trans e⟩
theorem EnB.below(h:EnB A TE TB TI ep mp bp w room pu st v zs)(hb:Below w.heap.size w w'):EnB A TE TB TI ep mp bp w' room pu st v zs:=h.keep0 (hb.block ep h.lt) (fun g hg=>by
  obtain⟨cs,f,e⟩:=h.typ.1 g hg
  exact hb.block g (qT e)) (fun x hx g hg=>by
  obtain⟨cs,f,e⟩:=h.typ.2 x hx g hg
  exact hb.block g (qT e))
theorem EnC.below(h:EnC A P K TM ep mp w zs n)(hb:Below w.heap.size w w'):EnC A P K TM ep mp w' zs n:=by
  obtain⟨h0,D,⟨es,clock,hB,F,hs,hD⟩,h2⟩:=h
  refine⟨h0,D,⟨es,clock,(hb.block mp (qT hB)).trans hB,F,hs,hD⟩,fun x hx=> ?_⟩
  obtain⟨vc,e1,e2,e3⟩:=h2 x hx
  refine⟨vc,e1,Sl.below e2 hb,fun q hq=> ?_⟩
  obtain⟨h4,cs,f,e⟩:=e3 q hq
  exact⟨h4,cs,f,(hb.block q (qT e)).trans e⟩
theorem EnB.weak{A':Nat→Prop}(h:EnB A TE TB TI ep mp bp w room pu st v zs)(hA:∀q,q<w.heap.size→A q→A' q):EnB A' TE TB TI ep mp bp w room pu st v zs:=⟨h.ty,h.at_,h.frz,h.blks,⟨fun q hq=>by
  obtain⟨cs,f,e⟩:=h.typ.1 q hq
  exact hA q (qT e) (h.far.1 q hq),fun x hx q hq=>by
  obtain⟨cs,f,e⟩:=h.typ.2 x hx q hq
  exact hA q (qT e) (h.far.2 x hx q hq)⟩,h.typ⟩
theorem EnC.weak{A':Nat→Prop}(h:EnC A P K TM ep mp w zs n)(hA:∀q,q<w.heap.size→A q→A' q):EnC A' P K TM ep mp w zs n:=by
  obtain⟨h0,D,h1,h2⟩:=h
  refine⟨h0,D,h1,fun x hx=> ?_⟩
  obtain⟨vc,e1,e2,e3⟩:=h2 x hx
  refine⟨vc,e1,e2,fun q hq=> ?_⟩
  obtain⟨h4,cs,f,e⟩:=e3 q hq
  exact⟨hA q (qT e) h4,cs,f,e⟩
theorem EnB.there(h:EnB A TE TB TI ep mp bp w room pu st v zs):w.there ep 1 4:=fun j hj=>by
  have h1:=h.at_ (j+1) zN
  refine⟨?_,h.frz _⟩
  rw[sM]at h1
  rw[Nat.add_comm 1 j,h1]
  simp[show j+1<6 by omega]
theorem EnC.lt(h:EnC A P K TM ep mp w zs n):mp<w.heap.size:=by obtain⟨_,D,⟨es,clock,hb,_⟩,_⟩:=h;exact qT hb
theorem EnC.sub(h:EnC A P K TM ep mp w zs n)(hs:∀x∈zs',∃y∈zs,x.pc=y.pc∧x.ins=y.ins):EnC A P K TM ep mp w zs' n:=by
  obtain⟨h0,D,h1,h2⟩:=h
  refine⟨h0,D,h1,fun x hx=> ?_⟩
  obtain⟨y,hy,e1,e2⟩:=hs x hx
  rw[e1,e2];exact h2 y hy
theorem EnB.store(h:EnB A TE TB TI ep mp bp w room pu st v zs)(hA:∀q,A q→ep<q)(hb:Blks w v' zs')(hf:FarA A v' zs')(ht:Typ TB TI w v' zs'):EnB A TE TB TI ep mp bp (w.setCells ep 1 [.int .i64 room,v',.int .i64 pu',.int .i64 st']) room pu' st' v' zs':=by
  have F:Fr (fun j=>j=ep) w (w.setCells ep 1 [.int .i64 room,v',.int .i64 pu',.int .i64 st']):=Fr.setCells (S:=fun j=>j=ep) (Fr.refl _ w) ep rfl _ _
  have hk:∀g,g<w.heap.size→ep<g→(w.setCells ep 1 [.int .i64 room,v',.int .i64 pu',.int .i64 st']).heap[g]? =w.heap[g]? :=fun g h1 h2=>F.block g h1 om
  have hv:∀g,v'.ownBlock=some g→(w.setCells ep 1 [.int .i64 room,v',.int .i64 pu',.int .i64 st']).heap[g]? =w.heap[g]? :=fun g hg=>by
    obtain⟨cs,f,e⟩:=ht.1 g hg
    exact hk g (qT e) (hA g (hf.1 g hg))
  have hx:∀x∈zs',∀g,x.vi.ownBlock=some g→(w.setCells ep 1 [.int .i64 room,v',.int .i64 pu',.int .i64 st']).heap[g]? =w.heap[g]? :=fun x hx g hg=>by
    obtain⟨cs,f,e⟩:=ht.2 x hx g hg
    exact hk g (qT e) (hA g (hf.2 x hx g hg))
  have g0:=h.at_.get (j:=0) rfl
  have g1:=h.at_.get (j:=1) rfl
  have g2:=h.at_.get (j:=2) rfl
  have g3:=h.at_.get (j:=3) rfl
  have g4:=h.at_.get (j:=4) rfl
  have g5:=h.at_.get (j:=5) rfl
  have e:w.setCells ep 1 [.int .i64 room,v',.int .i64 pu',.int .i64 st']=(((w.setCell ⟨ep,1,none⟩ (.int .i64 room)).setCell ⟨ep,2,none⟩ v').setCell ⟨ep,3,none⟩ (.int .i64 pu')).setCell ⟨ep,4,none⟩ (.int .i64 st'):=rfl
  simp only[sM]at g0 g1 g2 g3 g4 g5
  have ot:∀(W:World) (i j:Nat) (u:Value),i≠j→(W.setCell ⟨ep,j,none⟩ u).cell? ⟨ep,i,none⟩=W.cell? ⟨ep,i,none⟩:=fun W i j u hn=>sJ _ _ _ _ zD
  refine⟨?_, ?_,fun o=> ?_,⟨QZ hb.1 hv,fun x hx'=>⟨QZ (hb.2 x hx').at_ (hx x hx'),(hb.2 x hx').pc⟩⟩,hf,⟨fun g hg=> ?_,fun x hx' g hg=> ?_⟩⟩
  · rw[e];exact jQ (jQ (jQ (jQ h.ty)))
  · rw[e]
    refine qj ?_ (qj ?_ (qj ?_ (qj ?_ (qj ?_ (qj ?_ uR)))))
    · exact(ot _ _ _ _ om).trans ((ot _ _ _ _ om).trans ((ot _ _ _ _ om).trans ((ot _ _ _ _ om).trans g0)))
    · exact(ot _ _ _ _ om).trans ((ot _ _ _ _ om).trans ((ot _ _ _ _ om).trans (sK _ _ _ g1)))
    · exact(ot _ _ _ _ om).trans ((ot _ _ _ _ om).trans (sK _ _ _ ((ot _ _ _ _ om).trans g2)))
    · exact(ot _ _ _ _ om).trans (sK _ _ _ ((ot _ _ _ _ om).trans ((ot _ _ _ _ om).trans g3)))
    · exact sK _ _ _ ((ot _ _ _ _ om).trans ((ot _ _ _ _ om).trans ((ot _ _ _ _ om).trans g4)))
    · exact(ot _ _ _ _ om).trans ((ot _ _ _ _ om).trans ((ot _ _ _ _ om).trans ((ot _ _ _ _ om).trans g5)))
  · rw[e];simp only[sL];exact h.frz o
  · obtain⟨cs,f,e⟩:=ht.1 g hg;exact⟨cs,f,(hv g hg).trans e⟩
  · obtain⟨cs,f,e⟩:=ht.2 x hx' g hg;exact⟨cs,f,(hx x hx' g hg).trans e⟩
theorem key_ok{x:Int}(h:U32 x):(Lit.int .u32 x).wf=true:=WalkArith.wf_u32 ⟨h.1,by have:=h.2;omega⟩
theorem EnC.put{T E:TypeId}(h:EnC A P K TM ep mp w zs n)(hA:∀q,A q→ep<q)(hK:P.underlying K=some (.int .u32))(hT:P.underlying T=some (.map K E))(hn:n<maxLen){y:BlkD}(hy:U32 y.pc){vc:Value}(hc:Sl w vc 5 (mkM y.pc y.ins).length ((mkM y.pc y.ins).flatMap jq))(hq:∀q,vc.ownBlock=some q→A q∧∃cs f,w.heap[q]? =some (.cells cs TM f))
    (hz:∀x∈zs',U32 x.pc∧((x.pc=y.pc∧x.ins=y.ins)∨(x.pc≠y.pc∧∃z∈zs,x.pc=z.pc∧x.ins=z.ins))):
    ∃w',(Instr.mapUpdate T (.map (some mp)) (.int .u32 y.pc) vc).run P w=.ok () w'∧EnC A P K TM ep mp w' zs' (n+1)∧Fr (fun j=>j=mp) w w':=by
  obtain⟨h0,D,h1,h2⟩:=h
  obtain⟨w',r1,r2,r3⟩:=h1.update (int_keyed hK) hT hn (keyOf_int_mk hK (key_ok hy)) (show heldR vc=some (.held vc,[])from rfl)
  have F:Fr (fun j=>j=mp) w w':=Fr.of_grown r3 (fun j e=>by cases e;rfl)
  refine⟨w',r1,⟨h0,_,r2,fun x hx=> ?_⟩,F⟩
  have hfar:∀vc:Value,(∀q,vc.ownBlock=some q→A q∧∃cs f,w.heap[q]? =some (.cells cs TM f))→∀g,vc.ownBlock=some g→w'.heap[g]? =w.heap[g]? :=fun vc hv g hg=>by
    obtain⟨h4,cs,f,e⟩:=hv g hg
    exact F.block g (qT e) (by have:=hA g h4;omega)
  obtain⟨hu,hx'|⟨hne,z,hz',e1,e2⟩⟩:=hz x hx
  · rw[hx'.1,hx'.2]
    refine⟨vc,atKey_put_same h1.isMap (show WideAt.IsKeyLit (.int .u32 y.pc)from trivial) _ _,QZ hc (hfar vc hq),fun q e=> ?_⟩
    obtain⟨h4,cs,f,e4⟩:=hq q e
    exact⟨h4,cs,f,(hfar vc hq q e).trans e4⟩
  · obtain⟨vz,q1,q2,q3⟩:=h2 z hz'
    rw[e1,e2]
    refine⟨vz,(atKey_put_other (by intro e;injection e with _ e3;exact hne (by rw[e1,e3])) _ _).trans q1,QZ q2 (hfar vz q3),fun q e=> ?_⟩
    obtain⟨h4,cs,f,e4⟩:=q3 q e
    exact⟨h4,cs,f,(hfar vz q3 q e).trans e4⟩
theorem EnC.look{T E:TypeId}(h:EnC A P K TM ep mp w zs n)(hK:P.underlying K=some (.int .u32))(hT:P.underlying T=some (.map K E))(hz0:∀W,(zeroValue E).run P W=.ok (.slice none 0 0) W){x:BlkD}(hx:x∈zs)(hu:U32 x.pc):
    ∃vc,(∀W:World,W.heap[mp]? =w.heap[mp]? →(Instr.lookup T (.map (some mp)) (.int .u32 x.pc) false).run P W=.ok vc W)∧Sl w vc 5 (mkM x.pc x.ins).length ((mkM x.pc x.ins).flatMap jq)∧∀q,vc.ownBlock=some q→A q∧∃cs f,w.heap[q]? =some (.cells cs TM f):=by
  obtain⟨h0,D,h1,h2⟩:=h
  obtain⟨vc,e1,e2,e3⟩:=h2 x hx
  refine⟨vc,fun W hW=> ?_,e2,e3⟩
  obtain⟨es,clock,hb,F,hs,hD⟩:=h1
  have h1':W.ownsMap P K heldR mp n D:=⟨es,clock,hW.trans hb,F,hs,hD⟩
  obtain⟨u,ps,r1,r2⟩:=h1'.lookup (int_keyed hK) hT (hz0 W) (show heldR (.slice none 0 0)=some (.held (.slice none 0 0),[])from rfl) (keyOf_int_mk hK (key_ok hu))
  rw[e1]at r2
  have:u=vc:=by
    injection r2 with r3
    injection r3 with r4
    injection r4
  rw[this]at r1
  exact r1
theorem Wk.other{bh hc cp k:Nat}{vm vo:Value}{ty:TypeId}{o0 o:List Int}{fr tw:Int}{s:St}{S:Nat→Prop}(h:Wk bp bh hc cp k vm vo ty o0 o fr tw w s)(hF:Fr S w w')(h1:¬S bp)(h2:¬S bh)(h3:∀j,cp≤j→¬S j)(h4:∀j,vm.ownBlock=some j→¬S j)(h5:∀j,vo.ownBlock=some j→¬S j):
    Wk bp bh hc cp k vm vo ty o0 o fr tw w' s:=by
  have b1:=h.b1
  have b2:=h.b2
  have hlt:=h.clt
  have e:=hF.block bp om h1
  have eh:=hF.block bh om h2
  refine⟨h.core.move (h':=s.hart k) (hF.block cp hlt (h3 _ (sN _))) (fun g hg=>hF.block g (by have:=h.mlt g hg;omega) (h4 g hg)) (fun g hg hg2=>hF.block g hg2 (h3 g om)) hF.size (fun j hj=>(qA eh _).trans (h.core.hart j hj)) (fun o=>(qL eh o).trans (h.core.hfz o)),h.b1,h.b2,(qA e _).trans h.c0,(qA e _).trans h.c1,(qA e _).trans h.c2,(qA e _).trans h.c3,fun o=>(qL e o).trans (h.frz o),fun j hj=>(qA eh _).trans (h.harts j hj),h.mlt,qI h.own (fun g hg=>hF.block g (h.own.lt g hg).2 (h5 g hg)),h.vlt,h.kl,h.hcap⟩
end
end Go.Proofs.YtlfnddmncbkjaabGreatDoor.Fb
