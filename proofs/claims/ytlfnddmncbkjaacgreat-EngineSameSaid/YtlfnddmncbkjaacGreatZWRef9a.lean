import Derived.Test.YtlfnddmncbkjaacGreatZGA
import Derived.Test.YtlfnddmncbkjaacGreatZHL
set_option linter.unusedVariables false
set_option linter.unusedSimpArgs false
set_option maxRecDepth 100000
set_option maxHeartbeats 4000000
namespace Go.Proofs.YtlfnddmncbkjaacGreat.Fb
end Go.Proofs.YtlfnddmncbkjaacGreat.Fb
namespace Go.Proofs.YtlfnddmncbkjaacGreat.W
open Go.RowKit Fb
theorem same9_any(room pu st:Int)(v v':Value)(l l':List BlkD)(w:World)(hv:Blks w v l)(hv':Blks w v' l')(he:l.map BlkD.abs=l'.map BlkD.abs):
    Calls Tryz.prog 8 #[.agg #[.int .i64 room,v,.int .i64 pu,.int .i64 st],.agg #[.int .i64 room,v',.int .i64 pu,.int .i64 st]] w fun e w'=>e=.returned (.bool true)∧Below w.heap.size w w':=by
  have hll:l'.length=l.length:=by have:=congrArg List.length he;simpa using this.symm
  have hvv:Sl w v' 2 l.length (l'.flatMap qw):=by have:=hv'.1;rw[hll]at this;exact this
  obtain⟨ao,cap,rfl,hc,hm,-,ho⟩:=hv.1.open (fun _ _=>rfl) om
  obtain⟨ao',cap',e,hc',hm',-,ho'⟩:=hv'.1.open (fun _ _=>rfl) om
  rw[hll]at e hc'
  subst e
  unfold maxLen at hm hm'
  have HO:=lI ho
  have HO':=lI ho'
  have HV:=lI hv
  have HV':=lI hv'
  have HE:=lI he
  have HLL:=lI hll
  obtain⟨w1,hw1⟩:∃w1,w1=(w.alloc (.cells #[.int .i64 room,.slice ao l.length cap,.int .i64 pu,.int .i64 st] 35)).alloc (.cells #[.int .i64 room,.slice ao' l.length cap',.int .i64 pu,.int .i64 st] 35):=⟨_,rfl⟩
  have hb1:Below w.heap.size w w1:=zK
  have hs1:w1.heap.size=w.heap.size+2:=yD
  have c0:(w1).cell? ⟨w.heap.size,0,none⟩=some (.int .i64 room):=zA
  have c1:(w1).cell? ⟨w.heap.size,1,none⟩=some (.slice ao l.length cap):=zA
  have c2:(w1).cell? ⟨w.heap.size,2,none⟩=some (.int .i64 pu):=zA
  have c3:(w1).cell? ⟨w.heap.size,3,none⟩=some (.int .i64 st):=zA
  have d0:(w1).cell? ⟨w.heap.size+1,0,none⟩=some (.int .i64 room):=zA
  have d1:(w1).cell? ⟨w.heap.size+1,1,none⟩=some (.slice ao' l.length cap'):=zA
  have d2:(w1).cell? ⟨w.heap.size+1,2,none⟩=some (.int .i64 pu):=zA
  have d3:(w1).cell? ⟨w.heap.size+1,3,none⟩=some (.int .i64 st):=zA
  have HW1:=lI hw1
  have HB1:=lI hb1
  have HCD:=lI (And.intro c1 d1)
  clear hw1 hb1 ho ho' hv hv' he hll hvv
  go_enter Tryz.func8,Tryz.ntmps8
  go_upto_region 1 with(fail)
  rw[←HW1.out]
  go_wp2_with fail
  clear c0 c1 c2 c3 d0 d1 d2 d3
  go_loopw [5] (fun i wr=>∃k:Nat,i=.int .i64 k∧k≤l.length∧Hid (Below w1.heap.size w1 wr)) (fun i _=>l.length-(intOf i).toNat)
  case atStart=>exact⟨0,rfl,om,lI br⟩
  case round=>
    obtain⟨k,rfl,hk,HI⟩:=hrel
    have l1:w.heap.size<w1.heap.size:=om
    have l2:w.heap.size+1<w1.heap.size:=om
    have c1:=(HI.out.cell (p:=⟨w.heap.size,1,none⟩) l1).trans HCD.out.1
    have d1:=(HI.out.cell (p:=⟨w.heap.size+1,1,none⟩) l2).trans HCD.out.2
    have hsr:=HI.out.size
    by_cases hlt:k<l.length
    · obtain⟨b,off,rfl,hbl,hel⟩:=HO.out zR
      have hlt':k<l'.length:=by rw[HLL.out];exact hlt
      obtain⟨b',off',rfl,hbl',hel'⟩:=HO'.out (by intro e;rw[e]at hlt';simp at hlt')
      have HBW:Hid (Below w.heap.size w wr):=lI (HB1.out.trans (HI.out.mono om))
      obtain⟨x,hx⟩:∃x,x=l[k]:=⟨_,rfl⟩
      obtain⟨y,hy⟩:∃y,y=l'[k]:=⟨_,rfl⟩
      have hab:x.abs=y.abs:=by
        have h1:(l.map BlkD.abs)[k]? =(l'.map BlkD.abs)[k]? :=by rw[HE.out]
        simp[hlt,hlt',←hx,←hy]at h1
        exact h1
      have hxo:=HV.out.2 x (by rw[hx];exact sU hlt)
      have hyo:=HV'.out.2 y (by rw[hy];exact sU hlt')
      have HX:Hid (∀W,Below wr.heap.size wr W→At W b (off+k*2) (qw x)):=lI (fun W hW=>by rw[hx];exact(hel k hlt).of_lt (HBW.out.trans (hW.mono om)) hbl)
      have HY:Hid (∀W,Below wr.heap.size wr W→At W b' (off'+k*2) (qw y)):=lI (fun W hW=>by rw[hy];exact(hel' k hlt').of_lt (HBW.out.trans (hW.mono om)) hbl')
      have HS:Hid (∀W,Below wr.heap.size wr W→Calls Tryz.prog 17 #[.agg #[.int .u32 x.pc,x.vi],.agg #[.int .u32 y.pc,y.vi]] W fun e w'=>e=.returned (.bool true)∧Below W.heap.size W w'):=lI (fun W hW=>by
        have hbw:Below w.heap.size w W:=HBW.out.trans (hW.mono om)
        have e1:x.pc=y.pc:=congrArg Prod.fst hab
        have e2:x.ins=y.ins:=congrArg Prod.snd hab
        rw[←e1]
        exact same6_any x.vi y.vi x.ins x.pc W (hxo.below hbw).at_ (by rw[e2];exact(hyo.below hbw).at_))
      have i0:(0:Int)≤(k:Int):=om
      have i1:(k:Int)<(l.length:Int):=om
      have HI2:=HI
      have hlw:w.heap.size<wr.heap.size:=om
      have hlw1:w.heap.size+1<wr.heap.size:=om
      clear hel hel' hx hy hab hxo hyo
      go_wp2_with fail
      refine region_quiet_lit (fun W=>Below wr.heap.size wr W) kr kr (Below.drew br) ?_
      quiet_step ((intro _;rfl))
      refine Jt rfl 33 _ rfl ⟨w.heap.size,1,none⟩ rfl (.slice (some ⟨b,off,none⟩) l.length cap) (fun W hW=>by have hc:=(hW.cell (p:=⟨w.heap.size,1,none⟩) hlw).trans c1;go_simp) ?_
      iterate 2 quiet_step ((intro _;rfl))
      refine Qq rfl 65 _ rfl b (off+k*2) rfl #[.int .u32 x.pc,x.vi] _ (fun W hW=>HX.out W hW) Tryz.underlying65 rfl xX ?_
      quiet_step ((intro _;rfl))
      refine Jt rfl 33 _ rfl ⟨w.heap.size+1,1,none⟩ rfl (.slice (some ⟨b',off',none⟩) l.length cap') (fun W hW=>by have hc:=(hW.cell (p:=⟨w.heap.size+1,1,none⟩) hlw1).trans d1;go_simp) ?_
      iterate 2 quiet_step ((intro _;rfl))
      refine Qq rfl 65 _ rfl b' (off'+k*2) rfl #[.int .u32 y.pc,y.vi] _ (fun W hW=>HY.out W hW) Tryz.underlying65 rfl xX ?_
      quiet_step ((intro hC;exact(HS.out _ hC).mono (fun e w'' ⟨he,hb⟩=>⟨he,hC.trans (hb.mono hC.size)⟩)))
      quiet_step ((intro _;rfl))
      refine wpQuiet_nil ?_
      intro w6 hb6
      go_wp2_with fail
      go_roundw
      case rel=>exact⟨k+1,by simp,om,lI (HI2.out.trans (hb6.mono hsr))⟩
      case measure=>simp[intOf];omega
    · obtain rfl:k=l.length:=om
      go_wp2_with fail
      go_ret
      exact⟨rfl,HB1.out.trans (HI.out.mono om)⟩
end Go.Proofs.YtlfnddmncbkjaacGreat.W
