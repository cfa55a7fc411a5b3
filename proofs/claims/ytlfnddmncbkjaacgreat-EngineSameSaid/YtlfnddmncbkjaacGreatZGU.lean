import Derived.Test.YtlfnddmncbkjaacGreatZWRun8b
set_option linter.unusedVariables false
set_option linter.unusedSimpArgs false
set_option maxRecDepth 100000
set_option maxHeartbeats 4000000
namespace Go.Proofs.YtlfnddmncbkjaacGreat.W
open Go.RowKit Fb
section
variable {cp hb ho : Nat} {vm : Value} {d : qD} {w : World}
theorem atom_any(h:qP cp hb ho vm 43 w d)(wf:d.Wf)(op a b:Int)(hop:46≤op∧op≤56)(ha:U32 a)(hb':U32 b):
    Calls Tryz.prog 76 #[.pointer (some ⟨cp,0,none⟩),.int .i64 op,.int .u32 a,.int .u32 b] w fun e w'=>e=.returned (.tuple #[.int .u32 (qY d op a b).2.1,.bool (qY d op a b).2.2])∧qP cp hb ho vm 43 w' (qY d op a b).1∧Cgo cp hb ho vm 43 w w':=by
  have hl:=lI (load_any vm d.m 13 a w h.bytes ha wf.m.getD)
  have hlu:=lI (Ju d.m 13 a om ha wf.m.getD)
  have hne:=h.hbl
  have H:=lI h
  have HA:=lI ha
  have HB:=lI hb'
  obtain⟨o0,o1⟩:=hop
  clear ha hb'
  cases hok:qN d.m 13 a with
  | false =>
    have hT:=lI (uC h wf.h 4)
    rw[hok]at hl
    by_cases h46:op=46
    · subst h46
      have e:qY d 46 a b=(d.trap 3,0,false):=by unfold qY;rw[hok];rfl
      rw[e]
      clear e
      have hp:=h.ptr
      have hm:=h.mem
      clear h
      go_enter Tryz.func76,Tryz.ntmps76
      go_wp2_with fail
      refine hl.out.mono ?_
      rintro e w' ⟨rfl,rfl⟩
      clear hp hm
      go_wp2_with fail
      refine hT.out.mono ?_
      rintro e w1 ⟨rfl,hc1,hg1⟩
      have hT2:=lI (uC hc1 (wf.trap 4 om).h 3)
      have HG:=lI hg1
      clear hc1 hg1 hT hl
      go_wp2_with fail
      refine hT2.out.mono ?_
      rintro e w2 ⟨rfl,hc2,hg2⟩
      go_wp2_with fail
      go_ret2
      exact⟨rfl,hc2,HG.out.trans hg2⟩
    · have e:qY d op a b=(d.trap 4,0,false):=by unfold qY;rw[hok,if_neg zL,if_neg h46]
      rw[e]
      clear e
      have hp:=h.ptr
      have hm:=h.mem
      clear h
      go_enter Tryz.func76,Tryz.ntmps76
      go_wp2_with fail
      refine hl.out.mono ?_
      rintro e w' ⟨rfl,rfl⟩
      clear hp hm
      go_wp2_with fail
      refine hT.out.mono ?_
      rintro e w1 ⟨rfl,hc1,hg1⟩
      go_wp2_with fail
      go_ret2
      exact⟨rfl,hc1,hg1⟩
  | true =>
    rw[hok]at hl
    obtain⟨old,hold⟩:∃x,x=qa d.m 13 a:=⟨_,rfl⟩
    rw[←hold]at hl hlu
    have h33:=h.hart.get (Jk wf.h)
    have h34:=h.hart.get (JX wf.h)
    have f33:=h.hfz (ho+33)
    have f34:=h.hfz (ho+34)
    have hp:=h.ptr
    have hm:=h.mem
    by_cases h46:op=46
    · subst h46
      have e:qY d 46 a b=(d.hold true a,old,true):=by unfold qY;rw[hok,←hold];rfl
      rw[e]
      clear e h hold
      go_enter Tryz.func76,Tryz.ntmps76
      go_upto_region 1 with(fail)
      go_wp2_with (go_at_call 69;refine hl.out.mono ?_;rintro e w' ⟨rfl,rfl⟩)
      go_region
      all_goals go_wp2_with fail
      all_goals go_ret2
      all_goals exact⟨rfl,((H.out.setHart 33 _ _ (Ql wf.h.len true) xV).setHart 34 _ _ (QU (h:={d.h with held:=true}) wf.h.len a) wM).below (Below.drew br),((Cgo.setHart _ 33 om _).trans (Cgo.setHart _ 34 om _)).drew⟩
    · by_cases h47:op=47
      · subst h47
        by_cases hq:(d.h.held&&d.h.heldAt==a)=true
        · have e:qY d 47 a b=((d.put 18 a b).hold false 0,0,true):=by unfold qY;rw[hok,if_pos rfl,if_neg om,if_pos rfl,if_pos hq]
          rw[e]
          clear e hold
          rw[Bool.and_eq_true,beq_iff_eq]at hq
          obtain⟨q1,q2⟩:=hq
          rw[q1]at h33
          rw[q2]at h34
          have HPut:=lI (cput_any h wf 18 a b HA.out HB.out)
          clear h f33 f34
          go_enter Tryz.func76,Tryz.ntmps76
          go_upto_region 1 with(fail)
          go_wp2_with (go_at_call 69;refine hl.out.mono ?_;rintro e w' ⟨rfl,rfl⟩)
          refine HPut.out.mono ?_
          rintro e w1 ⟨rfl,hc1,hg1⟩
          have hl2:qJ (d.put 18 a b).h=qJ d.h:=by rw[qD.put_h]
          have wf2:(d.put 18 a b).h.Wf:=by rw[qD.put_h];exact wf.h
          clear h33 h34 hp hm
          have hp:=hc1.ptr
          have h33:=hc1.hart.get (Jk wf2)
          have h34:=hc1.hart.get (JX wf2)
          have f33:=hc1.hfz (ho+33)
          have f34:=hc1.hfz (ho+34)
          have H1:=lI hc1
          have G1:=lI hg1
          clear hc1 hg1 HPut hl
          go_wp2_with fail
          go_region
          all_goals go_wp2_with fail
          all_goals go_ret2
          all_goals exact⟨rfl,((H1.out.setHart 33 _ _ (Ql wf2.len false) yS).setHart 34 _ _ (QU (h:={(d.put 18 a b).h with held:=false}) wf2.len 0) (by have:=qO wf2;unfold qJ at *;simp at *;omega)).below (Below.drew br),((G1.out.trans (Cgo.setHart _ 33 om _)).trans (Cgo.setHart _ 34 om _)).drew⟩
        · have e:qY d 47 a b=(d.hold false 0,1,true):=by unfold qY;rw[hok,if_pos rfl,if_neg om,if_pos rfl,if_neg hq]
          rw[e]
          clear e h hold
          rw[Bool.and_eq_true,beq_iff_eq]at hq
          cases hh:d.h.held with
          | false =>
            rw[hh]at h33
            clear hq
            go_enter Tryz.func76,Tryz.ntmps76
            go_upto_region 1 with(fail)
            go_wp2_with (go_at_call 69;refine hl.out.mono ?_;rintro e w' ⟨rfl,rfl⟩)
            go_region
            all_goals go_wp2_with fail
            all_goals go_ret2
            all_goals exact⟨rfl,((H.out.setHart 33 _ _ (Ql wf.h.len false) xV).setHart 34 _ _ (QU (h:={d.h with held:=false}) wf.h.len 0) wM).below (Below.drew br),((Cgo.setHart _ 33 om _).trans (Cgo.setHart _ 34 om _)).drew⟩
          | true =>
            have hq2:¬d.h.heldAt=a:=fun e=>hq ⟨hh,e⟩
            rw[hh]at h33
            clear hq
            go_enter Tryz.func76,Tryz.ntmps76
            go_upto_region 1 with(fail)
            go_wp2_with (go_at_call 69;refine hl.out.mono ?_;rintro e w' ⟨rfl,rfl⟩)
            go_region
            all_goals go_wp2_with fail
            all_goals go_ret2
            all_goals exact⟨rfl,((H.out.setHart 33 _ _ (Ql wf.h.len false) xV).setHart 34 _ _ (QU (h:={d.h with held:=false}) wf.h.len 0) wM).below (Below.drew br),((Cgo.setHart _ 33 om _).trans (Cgo.setHart _ 34 om _)).drew⟩
      · have e:qY d op a b=(d.put 18 a (amo op old b),old,true):=by unfold qY;rw[hok,if_pos rfl,if_neg h46,if_neg h47,←hold]
        rw[e]
        have HAm:=lI (amo_any op old b w hlu.out.1 hlu.out.2 HB.out.1 HB.out.2)
        have HPut:=lI (cput_any h wf 18 a (amo op old b) HA.out (amo_lo op old b hlu.out HB.out))
        clear e h hold
        go_enter Tryz.func76,Tryz.ntmps76
        go_upto_region 1 with(fail)
        go_wp2_with (go_at_call 69;refine hl.out.mono ?_;rintro e w' ⟨rfl,rfl⟩)
        refine HAm.out.mono ?_
        rintro e w' ⟨rfl,rfl⟩
        go_wp2_with fail
        refine HPut.out.mono ?_
        rintro e w1 ⟨rfl,hc1,hg1⟩
        clear hp hm h33 h34 f33 f34
        go_wp2_with fail
        go_ret2
        exact⟨rfl,hc1,hg1⟩
end
end Go.Proofs.YtlfnddmncbkjaacGreat.W
namespace Go.Proofs.YtlfnddmncbkjaacGreat.Fb
open Go.RowKit
def RunD.ofC(d:RunD)(c:qD):RunD:={d with h:=c.h,m:=c.m,out:=c.out}
def RunD.takeC(d:RunD)(c:qD):RunD:=if c.fr<c.tw then {d with stores:=d.stores++[(c.fr,c.tw)],own:=d.own||(decide (d.bf<d.bt)&&decide (c.fr<d.bt)&&decide (d.bf<c.tw))} else d
theorem takeC_over(d:RunD)(c:qD):(d.takeC c).over=d.over:=by unfold RunD.takeC;split<;>rfl
theorem put_over(d:RunD)(k:Nat)(x:Int):(d.put k x).over=d.over:=by unfold RunD.put;split<;>rfl
section
variable {rp cp hb po : Nat} {vm : Value} {TU TS TR : TypeId} {w w' : World} {d : RunD} {vs : Value} {steps fr tw : Int}
theorem R8.cwf(h:R8 rp cp hb po vm TU TS TR w d vs steps fr tw):(d.core fr tw).Wf:=⟨h.wf.h,h.wf.m,h.wf.out,h.ufr,h.utw,h.wf.mlen,h.olen⟩
theorem R8.ofC(h:R8 rp cp hb po vm TU TS TR w d vs steps fr tw){c:qD}(hc:qP cp hb po vm TU w' c)(hg:Cgo cp hb po vm TU w w')(hR:TR≠TU)(hS:TS≠TU)(wf:c.Wf)(hm:c.m.length≤4096):R8 rp cp hb po vm TU TS TR w' (d.ofC c) vs steps c.fr c.tw:=
  h.cgo (d':=d.ofC c) (fr':=c.fr) (tw':=c.tw) hc hg hR hS {h.wf with h:=wf.h,m:=wf.m,mlen:=wf.mlen,out:=wf.out} wf.olen hm wf.fr wf.tw rfl rfl rfl rfl rfl rfl rfl
theorem put_core{op at_ x:Int}(hl:d.m.length≤4096)(ha:U32 at_)(hq:qU d.m op at_=true):(d.core fr tw).put op at_ x={(d.core fr tw)with m:=qn d.m op at_ x,fr:=at_,tw:=at_+qM op}∧at_<at_+qM op∧hits at_ d.bf d.bt (qM op).toNat=(decide (d.bf<d.bt)&&decide (at_<d.bt)&&decide (d.bf<at_+qM op))∧u32 (at_+(qM op).toNat)=at_+qM op:=by
  obtain⟨h1,h2,h3⟩:0<qM op∧qM op≤4∧at_+qM op≤d.m.length:=by
    unfold qU there at hq
    simp only[Bool.and_eq_true,decide_eq_true_eq]at hq
    refine⟨hq.2.1.1, ?_,hq.2.2⟩
    unfold qM;repeat' split
    all_goals omega
  have hn:((qM op).toNat:Int)=qM op:=Int.toNat_of_nonneg om
  refine⟨?_,om, ?_,by rw[hn];unfold u32;have:=ha.1;omega⟩
  · unfold qD.put
    rw[if_pos (show qU (d.core fr tw).m op at_=true from hq)]
    show({(d.core fr tw)with m:=qn d.m op at_ x,fr:=at_,tw:=(at_+qM op)%4294967296}:qD)=_
    rw[Int.emod_eq_of_lt (by have:=ha.1;omega) om]
  · have:=hits_ends (bf:=d.bf) (bt:=d.bt) ha.1 (show 0<(qM op).toNat by omega) om
    rw[this,hn]
theorem takeC_hit{e:RunD}{c:qD}{op a:Int}(hf:c.fr=a)(ht:c.tw=a+qM op)(h2:a<a+qM op)(h3:hits a e.bf e.bt (qM op).toNat=(decide (e.bf<e.bt)&&decide (a<e.bt)&&decide (e.bf<a+qM op)))(h4:u32 (a+(qM op).toNat)=a+qM op):e.takeC c=e.stored a (qM op).toNat:=by
  unfold RunD.takeC RunD.stored
  rw[hf,ht,if_pos h2,h3,h4]
theorem store_take{op at_ x:Int}(hl:d.m.length≤4096)(ha:U32 at_)(hq:qU d.m op at_=true):(d.ofC ((d.core fr tw).put op at_ x)).takeC ((d.core fr tw).put op at_ x)=(d.mem op at_ x).stored at_ (qM op).toNat:=by
  obtain⟨e1,e2,e3,e4⟩:=put_core (fr:=fr) (tw:=tw) (x:=x) hl ha hq
  rw[e1]
  exact takeC_hit (op:=op) (a:=at_) (e:=d.mem op at_ x) rfl rfl e2 e3 e4
theorem put_take(d:RunD)(c:qD)(k:Nat)(x:Int):(d.put k x).takeC c=(d.takeC c).put k x:=by
  unfold RunD.put RunD.takeC
  split<;>split<;>rfl
theorem atom_take{op:Int}{kd ka kb:Nat}(hl:d.m.length≤4096)(ha:U32 (d.get ka))(hok:(qY (d.core 0 0) op (d.get ka) (d.get kb)).2.2=true):
    ((d.ofC (qY (d.core 0 0) op (d.get ka) (d.get kb)).1).put kd (qY (d.core 0 0) op (d.get ka) (d.get kb)).2.1).takeC (qY (d.core 0 0) op (d.get ka) (d.get kb)).1=d.atom op kd ka kb:=by
  rw[put_take]
  unfold RunD.atom
  unfold qY at hok ⊢
  have em:(d.core 0 0).m=d.m:=rfl
  have eh:(d.core 0 0).h=d.h:=rfl
  rw[em,eh]at hok ⊢
  have key:qN d.m 13 (d.get ka)=true→qU d.m 18 (d.get ka)=true:=fun h=>h
  generalize d.get kb=b at *
  by_cases c1:qN d.m 13 (d.get ka)=true
  · have hq:=key c1
    rw[if_pos c1]
    simp only[if_pos c1]
    have hst:=fun x=>store_take (d:=d) (fr:=0) (tw:=0) (x:=x) hl ha hq
    generalize d.get ka=a at *
    by_cases c2:op=46
    · simp only[if_pos c2]
      have e:(d.ofC ((d.core 0 0).hold true a)).takeC ((d.core 0 0).hold true a)=d.hold true a:=by unfold RunD.takeC;rw[if_neg (by show ¬(0:Int)<0;omega)];rfl
      rw[e]
    · simp only[if_neg c2]
      by_cases c3:op=47
      · simp only[if_pos c3]
        by_cases c4:(d.h.held&&d.h.heldAt==a)=true
        · simp only[if_pos c4]
          have e:(d.ofC (((d.core 0 0).put 18 a b).hold false 0)).takeC (((d.core 0 0).put 18 a b).hold false 0)=((d.hold false 0).mem 18 a b).stored a 4:=by
            obtain⟨e1,e2,e3,e4⟩:=put_core (d:=d) (fr:=0) (tw:=0) (x:=b) hl ha hq
            rw[e1]
            exact takeC_hit (op:=18) (a:=a) (e:=(d.hold false 0).mem 18 a b) rfl rfl e2 e3 e4
          rw[e]
        · simp only[if_neg c4]
          have e:(d.ofC ((d.core 0 0).hold false 0)).takeC ((d.core 0 0).hold false 0)=d.hold false 0:=by unfold RunD.takeC;rw[if_neg (by show ¬(0:Int)<0;omega)];rfl
          rw[e]
      · simp only[if_neg c3]
        rw[hst]
        rfl
  · simp only[if_neg c1]at hok
    exact absurd hok zL
theorem atom_no_fr{op a b:Int}(hok:(qY (d.core 0 0) op a b).2.2=false):(qY (d.core 0 0) op a b).1.fr=0∧(qY (d.core 0 0) op a b).1.tw=0:=by
  unfold qY at hok ⊢
  by_cases c1:qN (d.core 0 0).m 13 a=true
  · simp only[if_pos c1]at hok
    split at hok
    · cases hok
    · split at hok
      · split at hok<;>cases hok
      · cases hok
  · simp only[if_neg c1]
    exact⟨rfl,rfl⟩
theorem atom_no{op:Int}{kd ka kb:Nat}(hok:(qY (d.core 0 0) op (d.get ka) (d.get kb)).2.2=false):d.atom op kd ka kb=(d.ofC (qY (d.core 0 0) op (d.get ka) (d.get kb)).1).stop d.here:=by
  unfold RunD.atom
  unfold qY at hok ⊢
  have em:(d.core 0 0).m=d.m:=rfl
  rw[em]at hok ⊢
  by_cases c1:qN d.m 13 (d.get ka)=true
  · simp only[if_pos c1]at hok
    split at hok
    · cases hok
    · split at hok
      · split at hok<;>cases hok
      · cases hok
  · rw[if_neg c1]
    simp only[if_neg c1]
    rfl
end
end Go.Proofs.YtlfnddmncbkjaacGreat.Fb
namespace Go.Proofs.YtlfnddmncbkjaacGreat.W
open Go.RowKit Fb
section
variable {rp cp hb po : Nat} {vm : Value} {w : World} {d : RunD} {vs : Value} {steps fr tw : Int}
theorem stored8_any(h:R8 rp cp hb po vm 43 108 113 w d vs steps fr tw)(c:qD)(hf:c.fr=fr)(ht:c.tw=tw)(hl:d.stores.length≤100000):
    Calls Tryz.prog 114 #[.pointer (some ⟨rp,0,none⟩)] w fun e w'=>e=.returned (.tuple #[])∧∃vs',R8 rp cp hb po vm 43 108 113 w' (d.takeC c) vs' steps 0 0∧G8 rp 43 cp hb po vm w w':=by
  subst hf ht
  by_cases q:c.fr<c.tw
  · have e:d.takeC c={d with stores:=d.stores++[(c.fr,c.tw)],own:=d.own||(decide (d.bf<d.bt)&&decide (c.fr<d.bt)&&decide (d.bf<c.tw))}:=by unfold RunD.takeC;rw[if_pos q]
    rw[e]
    exact stored8_yes h q hl
  · have e:d.takeC c=d:=by unfold RunD.takeC;rw[if_neg q]
    rw[e]
    exact(stored8_no h q).mono fun _ _ ⟨h1,h2,h3⟩=>⟨h1,_,h2,h3⟩
end
end Go.Proofs.YtlfnddmncbkjaacGreat.W
namespace Go.Proofs.YtlfnddmncbkjaacGreat.Fb
theorem put_ml8(d:qD)(op a x:Int):(d.put op a x).m.length=d.m.length:=by
  unfold qD.put
  split
  · exact Qv _ _ _ _
  · rfl
theorem atomS_ml8(d:qD)(op a b:Int):(qY d op a b).1.m.length=d.m.length:=by
  unfold qY
  split
  · split
    · rfl
    · split
      · split
        · exact put_ml8 d 18 a b
        · rfl
      · exact put_ml8 d 18 a _
  · rfl
end Go.Proofs.YtlfnddmncbkjaacGreat.Fb
namespace Go.Proofs.YtlfnddmncbkjaacGreat.W
open Go.RowKit Fb
section
variable {rp cp hb po : Nat} {vm : Value} {w : World} {d : RunD} {vs : Value} {steps : Int}
theorem bytes8_load(h:R8 rp cp hb po vm 43 108 113 w d vs steps 0 0)(s op n:Int)(kd ka kb:Nat)(hkd:kd<36)(hka:ka<36)(hkb:kb<36)(hn:U32 n)(hsl:d.stores.length≤100000)(hov:d.over=false)(hs:11≤s∧s≤15)(d':RunD)(hd':d'=(if qN d.m s (u32 (d.get ka+n))=true then d.put kd (qa d.m s (u32 (d.get ka+n)))else d.trap 3)):
    Calls Tryz.prog 108 #[.pointer (some ⟨rp,0,none⟩),.int .i64 200,.int .i64 s,.agg #[.int .i64 op,.int .i64 kd,.int .i64 ka,.int .i64 kb,.int .u32 n]] w fun e w'=>e=.returned (.bool (!d'.over))∧∃vs',R8 rp cp hb po vm 43 108 113 w' d' vs' steps 0 0∧G8 rp 43 cp hb po vm w w':=by
  have hlt:=h.rlt
  have hcr:=h.lt
  have hbm:Ints .u8 w vm d.m:=h.core.bytes
  obtain⟨am,cm,rfl,-⟩:=hbm.open
  obtain⟨w1,hw1⟩:∃w1,w1=w.alloc (.cells #[.int .i64 op,.int .i64 kd,.int .i64 ka,.int .i64 kb,.int .u32 n] 144):=⟨_,rfl⟩
  have hb1:Below w.heap.size w w1:=zK
  have hs1:w1.heap.size=w.heap.size+1:=yD
  have c0:(w1).cell? ⟨w.heap.size,0,none⟩=some (.int .i64 op):=zA
  have c1:(w1).cell? ⟨w.heap.size,1,none⟩=some (.int .i64 kd):=zA
  have c2:(w1).cell? ⟨w.heap.size,2,none⟩=some (.int .i64 ka):=zA
  have c3:(w1).cell? ⟨w.heap.size,3,none⟩=some (.int .i64 kb):=zA
  have c4:(w1).cell? ⟨w.heap.size,4,none⟩=some (.int .u32 n):=zA
  have H1:=h.below hb1
  have HG1:Hid (G8 rp 43 cp hb po (.slice am d.m.length cm) w w1):=lI (G8.below hb1 h.clt)
  have HGA:=lI (jP H1 ka hka)
  have HGB:=lI (fun nd=>(jP (H1.below (qC (Below.refl _ w1) nd)) kb hkb).mono (R':=fun e w'=>e=.returned (.int .u32 (d.get kb))∧w1.drewN nd=w') (fun e w' h=>⟨h.1,h.2.symm⟩))
  obtain⟨a,ha⟩:∃a,a=d.get ka:=⟨_,rfl⟩
  obtain⟨b,hbb⟩:∃b,b=d.get kb:=⟨_,rfl⟩
  have hua:U32 a:=xT
  have hub:U32 b:=xQ
  rw[←ha]at HGA
  rw[←hbb]at HGB
  have g0:=H1.at_.get (QT 0 om)
  have g10:=H1.at_.get (Jr H1.wf.tlen 0)
  have p1:w1.cell? ⟨cp,1,none⟩=some (.slice am d.m.length cm):=H1.core.mem
  simp only[sM,Nat.reduceAdd]at g0 g10
  have HH1:=lI H1
  have HW1:=lI hw1
  have hu32:∀x,u32 x=x%4294967296:=fun x=>rfl
  rw[←ha]at hd'
  simp only[hu32]at hd'
  have huq:U32 ((a+n)%4294967296):=jG _
  have HLD:=lI (fun nd=>load_any (.slice am d.m.length cm) d.m s ((a+n)%4294967296) (w1.drewN nd) (H1.below (qC (Below.refl _ w1) nd)).core.bytes huq H1.wf.m.getD)
  have hux:U32 (qa d.m s ((a+n)%4294967296)):=Ju d.m s _ hs huq H1.wf.m.getD
  obtain⟨x,hx⟩:∃x,x=qa d.m s ((a+n)%4294967296):=⟨_,rfl⟩
  obtain⟨ok,hok⟩:∃ok,ok=qN d.m s ((a+n)%4294967296):=⟨_,rfl⟩
  rw[←hx]at hux
  rw[←hx,←hok]at HLD hd'
  have HPT:=lI (fun W (hb:Below w1.heap.size w1 W)=>put8_any (HH1.out.below hb) kd hkd x hux)
  have HTR:=lI (fun W (hb:Below w1.heap.size w1 W)=>trap8_any (HH1.out.below hb) 3 ⟨om,om⟩)
  have po:=(put_over d kd x).trans hov
  obtain⟨dp,hdp⟩:∃dp,dp=d.put kd x:=⟨_,rfl⟩
  obtain⟨dt,hdt⟩:∃dt,dt=d.trap 3:=⟨_,rfl⟩
  have pt:dt.over=true:=by rw[hdt];rfl
  rw[←hdp]at HPT po hd'
  rw[←hdt]at HTR hd'
  have HD:=lI hd'
  have HCL:=lI H1.clt
  clear ha hbb hd' hdp hdt hx hok hux huq h H1 hb1 hw1 c0 c3 hu32
  go_enter Tryz.func108,Tryz.ntmps108
  go_upto_region 1 with(fail)
  rw[←HW1.out]
  go_wp2_with fail
  refine HGA.out.mono ?_
  rintro e w2 ⟨rfl,hww2⟩
  subst hww2
  go_upto_region 8 with(fail)
  go_quiet (first|(go_at_call 69;exact Qg (HLD.out _)))
  cases ok with
  | true =>
    go_wp2_with fail
    refine(HPT.out _ (qC br _)).mono ?_
    rintro e w9 ⟨rfl,h9,g9⟩
    go_wp2_with fail
    go_ret
    have e:=HD.out
    simp only[if_true]at e
    subst e
    refine⟨QS ?_,_,h9,HG1.out.trans ((G8.below (qC br _) HCL.out).trans g9)⟩
    rw[po];rfl
  | false =>
    go_wp2_with fail
    refine(HTR.out _ (qC br _)).mono ?_
    rintro e w9 ⟨rfl,h9,g9⟩
    go_wp2_with fail
    go_ret
    have e:=HD.out
    simp only[Bool.false_eq_true,if_false]at e
    subst e
    refine⟨QS ?_,_,h9,HG1.out.trans ((G8.below (qC br _) HCL.out).trans g9)⟩
    rw[pt];rfl
theorem bytes8_store(h:R8 rp cp hb po vm 43 108 113 w d vs steps 0 0)(s op n:Int)(kd ka kb:Nat)(hkd:kd<36)(hka:ka<36)(hkb:kb<36)(hn:U32 n)(hsl:d.stores.length≤100000)(hov:d.over=false)(hs:16≤s∧s≤18)(d':RunD)(hd':d'=(if qU d.m s (u32 (d.get ka+n))=true then(d.mem s (u32 (d.get ka+n)) (d.get kb)).stored (u32 (d.get ka+n)) (qM s).toNat else d.trap 4)):
    Calls Tryz.prog 108 #[.pointer (some ⟨rp,0,none⟩),.int .i64 300,.int .i64 s,.agg #[.int .i64 op,.int .i64 kd,.int .i64 ka,.int .i64 kb,.int .u32 n]] w fun e w'=>e=.returned (.bool (!d'.over))∧∃vs',R8 rp cp hb po vm 43 108 113 w' d' vs' steps 0 0∧G8 rp 43 cp hb po vm w w':=by
  have hlt:=h.rlt
  have hcr:=h.lt
  have hbm:Ints .u8 w vm d.m:=h.core.bytes
  obtain⟨am,cm,rfl,-⟩:=hbm.open
  obtain⟨w1,hw1⟩:∃w1,w1=w.alloc (.cells #[.int .i64 op,.int .i64 kd,.int .i64 ka,.int .i64 kb,.int .u32 n] 144):=⟨_,rfl⟩
  have hb1:Below w.heap.size w w1:=zK
  have hs1:w1.heap.size=w.heap.size+1:=yD
  have c0:(w1).cell? ⟨w.heap.size,0,none⟩=some (.int .i64 op):=zA
  have c1:(w1).cell? ⟨w.heap.size,1,none⟩=some (.int .i64 kd):=zA
  have c2:(w1).cell? ⟨w.heap.size,2,none⟩=some (.int .i64 ka):=zA
  have c3:(w1).cell? ⟨w.heap.size,3,none⟩=some (.int .i64 kb):=zA
  have c4:(w1).cell? ⟨w.heap.size,4,none⟩=some (.int .u32 n):=zA
  have H1:=h.below hb1
  have HG1:Hid (G8 rp 43 cp hb po (.slice am d.m.length cm) w w1):=lI (G8.below hb1 h.clt)
  have HGA:=lI (jP H1 ka hka)
  have HGB:=lI (fun nd=>(jP (H1.below (qC (Below.refl _ w1) nd)) kb hkb).mono (R':=fun e w'=>e=.returned (.int .u32 (d.get kb))∧w1.drewN nd=w') (fun e w' h=>⟨h.1,h.2.symm⟩))
  obtain⟨a,ha⟩:∃a,a=d.get ka:=⟨_,rfl⟩
  obtain⟨b,hbb⟩:∃b,b=d.get kb:=⟨_,rfl⟩
  have hua:U32 a:=xT
  have hub:U32 b:=xQ
  rw[←ha]at HGA
  rw[←hbb]at HGB
  have g0:=H1.at_.get (QT 0 om)
  have g10:=H1.at_.get (Jr H1.wf.tlen 0)
  have p1:w1.cell? ⟨cp,1,none⟩=some (.slice am d.m.length cm):=H1.core.mem
  simp only[sM,Nat.reduceAdd]at g0 g10
  have HH1:=lI H1
  have HW1:=lI hw1
  have hu32:∀x,u32 x=x%4294967296:=fun x=>rfl
  rw[←ha,←hbb]at hd'
  simp only[hu32]at hd'
  have huq:U32 ((a+n)%4294967296):=jG _
  have HPU:Hid (∀nd,Calls Tryz.prog 73 #[.pointer (some ⟨cp,0,none⟩),.int .i64 s,.int .u32 ((a+n)%4294967296),.int .u32 b] (w1.drewN nd) fun e w'=>e=.returned (.bool (qU d.m s ((a+n)%4294967296)))∧R8 rp cp hb po (.slice am d.m.length cm) 43 108 113 w' (d.ofC ((d.core 0 0).put s ((a+n)%4294967296) b)) vs steps ((d.core 0 0).put s ((a+n)%4294967296) b).fr ((d.core 0 0).put s ((a+n)%4294967296) b).tw∧G8 rp 43 cp hb po (.slice am d.m.length cm) w1 w'):=lI (fun nd=>by
    have h2:=H1.below (qC (Below.refl _ w1) nd)
    refine(cput_any h2.core h2.cwf s ((a+n)%4294967296) b huq hub).mono ?_
    rintro e w9 ⟨rfl,h9,g9⟩
    refine⟨rfl,h2.ofC h9 g9 tyR tyS (h2.cwf.put s _ b huq) ?_,(G8.below (qC br _) H1.clt).trans (G8.cgo g9 h2.clt)⟩
    have hl:=h2.mmax
    unfold qD.put
    split
    · show(qn d.m s _ _).length≤4096
      rw[Qv];exact hl
    · exact hl)
  have hml:=h.mmax
  obtain⟨c',hc'⟩:∃c',c'=(d.core 0 0).put s ((a+n)%4294967296) b:=⟨_,rfl⟩
  have hy:qU d.m s ((a+n)%4294967296)=true→d'=(d.ofC c').takeC c':=fun e=>by
    rw[hd',if_pos e,hc',store_take hml huq e]
  have hn':qU d.m s ((a+n)%4294967296)=false→c'=d.core 0 0:=fun e=>by
    rw[hc'];unfold qD.put;rw[if_neg (by show ¬qU d.m s _=true;rw[e];decide)]
  have hdn:qU d.m s ((a+n)%4294967296)=false→d'=d.trap 4:=fun e=>by rw[hd',if_neg (by rw[e];decide)]
  rw[←hc']at HPU
  generalize qU d.m s ((a+n)%4294967296)=ok at *
  have HY:=lI hy
  have HN:=lI hn'
  have HDN:=lI hdn
  have HST:=lI (fun W vs (hW:R8 rp cp hb po (.slice am d.m.length cm) 43 108 113 W (d.ofC c') vs steps c'.fr c'.tw)=>stored8_any hW c' rfl rfl hsl)
  have HTR:=lI (fun W vs fr tw (hW:R8 rp cp hb po (.slice am d.m.length cm) 43 108 113 W d vs steps fr tw)=>trap8_any hW 4 ⟨om,om⟩)
  clear ha hbb hd' hc' hy hn' hdn huq h H1 hb1 hw1 c0 c1 hu32 g10 p1 hml
  go_enter Tryz.func108,Tryz.ntmps108
  go_upto_region 1 with(fail)
  rw[←HW1.out]
  go_wp2_with fail
  refine HGA.out.mono ?_
  rintro e w2 ⟨rfl,hww2⟩
  subst hww2
  go_upto_region 14 with(fail)
  refine jN (fun W=>∃nd,W=w2.drewN nd) 13 kr kr ⟨1,rfl⟩ ?_
  simp only[List.take_succ_cons,List.take_zero,List.drop_succ_cons,List.drop_zero]
  iterate 13 quiet_step ((go_at_call 106;exact Qg (HGB.out _)))
  refine wpQuiet_nil ?_
  rintro _ ⟨nd,rfl⟩
  go_wp2_with fail
  refine(HPU.out nd).mono ?_
  rintro e w9 ⟨rfl,h9,g9⟩
  cases ok with
  | true =>
    go_wp2_with fail
    refine(HST.out _ _ h9).mono ?_
    rintro e w10 ⟨rfl,vs',h10,g10⟩
    go_wp2_with fail
    go_ret
    have e:=HY.out yO
    subst e
    refine⟨QS ?_,_,h10,HG1.out.trans (g9.trans g10)⟩
    rw[takeC_over]
    show true= !d.over
    rw[hov];rfl
  | false =>
    have e1:=HN.out yO
    subst e1
    go_wp2_with fail
    refine(HTR.out _ _ _ _ h9).mono ?_
    rintro e w10 ⟨rfl,h10,g10⟩
    go_wp2_with fail
    go_ret
    have e:=HDN.out yO
    subst e
    exact⟨rfl,_,h10,HG1.out.trans (g9.trans g10)⟩
theorem bytes8_atom(h:R8 rp cp hb po vm 43 108 113 w d vs steps 0 0)(s op n:Int)(kd ka kb:Nat)(hkd:kd<36)(hka:ka<36)(hkb:kb<36)(hn:U32 n)(hsl:d.stores.length≤100000)(hov:d.over=false)(hs:46≤s∧s≤56)(d':RunD)(hd':d'=d.atom s kd ka kb):
    Calls Tryz.prog 108 #[.pointer (some ⟨rp,0,none⟩),.int .i64 600,.int .i64 s,.agg #[.int .i64 op,.int .i64 kd,.int .i64 ka,.int .i64 kb,.int .u32 n]] w fun e w'=>e=.returned (.bool (!d'.over))∧∃vs',R8 rp cp hb po vm 43 108 113 w' d' vs' steps 0 0∧G8 rp 43 cp hb po vm w w':=by
  have hlt:=h.rlt
  have hcr:=h.lt
  have hbm:Ints .u8 w vm d.m:=h.core.bytes
  obtain⟨am,cm,rfl,-⟩:=hbm.open
  obtain⟨w1,hw1⟩:∃w1,w1=w.alloc (.cells #[.int .i64 op,.int .i64 kd,.int .i64 ka,.int .i64 kb,.int .u32 n] 144):=⟨_,rfl⟩
  have hb1:Below w.heap.size w w1:=zK
  have hs1:w1.heap.size=w.heap.size+1:=yD
  have c0:(w1).cell? ⟨w.heap.size,0,none⟩=some (.int .i64 op):=zA
  have c1:(w1).cell? ⟨w.heap.size,1,none⟩=some (.int .i64 kd):=zA
  have c2:(w1).cell? ⟨w.heap.size,2,none⟩=some (.int .i64 ka):=zA
  have c3:(w1).cell? ⟨w.heap.size,3,none⟩=some (.int .i64 kb):=zA
  have c4:(w1).cell? ⟨w.heap.size,4,none⟩=some (.int .u32 n):=zA
  have H1:=h.below hb1
  have HG1:Hid (G8 rp 43 cp hb po (.slice am d.m.length cm) w w1):=lI (G8.below hb1 h.clt)
  have HGA:=lI (jP H1 ka hka)
  have HGB:=lI (fun nd=>(jP (H1.below (qC (Below.refl _ w1) nd)) kb hkb).mono (R':=fun e w'=>e=.returned (.int .u32 (d.get kb))∧w1.drewN nd=w') (fun e w' h=>⟨h.1,h.2.symm⟩))
  obtain⟨a,ha⟩:∃a,a=d.get ka:=⟨_,rfl⟩
  obtain⟨b,hbb⟩:∃b,b=d.get kb:=⟨_,rfl⟩
  have hua:U32 a:=xT
  have hub:U32 b:=xQ
  rw[←ha]at HGA
  rw[←hbb]at HGB
  have g0:=H1.at_.get (QT 0 om)
  have g10:=H1.at_.get (Jr H1.wf.tlen 0)
  have p1:w1.cell? ⟨cp,1,none⟩=some (.slice am d.m.length cm):=H1.core.mem
  simp only[sM,Nat.reduceAdd]at g0 g10
  have HH1:=lI H1
  have HW1:=lI hw1
  have hbx:w1.heap[w.heap.size]? =some (.cells #[.int .i64 op,.int .i64 kd,.int .i64 ka,.int .i64 kb,.int .u32 n] 144 (0,0)):=zI
  have HPU:Hid (∀nd,Calls Tryz.prog 76 #[.pointer (some ⟨cp,0,none⟩),.int .i64 s,.int .u32 a,.int .u32 b] (w1.drewN nd) fun e w'=>e=.returned (.tuple #[.int .u32 (qY (d.core 0 0) s a b).2.1,.bool (qY (d.core 0 0) s a b).2.2])∧R8 rp cp hb po (.slice am d.m.length cm) 43 108 113 w' (d.ofC (qY (d.core 0 0) s a b).1) vs steps (qY (d.core 0 0) s a b).1.fr (qY (d.core 0 0) s a b).1.tw∧G8 rp 43 cp hb po (.slice am d.m.length cm) w1 w'∧w'.heap[w.heap.size]? =w1.heap[w.heap.size]?):=lI (fun nd=>by
    have h2:=H1.below (qC (Below.refl _ w1) nd)
    refine(atom_any h2.core h2.cwf s a b hs hua hub).mono ?_
    rintro e w9 ⟨rfl,h9,g9⟩
    refine⟨rfl,h2.ofC h9 g9 tyR tyS (Jb h2.cwf s a b hua hub).1 (by have:=atomS_ml8 (d.core 0 0) s a b;rw[this];exact h2.mmax),(G8.below (qC br _) H1.clt).trans (G8.cgo g9 h2.clt), ?_⟩
    exact g9.block w.heap.size xP (by have:=h.core.hbl;omega) (fun e=>by have:=h.core.mlt _ e;omega) (.inr ⟨om,fun cs fr e=>by rw[show(w1.drewN nd).heap=w1.heap from rfl,hbx]at e;cases e⟩))
  have hml:=h.mmax
  have hux:U32 (qY (d.core 0 0) s a b).2.1:=(Jb h.cwf s a b hua hub).2
  have hy:(qY (d.core 0 0) s a b).2.2=true→((d.ofC (qY (d.core 0 0) s a b).1).put kd (qY (d.core 0 0) s a b).2.1).takeC (qY (d.core 0 0) s a b).1=d':=fun e=>by
    rw[hd'];rw[ha,hbb]at e ⊢;exact atom_take hml (by rw[←ha];exact hua) e
  have hn':(qY (d.core 0 0) s a b).2.2=false→(d.ofC (qY (d.core 0 0) s a b).1).stop d.here=d'∧(qY (d.core 0 0) s a b).1.fr=0∧(qY (d.core 0 0) s a b).1.tw=0:=fun e=>by
    refine⟨?_,atom_no_fr e⟩
    rw[hd'];rw[ha,hbb]at e ⊢;exact(atom_no e).symm
  generalize (qY (d.core 0 0) s a b).2.2=ok at *
  generalize (qY (d.core 0 0) s a b).2.1=x at *
  generalize (qY (d.core 0 0) s a b).1=c' at *
  have HY:=lI hy
  have HN:=lI hn'
  have HPT:=lI (fun W (hW:R8 rp cp hb po (.slice am d.m.length cm) 43 108 113 W (d.ofC c') vs steps c'.fr c'.tw)=>put8_any hW kd hkd x hux)
  have hsl2:((d.ofC c').put kd x).stores.length≤100000:=by rw[(put_same (d.ofC c') kd x).2.1];exact hsl
  have HST:=lI (fun W vs (hW:R8 rp cp hb po (.slice am d.m.length cm) 43 108 113 W ((d.ofC c').put kd x) vs steps c'.fr c'.tw)=>stored8_any hW c' rfl rfl hsl2)
  have HSP:=lI (fun W vs fr tw (hW:R8 rp cp hb po (.slice am d.m.length cm) 43 108 113 W (d.ofC c') vs steps fr tw)=>Jg hW d.here hW.wf.here)
  have HWF:=lI H1.wf
  have hov2:(((d.ofC c').put kd x).takeC c').over=false:=by rw[takeC_over,put_over];exact hov
  have hne1:w.heap.size≠rp:=om
  have hne2:w.heap.size≠cp:=om
  have hltc:cp<w.heap.size:=om
  clear ha hbb hd' hy hn' h H1 hb1 hw1 c0 p1 hml hux hsl2 c4 g10
  go_enter Tryz.func108,Tryz.ntmps108
  go_upto_region 1 with(fail)
  rw[←HW1.out]
  go_wp2_with fail
  refine HGA.out.mono ?_
  rintro e w2 ⟨rfl,hww2⟩
  subst hww2
  go_upto_region 3 with(fail)
  have hd0:w2.drew.cell? ⟨w.heap.size,3,none⟩=some (.int .i64 kb):=c3
  have hd1:w2.drew.cell? ⟨rp,0,none⟩=some (.pointer (some ⟨cp,0,none⟩)):=g0
  go_cut [12,13]from 19 to 32 (fun t12 t13 wx=>t12=.int .u32 x∧t13=.bool ok∧Hid (R8 rp cp hb po (.slice am d.m.length cm) 43 108 113 wx (d.ofC c') vs steps c'.fr c'.tw∧G8 rp 43 cp hb po (.slice am d.m.length cm) w2 wx∧wx.heap[w.heap.size]? =w2.heap[w.heap.size]?))
  case first=>
    refine wp_region_held_drew (S:=fun W=>W.cell? ⟨w.heap.size,3,none⟩=some (.int .i64 kb)∧W.cell? ⟨rp,0,none⟩=some (.pointer (some ⟨cp,0,none⟩))) kr ⟨hd0,hd1⟩ (fun hHeld=> ?_)
    clear hd0 hd1 c2
    refine tak 0 (.pointer (some ⟨rp,0,none⟩)) ?_
    try simp only[sA,sB,sC,Act.put,sD,sE,sG]
    refine tak 1 (.pointer (some ⟨rp,0,none⟩)) ?_
    try simp only[sA,sB,sC,Act.put,sD,sE,sG]
    refine tak 2 (.pointer (some ⟨rp,0,none⟩)) ?_
    try simp only[sA,sB,sC,Act.put,sD,sE,sG]
    refine tak 3 (.pointer (some ⟨cp,0,none⟩)) ?_
    try simp only[sA,sB,sC,Act.put,sD,sE,sG]
    refine tak 4 (.int .i64 s) ?_
    try simp only[sA,sB,sC,Act.put,sD,sE,sG]
    refine tak 5 (.int .u32 a) ?_
    try simp only[sA,sB,sC,Act.put,sD,sE,sG]
    refine tak 6 (.pointer (some ⟨rp,0,none⟩)) ?_
    try simp only[sA,sB,sC,Act.put,sD,sE,sG]
    refine tak 7 (.pointer (some ⟨w.heap.size,3,none⟩)) ?_
    try simp only[sA,sB,sC,Act.put,sD,sE,sG]
    refine tak 8 (.int .i64 kb) ?_
    try simp only[sA,sB,sC,Act.put,sD,sE,sG]
    refine wpAnyH_ready (rs:=[9]) kr zG ?_
    refine sX rfl (fun K hK=> ?_) AllReadyH.nil
    go_simp
    refine(HGB.out 1).mono ?_
    rintro e w3 ⟨rfl,rfl⟩
    refine hK.out _ _ hHeld (fun hHeld2=> ?_)
    clear hK K
    refine wpAnyH_ready (rs:=[10]) kr zG ?_
    refine sX rfl (fun K hK=> ?_) AllReadyH.nil
    go_simp
    refine(HPU.out 1).mono ?_
    rintro e w4 ⟨rfl,h4,g4,b4⟩
    have eS:w4.cell? ⟨w.heap.size,3,none⟩=some (.int .i64 kb)∧w4.cell? ⟨rp,0,none⟩=some (.pointer (some ⟨cp,0,none⟩)):=⟨(qE b4 _).trans c3,by have:=h4.at_.get (QT 0 om);simpa using this⟩
    have HR:=lI (And.intro h4 (And.intro g4 b4))
    clear h4 g4 b4
    refine hK.out _ _ eS (fun hHeld3=> ?_)
    clear hK K
    refine tak 11 (.tuple #[.int .u32 x,.bool ok]) ?_
    try simp only[sA,sB,sC,Act.put,sD,sE,sG]
    refine tak 12 (.int .u32 x) ?_
    try simp only[sA,sB,sC,Act.put,sD,sE,sG]
    refine tak 13 (.bool ok) ?_
    try simp only[sA,sB,sC,Act.put,sD,sE,sG]
    refine tak 14 (.int .u32 x) ?_
    try simp only[sA,sB,sC,Act.put,sD,sE,sG]
    refine tak 15 (.bool ok) ?_
    try simp only[sA,sB,sC,Act.put,sD,sE,sG]
    refine wpAnyH_done kr ?_ _
    clear hHeld hHeld2 hHeld3 eS
    go_wp2_with fail
    go_meet
    case rel=>exact⟨rfl,rfl,HR⟩
  case rest=>
    obtain⟨rfl,rfl,HR⟩:=hcut
    obtain⟨w5,hw5⟩:∃w5,w5=wc:=⟨_,rfl⟩
    rw[←hw5]at HR ⊢
    have h5:=HR.out.1
    have hd10:=h5.at_.get (Jr h5.wf.tlen 0)
    have g10:w5.cell? ⟨rp,10,none⟩=some (.int .u32 d.here):=by simpa[RunD.ofC]using hd10
    have e1:=(qE HR.out.2.2 1).trans c1
    clear hw5 h5 hd10 hd0 hd1 c1 c2 c3 g0 HPU HGB
    cases ok with
    | true =>
      go_wp2_with fail
      refine(HPT.out _ HR.out.1).mono ?_
      rintro e w6 ⟨rfl,h6,g6⟩
      have HS6:=lI (HST.out _ _ h6)
      have HG6:=lI g6
      clear h6 g6
      go_wp2_with fail
      refine HS6.out.mono ?_
      rintro e w7 ⟨rfl,vs',h7,g7⟩
      go_wp2_with fail
      go_ret
      have e:=HY.out yO
      rw[e]at h7 hov2
      refine⟨QS ?_,_,h7,HG1.out.trans (HR.out.2.1.trans (HG6.out.trans g7))⟩
      rw[hov2];rfl
    | false =>
      go_wp2_with fail
      refine(HSP.out _ _ _ _ HR.out.1).mono ?_
      rintro e w6 ⟨rfl,h6,g6⟩
      go_wp2_with fail
      go_ret
      obtain⟨e,e1,e2⟩:=HN.out yO
      rw[e1,e2]at h6
      rw[←e]
      exact⟨rfl,_,h6,HG1.out.trans (HR.out.2.1.trans g6)⟩
end
end Go.Proofs.YtlfnddmncbkjaacGreat.W
namespace Go.Proofs.YtlfnddmncbkjaacGreat.Fb
open Go.RowKit
end Go.Proofs.YtlfnddmncbkjaacGreat.Fb
namespace Go.Proofs.YtlfnddmncbkjaacGreat.W
open Go.RowKit Fb
theorem ug(op:Int)(w:World)(h:op<100):
    Calls Tryz.prog 102 #[.int .i64 op] w fun e w'=>e=.returned (.tuple #[.int .i64 op,.int .i64 0])∧w'=w:=by
  go_enter Tryz.func102,Tryz.ntmps102
  go_wp2_with fail
  exact sP (v:=.tuple #[.int .i64 op,.int .i64 0]) (by simp[results,Tryz.results102,go_sem]) rfl ⟨rfl,rfl⟩
theorem uh(op c s:Int)(w:World)(h:op=c+s)(hc:100≤c∧c≤9223372036854775807)(hd:c%100=0)(hs:0≤s∧s<100):
    Calls Tryz.prog 102 #[.int .i64 op] w fun e w'=>e=.returned (.tuple #[.int .i64 c,.int .i64 s])∧w'=w:=by
  have h1:¬op<100:=om
  have h2:wrap64 (wrap64 (op.tdiv 100)*100)=c:=by
    rw[Int.tdiv_eq_ediv_of_nonneg om]
    unfold wrap64;omega
  have h3:op%100=s:=om
  have H2:=lI h2
  have H3:=lI h3
  clear h2 h3 h
  go_enter Tryz.func102,Tryz.ntmps102
  go_wp2_with fail
  rw[H2.out,H3.out]
  exact sP (v:=.tuple #[.int .i64 c,.int .i64 s]) (by simp[results,Tryz.results102,go_sem]) rfl ⟨rfl,rfl⟩
end Go.Proofs.YtlfnddmncbkjaacGreat.W
