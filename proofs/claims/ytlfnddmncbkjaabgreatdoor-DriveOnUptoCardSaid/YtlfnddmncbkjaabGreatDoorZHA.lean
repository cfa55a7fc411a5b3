import Derived.Test.YtlfnddmncbkjaabGreatDoorZWRun8b
set_option linter.unusedVariables false
set_option linter.unusedSimpArgs false
set_option maxRecDepth 100000
set_option maxHeartbeats 4000000
namespace Go.Proofs.YtlfnddmncbkjaabGreatDoor.Fb
open Go.RowKit
def RunD.ofC(d:RunD)(c:qF):RunD:={d with h:=c.h,m:=c.m,out:=c.out}
def RunD.takeC(d:RunD)(c:qF):RunD:=if c.fr<c.tw then {d with stores:=d.stores++[(c.fr,c.tw)],own:=d.own||(decide (d.bf<d.bt)&&decide (c.fr<d.bt)&&decide (d.bf<c.tw))} else d
theorem takeC_over(d:RunD)(c:qF):(d.takeC c).over=d.over:=by unfold RunD.takeC;split<;>rfl
theorem put_over(d:RunD)(k:Nat)(x:Int):(d.put k x).over=d.over:=by unfold RunD.put;split<;>rfl
section
variable {rp cp hb po : Nat} {vm : Value} {TU TS TR : TypeId} {w w' : World} {d : RunD} {vs : Value} {steps fr tw : Int}
theorem R8.cwf(h:R8 rp cp hb po vm TU TS TR w d vs steps fr tw):(d.core fr tw).Wf:=⟨h.wf.h,h.wf.m,h.wf.out,h.ufr,h.utw,h.wf.mlen,h.olen⟩
theorem R8.ofC(h:R8 rp cp hb po vm TU TS TR w d vs steps fr tw){c:qF}(hc:qK cp hb po vm TU w' c)(hg:Cgo cp hb po vm TU w w')(hR:TR≠TU)(hS:TS≠TU)(wf:c.Wf)(hm:c.m.length≤4096):R8 rp cp hb po vm TU TS TR w' (d.ofC c) vs steps c.fr c.tw:=
  h.cgo (d':=d.ofC c) (fr':=c.fr) (tw':=c.tw) hc hg hR hS {h.wf with h:=wf.h,m:=wf.m,mlen:=wf.mlen,out:=wf.out} wf.olen hm wf.fr wf.tw rfl rfl rfl rfl rfl rfl rfl
theorem put_core{op at_ x:Int}(hl:d.m.length≤4096)(ha:U32 at_)(hq:qW d.m op at_=true):(d.core fr tw).put op at_ x={(d.core fr tw)with m:=Qh d.m op at_ x,fr:=at_,tw:=at_+qP op}∧at_<at_+qP op∧hits at_ d.bf d.bt (qP op).toNat=(decide (d.bf<d.bt)&&decide (at_<d.bt)&&decide (d.bf<at_+qP op))∧u32 (at_+(qP op).toNat)=at_+qP op:=by
  obtain⟨h1,h2,h3⟩:0<qP op∧qP op≤4∧at_+qP op≤d.m.length:=by
    unfold qW there at hq
    simp only[Bool.and_eq_true,decide_eq_true_eq]at hq
    refine⟨hq.2.1.1, ?_,hq.2.2⟩
    unfold qP;repeat' split
    all_goals omega
  have hn:((qP op).toNat:Int)=qP op:=Int.toNat_of_nonneg om
  refine⟨?_,om, ?_,by rw[hn];unfold u32;have:=ha.1;omega⟩
  · unfold qF.put
    rw[if_pos (show qW (d.core fr tw).m op at_=true from hq)]
    show({(d.core fr tw)with m:=Qh d.m op at_ x,fr:=at_,tw:=(at_+qP op)%4294967296}:qF)=_
    rw[Int.emod_eq_of_lt (by have:=ha.1;omega) om]
  · have:=hits_ends (bf:=d.bf) (bt:=d.bt) ha.1 (show 0<(qP op).toNat by omega) om
    rw[this,hn]
theorem takeC_hit{e:RunD}{c:qF}{op a:Int}(hf:c.fr=a)(ht:c.tw=a+qP op)(h2:a<a+qP op)(h3:hits a e.bf e.bt (qP op).toNat=(decide (e.bf<e.bt)&&decide (a<e.bt)&&decide (e.bf<a+qP op)))(h4:u32 (a+(qP op).toNat)=a+qP op):e.takeC c=e.stored a (qP op).toNat:=by
  unfold RunD.takeC RunD.stored
  rw[hf,ht,if_pos h2,h3,h4]
theorem store_take{op at_ x:Int}(hl:d.m.length≤4096)(ha:U32 at_)(hq:qW d.m op at_=true):(d.ofC ((d.core fr tw).put op at_ x)).takeC ((d.core fr tw).put op at_ x)=(d.mem op at_ x).stored at_ (qP op).toNat:=by
  obtain⟨e1,e2,e3,e4⟩:=put_core (fr:=fr) (tw:=tw) (x:=x) hl ha hq
  rw[e1]
  exact takeC_hit (op:=op) (a:=at_) (e:=d.mem op at_ x) rfl rfl e2 e3 e4
theorem put_take(d:RunD)(c:qF)(k:Nat)(x:Int):(d.put k x).takeC c=(d.takeC c).put k x:=by
  unfold RunD.put RunD.takeC
  split<;>split<;>rfl
theorem atom_take{op:Int}{kd ka kb:Nat}(hl:d.m.length≤4096)(ha:U32 (d.get ka))(hok:(qb (d.core 0 0) op (d.get ka) (d.get kb)).2.2=true):
    ((d.ofC (qb (d.core 0 0) op (d.get ka) (d.get kb)).1).put kd (qb (d.core 0 0) op (d.get ka) (d.get kb)).2.1).takeC (qb (d.core 0 0) op (d.get ka) (d.get kb)).1=d.atom op kd ka kb:=by
  rw[put_take]
  unfold RunD.atom
  unfold qb at hok ⊢
  have em:(d.core 0 0).m=d.m:=rfl
  have eh:(d.core 0 0).h=d.h:=rfl
  rw[em,eh]at hok ⊢
  have key:qX d.m 13 (d.get ka)=true→qW d.m 18 (d.get ka)=true:=fun h=>h
  generalize d.get kb=b at *
  by_cases c1:qX d.m 13 (d.get ka)=true
  · have hq:=key c1
    rw[if_pos c1]
    simp only[if_pos c1]
    have hst:=fun x=>store_take (d:=d) (fr:=0) (tw:=0) (x:=x) hl ha hq
    generalize d.get ka=a at *
    by_cases c2:op=46
    · simp only[if_pos c2]
      have e:(d.ofC ((d.core 0 0).hold true a)).takeC ((d.core 0 0).hold true a)=d.hold true a:=by unfold RunD.takeC;rw[if_neg (by show ¬(0:Int)<0;omega)];rfl
      rw[e]
    · simp only[if_neg c2]
      by_cases c3:op=47
      · simp only[if_pos c3]
        by_cases c4:(d.h.held&&d.h.heldAt==a)=true
        · simp only[if_pos c4]
          have e:(d.ofC (((d.core 0 0).put 18 a b).hold false 0)).takeC (((d.core 0 0).put 18 a b).hold false 0)=((d.hold false 0).mem 18 a b).stored a 4:=by
            obtain⟨e1,e2,e3,e4⟩:=put_core (d:=d) (fr:=0) (tw:=0) (x:=b) hl ha hq
            rw[e1]
            exact takeC_hit (op:=18) (a:=a) (e:=(d.hold false 0).mem 18 a b) rfl rfl e2 e3 e4
          rw[e]
        · simp only[if_neg c4]
          have e:(d.ofC ((d.core 0 0).hold false 0)).takeC ((d.core 0 0).hold false 0)=d.hold false 0:=by unfold RunD.takeC;rw[if_neg (by show ¬(0:Int)<0;omega)];rfl
          rw[e]
      · simp only[if_neg c3]
        rw[hst]
        rfl
  · simp only[if_neg c1]at hok
    exact absurd hok zF
theorem dO{p:Prop}(h:p:=by
 simp only[if_pos c1]at hok
 split at hok
 · cases hok
 · split at hok
   · split at hok<;>cases hok
   · cases hok):p:=h
theorem atom_no_fr{op a b:Int}(hok:(qb (d.core 0 0) op a b).2.2=false):(qb (d.core 0 0) op a b).1.fr=0∧(qb (d.core 0 0) op a b).1.tw=0:=by
  unfold qb at hok ⊢
  by_cases c1:qX (d.core 0 0).m 13 a=true
  · exact dO
  · simp only[if_neg c1]
    exact⟨rfl,rfl⟩
theorem atom_no{op:Int}{kd ka kb:Nat}(hok:(qb (d.core 0 0) op (d.get ka) (d.get kb)).2.2=false):d.atom op kd ka kb=(d.ofC (qb (d.core 0 0) op (d.get ka) (d.get kb)).1).stop d.here:=by
  unfold RunD.atom
  unfold qb at hok ⊢
  have em:(d.core 0 0).m=d.m:=rfl
  rw[em]at hok ⊢
  by_cases c1:qX d.m 13 (d.get ka)=true
  · exact dO
  · rw[if_neg c1]
    simp only[if_neg c1]
    rfl
end
end Go.Proofs.YtlfnddmncbkjaabGreatDoor.Fb
namespace Go.Proofs.YtlfnddmncbkjaabGreatDoor.W
open Go.RowKit Fb
section
variable {rp cp hb po : Nat} {vm : Value} {w : World} {d : RunD} {vs : Value} {steps fr tw : Int}
theorem stored8_any(h:R8 rp cp hb po vm 40 165 170 w d vs steps fr tw)(c:qF)(hf:c.fr=fr)(ht:c.tw=tw)(hl:d.stores.length≤100000):
    Calls Tryz.prog 159 #[.pointer (some ⟨rp,0,none⟩)] w fun e w'=>e=.returned (.tuple #[])∧∃vs',R8 rp cp hb po vm 40 165 170 w' (d.takeC c) vs' steps 0 0∧G8 rp 40 cp hb po vm w w':=by
  subst hf ht
  by_cases q:c.fr<c.tw
  · have e:d.takeC c={d with stores:=d.stores++[(c.fr,c.tw)],own:=d.own||(decide (d.bf<d.bt)&&decide (c.fr<d.bt)&&decide (d.bf<c.tw))}:=by unfold RunD.takeC;rw[if_pos q]
    rw[e]
    exact stored8_yes h q hl
  · have e:d.takeC c=d:=by unfold RunD.takeC;rw[if_neg q]
    rw[e]
    exact(stored8_no h q).mono fun _ _ ⟨h1,h2,h3⟩=>⟨h1,_,h2,h3⟩
end
end Go.Proofs.YtlfnddmncbkjaabGreatDoor.W
namespace Go.Proofs.YtlfnddmncbkjaabGreatDoor.Fb
theorem put_ml8(d:qF)(op a x:Int):(d.put op a x).m.length=d.m.length:=by
  unfold qF.put
  split
  · exact Ql _ _ _ _
  · rfl
theorem atomS_ml8(d:qF)(op a b:Int):(qb d op a b).1.m.length=d.m.length:=by
  unfold qb
  split
  · split
    · rfl
    · split
      · split
        · exact put_ml8 d 18 a b
        · rfl
      · exact put_ml8 d 18 a _
  · rfl
end Go.Proofs.YtlfnddmncbkjaabGreatDoor.Fb
namespace Go.Proofs.YtlfnddmncbkjaabGreatDoor.W
open Go.RowKit Fb
section
variable {rp cp hb po : Nat} {vm : Value} {w : World} {d : RunD} {vs : Value} {steps : Int}
theorem bytes8_load(h:R8 rp cp hb po vm 40 165 170 w d vs steps 0 0)(s op n:Int)(kd ka kb:Nat)(hkd:kd<36)(hka:ka<36)(hkb:kb<36)(hn:U32 n)(hsl:d.stores.length≤100000)(hov:d.over=false)(hs:11≤s∧s≤15)(d':RunD)(hd':d'=(if qX d.m s (u32 (d.get ka+n))=true then d.put kd (QB d.m s (u32 (d.get ka+n)))else d.trap 3)):
    Calls Tryz.prog 151 #[.pointer (some ⟨rp,0,none⟩),.int .i64 200,.int .i64 s,.agg #[.int .i64 op,.int .i64 kd,.int .i64 ka,.int .i64 kb,.int .u32 n]] w fun e w'=>e=.returned (.bool (!d'.over))∧∃vs',R8 rp cp hb po vm 40 165 170 w' d' vs' steps 0 0∧G8 rp 40 cp hb po vm w w':=by
  have hlt:=h.rlt
  have hcr:=h.lt
  have hbm:Ints .u8 w vm d.m:=h.core.bytes
  obtain⟨am,cm,rfl,-⟩:=hbm.open
  obtain⟨w1,hw1⟩:∃w1,w1=w.alloc (.cells #[.int .i64 op,.int .i64 kd,.int .i64 ka,.int .i64 kb,.int .u32 n] 211):=⟨_,rfl⟩
  have hb1:Below w.heap.size w w1:=zG
  have hs1:w1.heap.size=w.heap.size+1:=zP
  have c0:(w1).cell? ⟨w.heap.size,0,none⟩=some (.int .i64 op):=zA
  have c1:(w1).cell? ⟨w.heap.size,1,none⟩=some (.int .i64 kd):=zA
  have c2:(w1).cell? ⟨w.heap.size,2,none⟩=some (.int .i64 ka):=zA
  have c3:(w1).cell? ⟨w.heap.size,3,none⟩=some (.int .i64 kb):=zA
  have c4:(w1).cell? ⟨w.heap.size,4,none⟩=some (.int .u32 n):=zA
  have H1:=h.below hb1
  have HG1:Hid (G8 rp 40 cp hb po (.slice am d.m.length cm) w w1):=lI (G8.below hb1 h.clt)
  have HGA:=lI (Qz H1 ka hka)
  have HGB:=lI (fun nd=>(Qz (H1.below (qB (Below.refl _ w1) nd)) kb hkb).mono (R':=fun e w'=>e=.returned (.int .u32 (d.get kb))∧w1.drewN nd=w') (fun e w' h=>⟨h.1,h.2.symm⟩))
  obtain⟨a,ha⟩:∃a,a=d.get ka:=⟨_,rfl⟩
  obtain⟨b,hbb⟩:∃b,b=d.get kb:=⟨_,rfl⟩
  have hua:U32 a:=xG
  have hub:U32 b:=xF
  rw[←ha]at HGA
  rw[←hbb]at HGB
  have g0:=H1.at_.get (QQ 0 om)
  have g10:=H1.at_.get (Jc H1.wf.tlen 0)
  have p1:w1.cell? ⟨cp,1,none⟩=some (.slice am d.m.length cm):=H1.core.mem
  simp only[sM,Nat.reduceAdd]at g0 g10
  have HH1:=lI H1
  have HW1:=lI hw1
  have hu32:∀x,u32 x=x%4294967296:=fun x=>rfl
  rw[←ha]at hd'
  simp only[hu32]at hd'
  have huq:U32 ((a+n)%4294967296):=Qq _
  have HLD:=lI (fun nd=>load_any (.slice am d.m.length cm) d.m s ((a+n)%4294967296) (w1.drewN nd) (H1.below (qB (Below.refl _ w1) nd)).core.bytes huq H1.wf.m.getD)
  have hux:U32 (QB d.m s ((a+n)%4294967296)):=mLoad_u d.m s _ hs huq H1.wf.m.getD
  obtain⟨x,hx⟩:∃x,x=QB d.m s ((a+n)%4294967296):=⟨_,rfl⟩
  obtain⟨ok,hok⟩:∃ok,ok=qX d.m s ((a+n)%4294967296):=⟨_,rfl⟩
  rw[←hx]at hux
  rw[←hx,←hok]at HLD hd'
  have HPT:=lI (fun W (hb:Below w1.heap.size w1 W)=>put8_any (HH1.out.below hb) kd hkd x hux)
  have HTR:=lI (fun W (hb:Below w1.heap.size w1 W)=>trap8_any (HH1.out.below hb) 3 ⟨om,om⟩)
  have po:=(put_over d kd x).trans hov
  obtain⟨dp,hdp⟩:∃dp,dp=d.put kd x:=⟨_,rfl⟩
  obtain⟨dt,hdt⟩:∃dt,dt=d.trap 3:=⟨_,rfl⟩
  have pt:dt.over=true:=by rw[hdt];rfl
  rw[←hdp]at HPT po hd'
  rw[←hdt]at HTR hd'
  have HD:=lI hd'
  have HCL:=lI H1.clt
  clear ha hbb hd' hdp hdt hx hok hux huq h H1 hb1 hw1 c0 c3 hu32
  go_enter Tryz.func151,Tryz.ntmps151
  go_upto_region 1 with(fail)
  rw[←HW1.out]
  go_wp2_with fail
  refine HGA.out.mono ?_
  rintro e w2 ⟨rfl,hww2⟩
  subst hww2
  go_upto_region 8 with(fail)
  go_quiet (first|(go_at_call 59;exact jC (HLD.out _)))
  cases ok with
  | true =>
    go_wp2_with fail
    refine(HPT.out _ (qB br _)).mono ?_
    rintro e w9 ⟨rfl,h9,g9⟩
    go_wp2_with fail
    go_ret
    have e:=HD.out
    simp only[if_true]at e
    subst e
    refine⟨Qf ?_,_,h9,HG1.out.trans ((G8.below (qB br _) HCL.out).trans g9)⟩
    rw[po];rfl
  | false =>
    go_wp2_with fail
    refine(HTR.out _ (qB br _)).mono ?_
    rintro e w9 ⟨rfl,h9,g9⟩
    go_wp2_with fail
    go_ret
    have e:=HD.out
    simp only[Bool.false_eq_true,if_false]at e
    subst e
    refine⟨Qf ?_,_,h9,HG1.out.trans ((G8.below (qB br _) HCL.out).trans g9)⟩
    rw[pt];rfl
theorem bytes8_store(h:R8 rp cp hb po vm 40 165 170 w d vs steps 0 0)(s op n:Int)(kd ka kb:Nat)(hkd:kd<36)(hka:ka<36)(hkb:kb<36)(hn:U32 n)(hsl:d.stores.length≤100000)(hov:d.over=false)(hs:16≤s∧s≤18)(d':RunD)(hd':d'=(if qW d.m s (u32 (d.get ka+n))=true then(d.mem s (u32 (d.get ka+n)) (d.get kb)).stored (u32 (d.get ka+n)) (qP s).toNat else d.trap 4)):
    Calls Tryz.prog 151 #[.pointer (some ⟨rp,0,none⟩),.int .i64 300,.int .i64 s,.agg #[.int .i64 op,.int .i64 kd,.int .i64 ka,.int .i64 kb,.int .u32 n]] w fun e w'=>e=.returned (.bool (!d'.over))∧∃vs',R8 rp cp hb po vm 40 165 170 w' d' vs' steps 0 0∧G8 rp 40 cp hb po vm w w':=by
  have hlt:=h.rlt
  have hcr:=h.lt
  have hbm:Ints .u8 w vm d.m:=h.core.bytes
  obtain⟨am,cm,rfl,-⟩:=hbm.open
  obtain⟨w1,hw1⟩:∃w1,w1=w.alloc (.cells #[.int .i64 op,.int .i64 kd,.int .i64 ka,.int .i64 kb,.int .u32 n] 211):=⟨_,rfl⟩
  have hb1:Below w.heap.size w w1:=zG
  have hs1:w1.heap.size=w.heap.size+1:=zP
  have c0:(w1).cell? ⟨w.heap.size,0,none⟩=some (.int .i64 op):=zA
  have c1:(w1).cell? ⟨w.heap.size,1,none⟩=some (.int .i64 kd):=zA
  have c2:(w1).cell? ⟨w.heap.size,2,none⟩=some (.int .i64 ka):=zA
  have c3:(w1).cell? ⟨w.heap.size,3,none⟩=some (.int .i64 kb):=zA
  have c4:(w1).cell? ⟨w.heap.size,4,none⟩=some (.int .u32 n):=zA
  have H1:=h.below hb1
  have HG1:Hid (G8 rp 40 cp hb po (.slice am d.m.length cm) w w1):=lI (G8.below hb1 h.clt)
  have HGA:=lI (Qz H1 ka hka)
  have HGB:=lI (fun nd=>(Qz (H1.below (qB (Below.refl _ w1) nd)) kb hkb).mono (R':=fun e w'=>e=.returned (.int .u32 (d.get kb))∧w1.drewN nd=w') (fun e w' h=>⟨h.1,h.2.symm⟩))
  obtain⟨a,ha⟩:∃a,a=d.get ka:=⟨_,rfl⟩
  obtain⟨b,hbb⟩:∃b,b=d.get kb:=⟨_,rfl⟩
  have hua:U32 a:=xG
  have hub:U32 b:=xF
  rw[←ha]at HGA
  rw[←hbb]at HGB
  have g0:=H1.at_.get (QQ 0 om)
  have g10:=H1.at_.get (Jc H1.wf.tlen 0)
  have p1:w1.cell? ⟨cp,1,none⟩=some (.slice am d.m.length cm):=H1.core.mem
  simp only[sM,Nat.reduceAdd]at g0 g10
  have HH1:=lI H1
  have HW1:=lI hw1
  have hu32:∀x,u32 x=x%4294967296:=fun x=>rfl
  rw[←ha,←hbb]at hd'
  simp only[hu32]at hd'
  have huq:U32 ((a+n)%4294967296):=Qq _
  have HPU:Hid (∀nd,Calls Tryz.prog 116 #[.pointer (some ⟨cp,0,none⟩),.int .i64 s,.int .u32 ((a+n)%4294967296),.int .u32 b] (w1.drewN nd) fun e w'=>e=.returned (.bool (qW d.m s ((a+n)%4294967296)))∧R8 rp cp hb po (.slice am d.m.length cm) 40 165 170 w' (d.ofC ((d.core 0 0).put s ((a+n)%4294967296) b)) vs steps ((d.core 0 0).put s ((a+n)%4294967296) b).fr ((d.core 0 0).put s ((a+n)%4294967296) b).tw∧G8 rp 40 cp hb po (.slice am d.m.length cm) w1 w'):=lI (fun nd=>by
    have h2:=H1.below (qB (Below.refl _ w1) nd)
    refine(cput_any h2.core h2.cwf s ((a+n)%4294967296) b huq hub).mono ?_
    rintro e w9 ⟨rfl,h9,g9⟩
    refine⟨rfl,h2.ofC h9 g9 tyR tyS (h2.cwf.put s _ b huq) ?_,(G8.below (qB br _) H1.clt).trans (G8.cgo g9 h2.clt)⟩
    have hl:=h2.mmax
    unfold qF.put
    split
    · show(Qh d.m s _ _).length≤4096
      rw[Ql];exact hl
    · exact hl)
  have hml:=h.mmax
  obtain⟨c',hc'⟩:∃c',c'=(d.core 0 0).put s ((a+n)%4294967296) b:=⟨_,rfl⟩
  have hy:qW d.m s ((a+n)%4294967296)=true→d'=(d.ofC c').takeC c':=fun e=>by
    rw[hd',if_pos e,hc',store_take hml huq e]
  have hn':qW d.m s ((a+n)%4294967296)=false→c'=d.core 0 0:=fun e=>by
    rw[hc'];unfold qF.put;rw[if_neg (by show ¬qW d.m s _=true;rw[e];decide)]
  have hdn:qW d.m s ((a+n)%4294967296)=false→d'=d.trap 4:=fun e=>by rw[hd',if_neg (by rw[e];decide)]
  rw[←hc']at HPU
  generalize qW d.m s ((a+n)%4294967296)=ok at *
  have HY:=lI hy
  have HN:=lI hn'
  have HDN:=lI hdn
  have HST:=lI (fun W vs (hW:R8 rp cp hb po (.slice am d.m.length cm) 40 165 170 W (d.ofC c') vs steps c'.fr c'.tw)=>stored8_any hW c' rfl rfl hsl)
  have HTR:=lI (fun W vs fr tw (hW:R8 rp cp hb po (.slice am d.m.length cm) 40 165 170 W d vs steps fr tw)=>trap8_any hW 4 ⟨om,om⟩)
  clear ha hbb hd' hc' hy hn' hdn huq h H1 hb1 hw1 c0 c1 hu32 g10 p1 hml
  go_enter Tryz.func151,Tryz.ntmps151
  go_upto_region 1 with(fail)
  rw[←HW1.out]
  go_wp2_with fail
  refine HGA.out.mono ?_
  rintro e w2 ⟨rfl,hww2⟩
  subst hww2
  go_upto_region 14 with(fail)
  refine qa (fun W=>∃nd,W=w2.drewN nd) 13 kr kr ⟨1,rfl⟩ ?_
  simp only[List.take_succ_cons,List.take_zero,List.drop_succ_cons,List.drop_zero]
  iterate 13 quiet_step ((go_at_call 149;exact jC (HGB.out _)))
  refine wpQuiet_nil ?_
  rintro _ ⟨nd,rfl⟩
  go_wp2_with fail
  refine(HPU.out nd).mono ?_
  rintro e w9 ⟨rfl,h9,g9⟩
  cases ok with
  | true =>
    go_wp2_with fail
    refine(HST.out _ _ h9).mono ?_
    rintro e w10 ⟨rfl,vs',h10,g10⟩
    go_wp2_with fail
    go_ret
    have e:=HY.out xB
    subst e
    refine⟨Qf ?_,_,h10,HG1.out.trans (g9.trans g10)⟩
    rw[takeC_over]
    show true= !d.over
    rw[hov];rfl
  | false =>
    have e1:=HN.out xB
    subst e1
    go_wp2_with fail
    refine(HTR.out _ _ _ _ h9).mono ?_
    rintro e w10 ⟨rfl,h10,g10⟩
    go_wp2_with fail
    go_ret
    have e:=HDN.out xB
    subst e
    exact⟨rfl,_,h10,HG1.out.trans (g9.trans g10)⟩
theorem bytes8_atom(h:R8 rp cp hb po vm 40 165 170 w d vs steps 0 0)(s op n:Int)(kd ka kb:Nat)(hkd:kd<36)(hka:ka<36)(hkb:kb<36)(hn:U32 n)(hsl:d.stores.length≤100000)(hov:d.over=false)(hs:46≤s∧s≤56)(d':RunD)(hd':d'=d.atom s kd ka kb):
    Calls Tryz.prog 151 #[.pointer (some ⟨rp,0,none⟩),.int .i64 600,.int .i64 s,.agg #[.int .i64 op,.int .i64 kd,.int .i64 ka,.int .i64 kb,.int .u32 n]] w fun e w'=>e=.returned (.bool (!d'.over))∧∃vs',R8 rp cp hb po vm 40 165 170 w' d' vs' steps 0 0∧G8 rp 40 cp hb po vm w w':=by
  have hlt:=h.rlt
  have hcr:=h.lt
  have hbm:Ints .u8 w vm d.m:=h.core.bytes
  obtain⟨am,cm,rfl,-⟩:=hbm.open
  obtain⟨w1,hw1⟩:∃w1,w1=w.alloc (.cells #[.int .i64 op,.int .i64 kd,.int .i64 ka,.int .i64 kb,.int .u32 n] 211):=⟨_,rfl⟩
  have hb1:Below w.heap.size w w1:=zG
  have hs1:w1.heap.size=w.heap.size+1:=zP
  have c0:(w1).cell? ⟨w.heap.size,0,none⟩=some (.int .i64 op):=zA
  have c1:(w1).cell? ⟨w.heap.size,1,none⟩=some (.int .i64 kd):=zA
  have c2:(w1).cell? ⟨w.heap.size,2,none⟩=some (.int .i64 ka):=zA
  have c3:(w1).cell? ⟨w.heap.size,3,none⟩=some (.int .i64 kb):=zA
  have c4:(w1).cell? ⟨w.heap.size,4,none⟩=some (.int .u32 n):=zA
  have H1:=h.below hb1
  have HG1:Hid (G8 rp 40 cp hb po (.slice am d.m.length cm) w w1):=lI (G8.below hb1 h.clt)
  have HGA:=lI (Qz H1 ka hka)
  have HGB:=lI (fun nd=>(Qz (H1.below (qB (Below.refl _ w1) nd)) kb hkb).mono (R':=fun e w'=>e=.returned (.int .u32 (d.get kb))∧w1.drewN nd=w') (fun e w' h=>⟨h.1,h.2.symm⟩))
  obtain⟨a,ha⟩:∃a,a=d.get ka:=⟨_,rfl⟩
  obtain⟨b,hbb⟩:∃b,b=d.get kb:=⟨_,rfl⟩
  have hua:U32 a:=xG
  have hub:U32 b:=xF
  rw[←ha]at HGA
  rw[←hbb]at HGB
  have g0:=H1.at_.get (QQ 0 om)
  have g10:=H1.at_.get (Jc H1.wf.tlen 0)
  have p1:w1.cell? ⟨cp,1,none⟩=some (.slice am d.m.length cm):=H1.core.mem
  simp only[sM,Nat.reduceAdd]at g0 g10
  have HH1:=lI H1
  have HW1:=lI hw1
  have hbx:w1.heap[w.heap.size]? =some (.cells #[.int .i64 op,.int .i64 kd,.int .i64 ka,.int .i64 kb,.int .u32 n] 211 (0,0)):=zR
  have HPU:Hid (∀nd,Calls Tryz.prog 119 #[.pointer (some ⟨cp,0,none⟩),.int .i64 s,.int .u32 a,.int .u32 b] (w1.drewN nd) fun e w'=>e=.returned (.tuple #[.int .u32 (qb (d.core 0 0) s a b).2.1,.bool (qb (d.core 0 0) s a b).2.2])∧R8 rp cp hb po (.slice am d.m.length cm) 40 165 170 w' (d.ofC (qb (d.core 0 0) s a b).1) vs steps (qb (d.core 0 0) s a b).1.fr (qb (d.core 0 0) s a b).1.tw∧G8 rp 40 cp hb po (.slice am d.m.length cm) w1 w'∧w'.heap[w.heap.size]? =w1.heap[w.heap.size]?):=lI (fun nd=>by
    have h2:=H1.below (qB (Below.refl _ w1) nd)
    refine(atom_any h2.core h2.cwf s a b hs hua hub).mono ?_
    rintro e w9 ⟨rfl,h9,g9⟩
    refine⟨rfl,h2.ofC h9 g9 tyR tyS (uy h2.cwf s a b hua hub).1 (by have:=atomS_ml8 (d.core 0 0) s a b;rw[this];exact h2.mmax),(G8.below (qB br _) H1.clt).trans (G8.cgo g9 h2.clt), ?_⟩
    exact g9.block w.heap.size xE (by have:=h.core.hbl;omega) (fun e=>by have:=h.core.mlt _ e;omega) (.inr ⟨om,fun cs fr e=>by rw[show(w1.drewN nd).heap=w1.heap from rfl,hbx]at e;cases e⟩))
  have hml:=h.mmax
  have hux:U32 (qb (d.core 0 0) s a b).2.1:=(uy h.cwf s a b hua hub).2
  have hy:(qb (d.core 0 0) s a b).2.2=true→((d.ofC (qb (d.core 0 0) s a b).1).put kd (qb (d.core 0 0) s a b).2.1).takeC (qb (d.core 0 0) s a b).1=d':=fun e=>by
    rw[hd'];rw[ha,hbb]at e ⊢;exact atom_take hml (by rw[←ha];exact hua) e
  have hn':(qb (d.core 0 0) s a b).2.2=false→(d.ofC (qb (d.core 0 0) s a b).1).stop d.here=d'∧(qb (d.core 0 0) s a b).1.fr=0∧(qb (d.core 0 0) s a b).1.tw=0:=fun e=>by
    refine⟨?_,atom_no_fr e⟩
    rw[hd'];rw[ha,hbb]at e ⊢;exact(atom_no e).symm
  generalize (qb (d.core 0 0) s a b).2.2=ok at *
  generalize (qb (d.core 0 0) s a b).2.1=x at *
  generalize (qb (d.core 0 0) s a b).1=c' at *
  have HY:=lI hy
  have HN:=lI hn'
  have HPT:=lI (fun W (hW:R8 rp cp hb po (.slice am d.m.length cm) 40 165 170 W (d.ofC c') vs steps c'.fr c'.tw)=>put8_any hW kd hkd x hux)
  have hsl2:((d.ofC c').put kd x).stores.length≤100000:=by rw[(put_same (d.ofC c') kd x).2.1];exact hsl
  have HST:=lI (fun W vs (hW:R8 rp cp hb po (.slice am d.m.length cm) 40 165 170 W ((d.ofC c').put kd x) vs steps c'.fr c'.tw)=>stored8_any hW c' rfl rfl hsl2)
  have HSP:=lI (fun W vs fr tw (hW:R8 rp cp hb po (.slice am d.m.length cm) 40 165 170 W (d.ofC c') vs steps fr tw)=>JQ hW d.here hW.wf.here)
  have HWF:=lI H1.wf
  have hov2:(((d.ofC c').put kd x).takeC c').over=false:=by rw[takeC_over,put_over];exact hov
  have hne1:w.heap.size≠rp:=om
  have hne2:w.heap.size≠cp:=om
  have hltc:cp<w.heap.size:=om
  clear ha hbb hd' hy hn' h H1 hb1 hw1 c0 p1 hml hux hsl2 c4 g10
  go_enter Tryz.func151,Tryz.ntmps151
  go_upto_region 1 with(fail)
  rw[←HW1.out]
  go_wp2_with fail
  refine HGA.out.mono ?_
  rintro e w2 ⟨rfl,hww2⟩
  subst hww2
  go_upto_region 3 with(fail)
  have hd0:w2.drew.cell? ⟨w.heap.size,3,none⟩=some (.int .i64 kb):=c3
  have hd1:w2.drew.cell? ⟨rp,0,none⟩=some (.pointer (some ⟨cp,0,none⟩)):=g0
  go_cut [12,13]from 19 to 32 (fun t12 t13 wx=>t12=.int .u32 x∧t13=.bool ok∧Hid (R8 rp cp hb po (.slice am d.m.length cm) 40 165 170 wx (d.ofC c') vs steps c'.fr c'.tw∧G8 rp 40 cp hb po (.slice am d.m.length cm) w2 wx∧wx.heap[w.heap.size]? =w2.heap[w.heap.size]?))
  case first=>
    refine wp_region_held_drew (S:=fun W=>W.cell? ⟨w.heap.size,3,none⟩=some (.int .i64 kb)∧W.cell? ⟨rp,0,none⟩=some (.pointer (some ⟨cp,0,none⟩))) kr ⟨hd0,hd1⟩ (fun hHeld=> ?_)
    clear hd0 hd1 c2
    refine tak 0 (.pointer (some ⟨rp,0,none⟩)) ?_
    try simp only[sA,sB,sC,Act.put,sD,sE,sG]
    refine tak 1 (.pointer (some ⟨rp,0,none⟩)) ?_
    try simp only[sA,sB,sC,Act.put,sD,sE,sG]
    refine tak 2 (.pointer (some ⟨rp,0,none⟩)) ?_
    try simp only[sA,sB,sC,Act.put,sD,sE,sG]
    refine tak 3 (.pointer (some ⟨cp,0,none⟩)) ?_
    try simp only[sA,sB,sC,Act.put,sD,sE,sG]
    refine tak 4 (.int .i64 s) ?_
    try simp only[sA,sB,sC,Act.put,sD,sE,sG]
    refine tak 5 (.int .u32 a) ?_
    try simp only[sA,sB,sC,Act.put,sD,sE,sG]
    refine tak 6 (.pointer (some ⟨rp,0,none⟩)) ?_
    try simp only[sA,sB,sC,Act.put,sD,sE,sG]
    refine tak 7 (.pointer (some ⟨w.heap.size,3,none⟩)) ?_
    try simp only[sA,sB,sC,Act.put,sD,sE,sG]
    refine tak 8 (.int .i64 kb) ?_
    try simp only[sA,sB,sC,Act.put,sD,sE,sG]
    refine wpAnyH_ready (rs:=[9]) kr zC ?_
    refine sS rfl (fun K hK=> ?_) AllReadyH.nil
    go_simp
    refine(HGB.out 1).mono ?_
    rintro e w3 ⟨rfl,rfl⟩
    refine hK.out _ _ hHeld (fun hHeld2=> ?_)
    clear hK K
    refine wpAnyH_ready (rs:=[10]) kr zC ?_
    refine sS rfl (fun K hK=> ?_) AllReadyH.nil
    go_simp
    refine(HPU.out 1).mono ?_
    rintro e w4 ⟨rfl,h4,g4,b4⟩
    have eS:w4.cell? ⟨w.heap.size,3,none⟩=some (.int .i64 kb)∧w4.cell? ⟨rp,0,none⟩=some (.pointer (some ⟨cp,0,none⟩)):=⟨(qA b4 _).trans c3,by have:=h4.at_.get (QQ 0 om);simpa using this⟩
    have HR:=lI (And.intro h4 (And.intro g4 b4))
    clear h4 g4 b4
    refine hK.out _ _ eS (fun hHeld3=> ?_)
    clear hK K
    refine tak 11 (.tuple #[.int .u32 x,.bool ok]) ?_
    try simp only[sA,sB,sC,Act.put,sD,sE,sG]
    refine tak 12 (.int .u32 x) ?_
    try simp only[sA,sB,sC,Act.put,sD,sE,sG]
    refine tak 13 (.bool ok) ?_
    try simp only[sA,sB,sC,Act.put,sD,sE,sG]
    refine tak 14 (.int .u32 x) ?_
    try simp only[sA,sB,sC,Act.put,sD,sE,sG]
    refine tak 15 (.bool ok) ?_
    try simp only[sA,sB,sC,Act.put,sD,sE,sG]
    refine wpAnyH_done kr ?_ _
    clear hHeld hHeld2 hHeld3 eS
    go_wp2_with fail
    go_meet
    case rel=>exact⟨rfl,rfl,HR⟩
  case rest=>
    obtain⟨rfl,rfl,HR⟩:=hcut
    obtain⟨w5,hw5⟩:∃w5,w5=wc:=⟨_,rfl⟩
    rw[←hw5]at HR ⊢
    have h5:=HR.out.1
    have hd10:=h5.at_.get (Jc h5.wf.tlen 0)
    have g10:w5.cell? ⟨rp,10,none⟩=some (.int .u32 d.here):=by simpa[RunD.ofC]using hd10
    have e1:=(qA HR.out.2.2 1).trans c1
    clear hw5 h5 hd10 hd0 hd1 c1 c2 c3 g0 HPU HGB
    cases ok with
    | true =>
      go_wp2_with fail
      refine(HPT.out _ HR.out.1).mono ?_
      rintro e w6 ⟨rfl,h6,g6⟩
      have HS6:=lI (HST.out _ _ h6)
      have HG6:=lI g6
      clear h6 g6
      go_wp2_with fail
      refine HS6.out.mono ?_
      rintro e w7 ⟨rfl,vs',h7,g7⟩
      go_wp2_with fail
      go_ret
      have e:=HY.out xB
      rw[e]at h7 hov2
      refine⟨Qf ?_,_,h7,HG1.out.trans (HR.out.2.1.trans (HG6.out.trans g7))⟩
      rw[hov2];rfl
    | false =>
      go_wp2_with fail
      refine(HSP.out _ _ _ _ HR.out.1).mono ?_
      rintro e w6 ⟨rfl,h6,g6⟩
      go_wp2_with fail
      go_ret
      obtain⟨e,e1,e2⟩:=HN.out xB
      rw[e1,e2]at h6
      rw[←e]
      exact⟨rfl,_,h6,HG1.out.trans (HR.out.2.1.trans g6)⟩
end
end Go.Proofs.YtlfnddmncbkjaabGreatDoor.W
namespace Go.Proofs.YtlfnddmncbkjaabGreatDoor.Fb
open Go.RowKit
end Go.Proofs.YtlfnddmncbkjaabGreatDoor.Fb
namespace Go.Proofs.YtlfnddmncbkjaabGreatDoor.W
open Go.RowKit Fb
theorem ue(op:Int)(w:World)(h:op<100):
    Calls Tryz.prog 145 #[.int .i64 op] w fun e w'=>e=.returned (.tuple #[.int .i64 op,.int .i64 0])∧w'=w:=by
  go_enter Tryz.func145,Tryz.ntmps145
  go_wp2_with fail
  exact sO (v:=.tuple #[.int .i64 op,.int .i64 0]) (by simp[results,Tryz.results145,go_sem]) rfl ⟨rfl,rfl⟩
theorem uf(op c s:Int)(w:World)(h:op=c+s)(hc:100≤c∧c≤9223372036854775807)(hd:c%100=0)(hs:0≤s∧s<100):
    Calls Tryz.prog 145 #[.int .i64 op] w fun e w'=>e=.returned (.tuple #[.int .i64 c,.int .i64 s])∧w'=w:=by
  have h1:¬op<100:=om
  have h2:wrap64 (wrap64 (op.tdiv 100)*100)=c:=by
    rw[Int.tdiv_eq_ediv_of_nonneg om]
    unfold wrap64;omega
  have h3:op%100=s:=om
  have H2:=lI h2
  have H3:=lI h3
  clear h2 h3 h
  go_enter Tryz.func145,Tryz.ntmps145
  go_wp2_with fail
  rw[H2.out,H3.out]
  exact sO (v:=.tuple #[.int .i64 c,.int .i64 s]) (by simp[results,Tryz.results145,go_sem]) rfl ⟨rfl,rfl⟩
end Go.Proofs.YtlfnddmncbkjaabGreatDoor.W
