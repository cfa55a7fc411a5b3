import Derived.Test.YtlfnddmncbkjaabGreatDoorZWRun8b
set_option linter.unusedVariables false
set_option linter.unusedSimpArgs false
set_option maxRecDepth 100000
set_option maxHeartbeats 4000000
namespace Go.Proofs.YtlfnddmncbkjaabGreatDoor.Fb
open Go.RowKit
def RunD.ofC(d:RunD)(c:qF):RunD:={d with h:=c.h,m:=c.m,out:=c.out}
def RunD.takeC(d:RunD)(c:qF):RunD:=if c.fr<c.tw then {d with stores:=d.stores++[(c.fr,c.tw)],own:=d.own||(decide (d.bf<d.bt)&&decide (c.fr<d.bt)&&decide (d.bf<c.tw))} else d
theorem takeC_over(d:RunD)(c:qF):(d.takeC c).over=d.over:=by unfold RunD.takeC;split<;>rfl
theorem put_over(d:RunD)(k:Nat)(x:Int):(d.put k x).over=d.over:=by unfold RunD.put;split<;>rfl
section
variable {rp cp hb po : Nat} {vm : Value} {TU TS TR : TypeId} {w w' : World} {d : RunD} {vs : Value} {steps fr tw : Int}
theorem R8.cwf(h:R8 rp cp hb po vm TU TS TR w d vs steps fr tw):(d.core fr tw).Wf:=⟨h.wf.h,h.wf.m,h.wf.out,h.ufr,h.utw,h.wf.mlen,h.olen⟩
theorem R8.ofC(h:R8 rp cp hb po vm TU TS TR w d vs steps fr tw){c:qF}(hc:qX cp hb po vm TU w' c)(hg:Cgo cp hb po vm TU w w')(hR:TR≠TU)(hS:TS≠TU)(wf:c.Wf)(hm:c.m.length≤4096):R8 rp cp hb po vm TU TS TR w' (d.ofC c) vs steps c.fr c.tw:=
  h.cgo (d':=d.ofC c) (fr':=c.fr) (tw':=c.tw) hc hg hR hS {h.wf with h:=wf.h,m:=wf.m,mlen:=wf.mlen,out:=wf.out} wf.olen hm wf.fr wf.tw rfl rfl rfl rfl rfl rfl rfl
theorem put_core{op at_ x:Int}(hl:d.m.length≤4096)(ha:U32 at_)(hq:qU d.m op at_=true):(d.core fr tw).put op at_ x={(d.core fr tw)with m:=Qg d.m op at_ x,fr:=at_,tw:=at_+qO op}∧at_<at_+qO op∧hits at_ d.bf d.bt (qO op).toNat=(decide (d.bf<d.bt)&&decide (at_<d.bt)&&decide (d.bf<at_+qO op))∧u32 (at_+(qO op).toNat)=at_+qO op:=by
  obtain⟨h1,h2,h3⟩:0<qO op∧qO op≤4∧at_+qO op≤d.m.length:=by
    unfold qU there at hq
    simp only[Bool.and_eq_true,decide_eq_true_eq]at hq
    refine⟨hq.2.1.1, ?_,hq.2.2⟩
    unfold qO;repeat' split
    all_goals omega
  have hn:((qO op).toNat:Int)=qO op:=Int.toNat_of_nonneg om
  refine⟨?_,om, ?_,by rw[hn];unfold u32;have:=ha.1;omega⟩
  · unfold qF.put
    rw[if_pos (show qU (d.core fr tw).m op at_=true from hq)]
    show({(d.core fr tw)with m:=Qg d.m op at_ x,fr:=at_,tw:=(at_+qO op)%4294967296}:qF)=_
    rw[Int.emod_eq_of_lt (by have:=ha.1;omega) om]
  · have:=hits_ends (bf:=d.bf) (bt:=d.bt) ha.1 (show 0<(qO op).toNat by omega) om
    rw[this,hn]
theorem takeC_hit{e:RunD}{c:qF}{op a:Int}(hf:c.fr=a)(ht:c.tw=a+qO op)(h2:a<a+qO op)(h3:hits a e.bf e.bt (qO op).toNat=(decide (e.bf<e.bt)&&decide (a<e.bt)&&decide (e.bf<a+qO op)))(h4:u32 (a+(qO op).toNat)=a+qO op):e.takeC c=e.stored a (qO op).toNat:=by
  unfold RunD.takeC RunD.stored
  rw[hf,ht,if_pos h2,h3,h4]
theorem store_take{op at_ x:Int}(hl:d.m.length≤4096)(ha:U32 at_)(hq:qU d.m op at_=true):(d.ofC ((d.core fr tw).put op at_ x)).takeC ((d.core fr tw).put op at_ x)=(d.mem op at_ x).stored at_ (qO op).toNat:=by
  obtain⟨e1,e2,e3,e4⟩:=put_core (fr:=fr) (tw:=tw) (x:=x) hl ha hq
  rw[e1]
  exact takeC_hit (op:=op) (a:=at_) (e:=d.mem op at_ x) rfl rfl e2 e3 e4
theorem put_take(d:RunD)(c:qF)(k:Nat)(x:Int):(d.put k x).takeC c=(d.takeC c).put k x:=by
  unfold RunD.put RunD.takeC
  split<;>split<;>rfl
theorem atom_take{op:Int}{kd ka kb:Nat}(hl:d.m.length≤4096)(ha:U32 (d.get ka))(hok:(qb (d.core 0 0) op (d.get ka) (d.get kb)).2.2=true):
    ((d.ofC (qb (d.core 0 0) op (d.get ka) (d.get kb)).1).put kd (qb (d.core 0 0) op (d.get ka) (d.get kb)).2.1).takeC (qb (d.core 0 0) op (d.get ka) (d.get kb)).1=d.atom op kd ka kb:=by
  rw[put_take]
  unfold RunD.atom
  unfold qb at hok ⊢
  have em:(d.core 0 0).m=d.m:=rfl
  have eh:(d.core 0 0).h=d.h:=rfl
  rw[em,eh]at hok ⊢
  have key:qY d.m 13 (d.get ka)=true→qU d.m 18 (d.get ka)=true:=fun h=>h
  generalize d.get kb=b at *
  by_cases c1:qY d.m 13 (d.get ka)=true
  · have hq:=key c1
    rw[if_pos c1]
    simp only[if_pos c1]
    have hst:=fun x=>store_take (d:=d) (fr:=0) (tw:=0) (x:=x) hl ha hq
    generalize d.get ka=a at *
    by_cases c2:op=46
    · simp only[if_pos c2]
      have e:(d.ofC ((d.core 0 0).hold true a)).takeC ((d.core 0 0).hold true a)=d.hold true a:=by unfold RunD.takeC;rw[if_neg (by show ¬(0:Int)<0;omega)];rfl
      rw[e]
    · simp only[if_neg c2]
      by_cases c3:op=47
      · simp only[if_pos c3]
        by_cases c4:(d.h.held&&d.h.heldAt==a)=true
        · simp only[if_pos c4]
          have e:(d.ofC (((d.core 0 0).put 18 a b).hold false 0)).takeC (((d.core 0 0).put 18 a b).hold false 0)=((d.hold false 0).mem 18 a b).stored a 4:=by
            obtain⟨e1,e2,e3,e4⟩:=put_core (d:=d) (fr:=0) (tw:=0) (x:=b) hl ha hq
            rw[e1]
            exact takeC_hit (op:=18) (a:=a) (e:=(d.hold false 0).mem 18 a b) rfl rfl e2 e3 e4
          rw[e]
        · simp only[if_neg c4]
          have e:(d.ofC ((d.core 0 0).hold false 0)).takeC ((d.core 0 0).hold false 0)=d.hold false 0:=by unfold RunD.takeC;rw[if_neg (by show ¬(0:Int)<0;omega)];rfl
          rw[e]
      · simp only[if_neg c3]
        rw[hst]
        rfl
  · simp only[if_neg c1]at hok
    exact absurd hok zF
theorem dL{p:Prop}(h:p:=by
 simp only[if_pos c1]at hok
 split at hok
 · cases hok
 · split at hok
   · split at hok<;>cases hok
   · cases hok):p:=h
theorem atom_no_fr{op a b:Int}(hok:(qb (d.core 0 0) op a b).2.2=false):(qb (d.core 0 0) op a b).1.fr=0∧(qb (d.core 0 0) op a b).1.tw=0:=by
  unfold qb at hok ⊢
  by_cases c1:qY (d.core 0 0).m 13 a=true
  · exact dL
  · simp only[if_neg c1]
    exact⟨rfl,rfl⟩
theorem atom_no{op:Int}{kd ka kb:Nat}(hok:(qb (d.core 0 0) op (d.get ka) (d.get kb)).2.2=false):d.atom op kd ka kb=(d.ofC (qb (d.core 0 0) op (d.get ka) (d.get kb)).1).stop d.here:=by
  unfold RunD.atom
  unfold qb at hok ⊢
  have em:(d.core 0 0).m=d.m:=rfl
  rw[em]at hok ⊢
  by_cases c1:qY d.m 13 (d.get ka)=true
  · exact dL
  · rw[if_neg c1]
    simp only[if_neg c1]
    rfl
end
end Go.Proofs.YtlfnddmncbkjaabGreatDoor.Fb
namespace Go.Proofs.YtlfnddmncbkjaabGreatDoor.W
open Go.RowKit Fb
section
variable {rp cp hb po : Nat} {vm : Value} {w : World} {d : RunD} {vs : Value} {steps fr tw : Int}
theorem stored8_any(h:R8 rp cp hb po vm 40 165 170 w d vs steps fr tw)(c:qF)(hf:c.fr=fr)(ht:c.tw=tw)(hl:d.stores.length≤100000):
    Calls Tryz.prog 159 #[.pointer (some ⟨rp,0,none⟩)] w fun e w'=>e=.returned (.tuple #[])∧∃vs',R8 rp cp hb po vm 40 165 170 w' (d.takeC c) vs' steps 0 0∧G8 rp 40 cp hb po vm w w':=by
  subst hf ht
  by_cases q:c.fr<c.tw
  · have e:d.takeC c={d with stores:=d.stores++[(c.fr,c.tw)],own:=d.own||(decide (d.bf<d.bt)&&decide (c.fr<d.bt)&&decide (d.bf<c.tw))}:=by unfold RunD.takeC;rw[if_pos q]
    rw[e]
    exact stored8_yes h q hl
  · have e:d.takeC c=d:=by unfold RunD.takeC;rw[if_neg q]
    rw[e]
    exact(stored8_no h q).mono fun _ _ ⟨h1,h2,h3⟩=>⟨h1,_,h2,h3⟩
end
end Go.Proofs.YtlfnddmncbkjaabGreatDoor.W
