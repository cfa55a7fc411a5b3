import Derived.Test.YtlfnddmncbkjaacGreatZGA
set_option linter.unusedVariables false
set_option linter.unusedSimpArgs false
set_option maxRecDepth 100000
set_option maxHeartbeats 4000000
namespace Go.Proofs.YtlfnddmncbkjaacGreat.W
open Go.RowKit Fb
theorem qc(a sa:Int)(w:World)(h:Hid (sa=wrap32 a))(hu:Hid (U32 a)):Calls Tryz.prog 53 #[.int .u32 a] w fun e w'=>e=.returned (.int .i64 sa)∧w=w':=by
  rw[h.out];exact signed1 a w hu.out
theorem bits1i(o:BOp)(a b:Int)(w:World)(ha:U32 a)(hb:U32 b):
    Calls Tryz.prog 56 #[.int .i64 o.code,.int .u32 a,.int .u32 b] w fun e w'=>e=.returned (.int .u32 (bits o.op .u32 a b))∧w=w':=by
  obtain⟨x,rfl⟩:=sS ha.1
  obtain⟨y,rfl⟩:=sS hb.1
  exact bits1 o x y w (by have:=ha.2;omega) (by have:=hb.2;omega)
theorem tdiv_small'(a b:Int)(ha: -2147483648≤a)(ha':a≤2147483647)(h0:b≠0): -2147483648≤a.tdiv b∧a.tdiv b≤2147483648:=by
  have h:(a.tdiv b).natAbs=a.natAbs / b.natAbs:=Int.natAbs_tdiv a b
  have h2:a.natAbs / b.natAbs≤a.natAbs:=Nat.div_le_self _ _
  by_cases hb:b.natAbs=1
  · rcases(by omega:b=1∨b= -1)with rfl|rfl
    · simp;omega
    · simp;omega
  · have h3:a.natAbs / b.natAbs≤a.natAbs / 2:=Nat.div_le_div_left om zL
    omega
theorem alu1_28(a b sa sb:Int)(w:World)(ha:0≤a)(ha':a<4294967296)(hb:0≤b)(hb':b<4294967296)(HSA:Hid (sa=wrap32 a))(HSB:Hid (sb=wrap32 b))
    (hs1: -2147483648≤sa) (hs2:sa≤2147483647) (hs3: -2147483648≤sb) (hs4:sb≤2147483647) (HUA:Hid (U32 a)) (HUB:Hid (U32 b)):
    Calls Tryz.prog 35 #[.int .i64 28,.int .u32 a,.int .u32 b] w fun e w'=>e=.returned (.int .u32 (alu 28 a b))∧∃n,w'=w.drewN n:=by
  go_enter Tryz.func35,Tryz.ntmps35
  go_wp2_with (first|(go_at_call 53;((with_reducible refine(qc a sa _ HSA HUA).mono ?_);rintro e w' ⟨rfl,rfl⟩))|(go_at_call 53;((with_reducible refine(qc b sb _ HSB HUB).mono ?_);rintro e w' ⟨rfl,rfl⟩))|(go_at_call 30;refine(of1 _ _ ?_).mono ?_;(first|omega|(unfold wrap64;omega));rintro e w' ⟨rfl,rfl⟩))
  all_goals go_ret
  all_goals refine⟨qR ?_,0,rfl⟩
  · rfl
theorem alu1_29(a b sa sb:Int)(w:World)(ha:0≤a)(ha':a<4294967296)(hb:0≤b)(hb':b<4294967296)(HSA:Hid (sa=wrap32 a))(HSB:Hid (sb=wrap32 b))
    (hs1: -2147483648≤sa) (hs2:sa≤2147483647) (hs3: -2147483648≤sb) (hs4:sb≤2147483647) (HUA:Hid (U32 a)) (HUB:Hid (U32 b)):
    Calls Tryz.prog 35 #[.int .i64 29,.int .u32 a,.int .u32 b] w fun e w'=>e=.returned (.int .u32 (alu 29 a b))∧∃n,w'=w.drewN n:=by
  go_enter Tryz.func35,Tryz.ntmps35
  go_wp2_with (first|(go_at_call 53;((with_reducible refine(qc a sa _ HSA HUA).mono ?_);rintro e w' ⟨rfl,rfl⟩))|(go_at_call 53;((with_reducible refine(qc b sb _ HSB HUB).mono ?_);rintro e w' ⟨rfl,rfl⟩))|(go_at_call 30;refine(of1 _ _ ?_).mono ?_;(first|omega|(unfold wrap64;omega));rintro e w' ⟨rfl,rfl⟩))
  all_goals go_ret
  all_goals refine⟨qR ?_,0,rfl⟩
  · rfl
theorem alu1_37(a b sa sb:Int)(w:World)(ha:0≤a)(ha':a<4294967296)(hb:0≤b)(hb':b<4294967296)(HSA:Hid (sa=wrap32 a))(HSB:Hid (sb=wrap32 b))
    (hs1: -2147483648≤sa) (hs2:sa≤2147483647) (hs3: -2147483648≤sb) (hs4:sb≤2147483647) (HUA:Hid (U32 a)) (HUB:Hid (U32 b)):
    Calls Tryz.prog 35 #[.int .i64 37,.int .u32 a,.int .u32 b] w fun e w'=>e=.returned (.int .u32 (alu 37 a b))∧∃n,w'=w.drewN n:=by
  have HB:=lI (fun w=>bits1i .and a b w HUA.out HUB.out)
  go_enter Tryz.func35,Tryz.ntmps35
  go_wp2_with (first|(go_at_call 53;((with_reducible refine(qc a sa _ HSA HUA).mono ?_);rintro e w' ⟨rfl,rfl⟩))|(go_at_call 53;((with_reducible refine(qc b sb _ HSB HUB).mono ?_);rintro e w' ⟨rfl,rfl⟩))|(go_at_call 30;refine(of1 _ _ ?_).mono ?_;(first|omega|(unfold wrap64;omega));rintro e w' ⟨rfl,rfl⟩)|(go_at_call 56;refine(HB.out _).mono ?_;rintro e w' ⟨rfl,rfl⟩))
  all_goals go_ret
  all_goals refine⟨qR ?_,0,rfl⟩
  · rfl
theorem alu1_36(a b sa sb:Int)(w:World)(ha:0≤a)(ha':a<4294967296)(hb:0≤b)(hb':b<4294967296)(HSA:Hid (sa=wrap32 a))(HSB:Hid (sb=wrap32 b))
    (hs1: -2147483648≤sa) (hs2:sa≤2147483647) (hs3: -2147483648≤sb) (hs4:sb≤2147483647) (HUA:Hid (U32 a)) (HUB:Hid (U32 b)):
    Calls Tryz.prog 35 #[.int .i64 36,.int .u32 a,.int .u32 b] w fun e w'=>e=.returned (.int .u32 (alu 36 a b))∧∃n,w'=w.drewN n:=by
  have HB:=lI (fun w=>bits1i .or a b w HUA.out HUB.out)
  go_enter Tryz.func35,Tryz.ntmps35
  go_wp2_with (first|(go_at_call 53;((with_reducible refine(qc a sa _ HSA HUA).mono ?_);rintro e w' ⟨rfl,rfl⟩))|(go_at_call 53;((with_reducible refine(qc b sb _ HSB HUB).mono ?_);rintro e w' ⟨rfl,rfl⟩))|(go_at_call 30;refine(of1 _ _ ?_).mono ?_;(first|omega|(unfold wrap64;omega));rintro e w' ⟨rfl,rfl⟩)|(go_at_call 56;refine(HB.out _).mono ?_;rintro e w' ⟨rfl,rfl⟩))
  all_goals go_ret
  all_goals refine⟨qR ?_,0,rfl⟩
  · rfl
theorem alu1_33(a b sa sb:Int)(w:World)(ha:0≤a)(ha':a<4294967296)(hb:0≤b)(hb':b<4294967296)(HSA:Hid (sa=wrap32 a))(HSB:Hid (sb=wrap32 b))
    (hs1: -2147483648≤sa) (hs2:sa≤2147483647) (hs3: -2147483648≤sb) (hs4:sb≤2147483647) (HUA:Hid (U32 a)) (HUB:Hid (U32 b)):
    Calls Tryz.prog 35 #[.int .i64 33,.int .u32 a,.int .u32 b] w fun e w'=>e=.returned (.int .u32 (alu 33 a b))∧∃n,w'=w.drewN n:=by
  have HB:=lI (fun w=>bits1i .xor a b w HUA.out HUB.out)
  go_enter Tryz.func35,Tryz.ntmps35
  go_wp2_with (first|(go_at_call 53;((with_reducible refine(qc a sa _ HSA HUA).mono ?_);rintro e w' ⟨rfl,rfl⟩))|(go_at_call 53;((with_reducible refine(qc b sb _ HSB HUB).mono ?_);rintro e w' ⟨rfl,rfl⟩))|(go_at_call 30;refine(of1 _ _ ?_).mono ?_;(first|omega|(unfold wrap64;omega));rintro e w' ⟨rfl,rfl⟩)|(go_at_call 56;refine(HB.out _).mono ?_;rintro e w' ⟨rfl,rfl⟩))
  all_goals go_ret
  all_goals refine⟨qR ?_,0,rfl⟩
  · rfl
theorem alu1_31(a b sa sb:Int)(w:World)(ha:0≤a)(ha':a<4294967296)(hb:0≤b)(hb':b<4294967296)(HSA:Hid (sa=wrap32 a))(HSB:Hid (sb=wrap32 b))
    (hs1: -2147483648≤sa) (hs2:sa≤2147483647) (hs3: -2147483648≤sb) (hs4:sb≤2147483647) (HUA:Hid (U32 a)) (HUB:Hid (U32 b)):
    Calls Tryz.prog 35 #[.int .i64 31,.int .u32 a,.int .u32 b] w fun e w'=>e=.returned (.int .u32 (alu 31 a b))∧∃n,w'=w.drewN n:=by
  go_enter Tryz.func35,Tryz.ntmps35
  go_wp2_with (first|(go_at_call 53;((with_reducible refine(qc a sa _ HSA HUA).mono ?_);rintro e w' ⟨rfl,rfl⟩))|(go_at_call 53;((with_reducible refine(qc b sb _ HSB HUB).mono ?_);rintro e w' ⟨rfl,rfl⟩))|(go_at_call 30;refine(of1 _ _ ?_).mono ?_;(first|omega|(unfold wrap64;omega));rintro e w' ⟨rfl,rfl⟩)|(go_at_call 59;refine(truth1 _ _).mono ?_;rintro e w' ⟨rfl,rfl⟩))
  all_goals go_ret
  all_goals refine⟨qR ?_,0,rfl⟩
  all_goals(show _=if wrap32 a<wrap32 b then(1:Int)else 0;rw[←HSA.out,←HSB.out];first|(rw[if_pos (by assumption)];done)|(rw[if_neg om];done))
theorem alu1_32(a b sa sb:Int)(w:World)(ha:0≤a)(ha':a<4294967296)(hb:0≤b)(hb':b<4294967296)(HSA:Hid (sa=wrap32 a))(HSB:Hid (sb=wrap32 b))
    (hs1: -2147483648≤sa) (hs2:sa≤2147483647) (hs3: -2147483648≤sb) (hs4:sb≤2147483647) (HUA:Hid (U32 a)) (HUB:Hid (U32 b)):
    Calls Tryz.prog 35 #[.int .i64 32,.int .u32 a,.int .u32 b] w fun e w'=>e=.returned (.int .u32 (alu 32 a b))∧∃n,w'=w.drewN n:=by
  go_enter Tryz.func35,Tryz.ntmps35
  go_wp2_with (first|(go_at_call 53;((with_reducible refine(qc a sa _ HSA HUA).mono ?_);rintro e w' ⟨rfl,rfl⟩))|(go_at_call 53;((with_reducible refine(qc b sb _ HSB HUB).mono ?_);rintro e w' ⟨rfl,rfl⟩))|(go_at_call 30;refine(of1 _ _ ?_).mono ?_;(first|omega|(unfold wrap64;omega));rintro e w' ⟨rfl,rfl⟩)|(go_at_call 59;refine(truth1 _ _).mono ?_;rintro e w' ⟨rfl,rfl⟩))
  all_goals go_ret
  all_goals refine⟨qR ?_,0,rfl⟩
  all_goals(show _=if a<b then(1:Int)else 0;first|(rw[if_pos (by assumption)];done)|(rw[if_neg om];done))
theorem alu1_38(a b sa sb:Int)(w:World)(ha:0≤a)(ha':a<4294967296)(hb:0≤b)(hb':b<4294967296)(HSA:Hid (sa=wrap32 a))(HSB:Hid (sb=wrap32 b))
    (hs1: -2147483648≤sa) (hs2:sa≤2147483647) (hs3: -2147483648≤sb) (hs4:sb≤2147483647) (HUA:Hid (U32 a)) (HUB:Hid (U32 b)):
    Calls Tryz.prog 35 #[.int .i64 38,.int .u32 a,.int .u32 b] w fun e w'=>e=.returned (.int .u32 (alu 38 a b))∧∃n,w'=w.drewN n:=by
  obtain⟨p,hp⟩:∃p,p=sa*sb:=⟨_,rfl⟩
  have hpb:=JG sa sb 2147483648 2147483648 om om
  rw[←hp]at hpb
  have p1: -4611686018427387904≤p:=om
  have p2:p≤4611686018427387904:=om
  have e1:wrap64 (sa*sb)=p:=by rw[←hp];unfold wrap64;omega
  have HP:=lI hp
  clear hp hpb
  go_enter Tryz.func35,Tryz.ntmps35
  go_wp2_with (first|(go_at_call 53;((with_reducible refine(qc a sa _ HSA HUA).mono ?_);rintro e w' ⟨rfl,rfl⟩))|(go_at_call 53;((with_reducible refine(qc b sb _ HSB HUB).mono ?_);rintro e w' ⟨rfl,rfl⟩))|(go_at_call 30;refine(of1 _ _ ?_).mono ?_;(first|omega|(unfold wrap64;omega));rintro e w' ⟨rfl,rfl⟩))
  all_goals go_ret
  all_goals refine⟨qR ?_,0,rfl⟩
  · rw[HP.out,HSA.out,HSB.out]
    obtain⟨d,hd⟩:=wrap32_mod a
    obtain⟨e,he⟩:=wrap32_mod b
    show _=a*b%4294967296
    conv=>rhs;rw[Int.mul_emod,hd,he,Int.add_mul_emod_self_left,Int.add_mul_emod_self_left,←Int.mul_emod]
theorem alu1_39(a b sa sb:Int)(w:World)(ha:0≤a)(ha':a<4294967296)(hb:0≤b)(hb':b<4294967296)(HSA:Hid (sa=wrap32 a))(HSB:Hid (sb=wrap32 b))
    (hs1: -2147483648≤sa) (hs2:sa≤2147483647) (hs3: -2147483648≤sb) (hs4:sb≤2147483647) (HUA:Hid (U32 a)) (HUB:Hid (U32 b)):
    Calls Tryz.prog 35 #[.int .i64 39,.int .u32 a,.int .u32 b] w fun e w'=>e=.returned (.int .u32 (alu 39 a b))∧∃n,w'=w.drewN n:=by
  obtain⟨p,hp⟩:∃p,p=sa*sb:=⟨_,rfl⟩
  have hpb:=JG sa sb 2147483648 2147483648 om om
  rw[←hp]at hpb
  have p1: -4611686018427387904≤p:=om
  have p2:p≤4611686018427387904:=om
  have e1:wrap64 (sa*sb)=p:=by rw[←hp];unfold wrap64;omega
  have HP:=lI hp
  clear hp hpb
  go_enter Tryz.func35,Tryz.ntmps35
  go_wp2_with (first|(go_at_call 53;((with_reducible refine(qc a sa _ HSA HUA).mono ?_);rintro e w' ⟨rfl,rfl⟩))|(go_at_call 53;((with_reducible refine(qc b sb _ HSB HUB).mono ?_);rintro e w' ⟨rfl,rfl⟩))|(go_at_call 30;refine(of1 _ _ ?_).mono ?_;(first|omega|(unfold wrap64;omega));rintro e w' ⟨rfl,rfl⟩)|(go_at_call 58;refine(floor1 _ _ _ ?_ ?_).mono ?_;omega;omega;rintro e w' ⟨rfl,rfl⟩))
  all_goals go_ret
  all_goals refine⟨qR ?_,0,rfl⟩
  · rw[HP.out,HSA.out,HSB.out];rfl
theorem alu1_40(a b sa sb:Int)(w:World)(ha:0≤a)(ha':a<4294967296)(hb:0≤b)(hb':b<4294967296)(HSA:Hid (sa=wrap32 a))(HSB:Hid (sb=wrap32 b))
    (hs1: -2147483648≤sa) (hs2:sa≤2147483647) (hs3: -2147483648≤sb) (hs4:sb≤2147483647) (HUA:Hid (U32 a)) (HUB:Hid (U32 b)):
    Calls Tryz.prog 35 #[.int .i64 40,.int .u32 a,.int .u32 b] w fun e w'=>e=.returned (.int .u32 (alu 40 a b))∧∃n,w'=w.drewN n:=by
  go_enter Tryz.func35,Tryz.ntmps35
  go_wp2_with (first|(go_at_call 53;((with_reducible refine(qc a sa _ HSA HUA).mono ?_);rintro e w' ⟨rfl,rfl⟩))|(go_at_call 53;((with_reducible refine(qc b sb _ HSB HUB).mono ?_);rintro e w' ⟨rfl,rfl⟩))|(go_at_call 30;refine(of1 _ _ ?_).mono ?_;(first|omega|(unfold wrap64;omega));rintro e w' ⟨rfl,rfl⟩)|(go_at_call 60;refine(upper1 _ _ _ ?_ ?_).mono ?_;omega;(exact HUB.out);rintro e w' ⟨rfl,rfl⟩))
  all_goals go_ret
  all_goals refine⟨qR ?_,0,rfl⟩
  · rw[HSA.out];rfl
theorem alu1_41(a b sa sb:Int)(w:World)(ha:0≤a)(ha':a<4294967296)(hb:0≤b)(hb':b<4294967296)(HSA:Hid (sa=wrap32 a))(HSB:Hid (sb=wrap32 b))
    (hs1: -2147483648≤sa) (hs2:sa≤2147483647) (hs3: -2147483648≤sb) (hs4:sb≤2147483647) (HUA:Hid (U32 a)) (HUB:Hid (U32 b)):
    Calls Tryz.prog 35 #[.int .i64 41,.int .u32 a,.int .u32 b] w fun e w'=>e=.returned (.int .u32 (alu 41 a b))∧∃n,w'=w.drewN n:=by
  go_enter Tryz.func35,Tryz.ntmps35
  go_wp2_with (first|(go_at_call 53;((with_reducible refine(qc a sa _ HSA HUA).mono ?_);rintro e w' ⟨rfl,rfl⟩))|(go_at_call 53;((with_reducible refine(qc b sb _ HSB HUB).mono ?_);rintro e w' ⟨rfl,rfl⟩))|(go_at_call 30;refine(of1 _ _ ?_).mono ?_;(first|omega|(unfold wrap64;omega));rintro e w' ⟨rfl,rfl⟩)|(go_at_call 60;refine(upper1 _ _ _ ?_ ?_).mono ?_;omega;(exact HUB.out);rintro e w' ⟨rfl,rfl⟩))
  all_goals go_ret
  all_goals refine⟨qR ?_,0,rfl⟩
  · rfl
theorem alu1_42(a b sa sb:Int)(w:World)(ha:0≤a)(ha':a<4294967296)(hb:0≤b)(hb':b<4294967296)(HSA:Hid (sa=wrap32 a))(HSB:Hid (sb=wrap32 b))
    (hs1: -2147483648≤sa) (hs2:sa≤2147483647) (hs3: -2147483648≤sb) (hs4:sb≤2147483647) (HUA:Hid (U32 a)) (HUB:Hid (U32 b)):
    Calls Tryz.prog 35 #[.int .i64 42,.int .u32 a,.int .u32 b] w fun e w'=>e=.returned (.int .u32 (alu 42 a b))∧∃n,w'=w.drewN n:=by
  by_cases h0:b=0
  · subst h0
    go_enter Tryz.func35,Tryz.ntmps35
    go_wp2_with (first|(go_at_call 53;((with_reducible refine(qc a sa _ HSA HUA).mono ?_);rintro e w' ⟨rfl,rfl⟩))|(go_at_call 53;((with_reducible refine(qc 0 sb _ HSB HUB).mono ?_);rintro e w' ⟨rfl,rfl⟩))|(go_at_call 30;refine(of1 _ _ ?_).mono ?_;(first|omega|(unfold wrap64;omega));rintro e w' ⟨rfl,rfl⟩))
    all_goals go_ret
    all_goals refine⟨qR ?_,0,rfl⟩
    · first|rfl|exact(alu_div0 a).symm|exact(alu_rem0 a HUA.out).symm
  · have hz:(b==0)=false:=by simpa using h0
    have hsz:sb≠0:=wT
    have hz2:(sb==0)=false:=by simpa using hsz
    have T:=lI (Int.mul_tdiv_add_tmod sa sb)
    obtain⟨tb1,tb2⟩:=tdiv_small' sa sb hs1 hs2 hsz
    go_enter Tryz.func35,Tryz.ntmps35
    go_wp2_with (first|(go_at_call 53;((with_reducible refine(qc a sa _ HSA HUA).mono ?_);rintro e w' ⟨rfl,rfl⟩))|(go_at_call 53;((with_reducible refine(qc b sb _ HSB HUB).mono ?_);rintro e w' ⟨rfl,rfl⟩))|(go_at_call 30;refine(of1 _ _ ?_).mono ?_;(first|omega|(unfold wrap64;omega));rintro e w' ⟨rfl,rfl⟩))
    all_goals go_ret
    all_goals refine⟨qR ?_,0,rfl⟩
    · rw[alu_div,←HSA.out,←HSB.out,divq,if_neg hsz]
      have e1:wrap64 (sa.tdiv sb)=sa.tdiv sb:=yH
      split
      · rename_i h1;rw[h1];unfold wrap32;simp;try omega
      · first|rfl|(rw[e1];done)|omega
theorem alu1_44(a b sa sb:Int)(w:World)(ha:0≤a)(ha':a<4294967296)(hb:0≤b)(hb':b<4294967296)(HSA:Hid (sa=wrap32 a))(HSB:Hid (sb=wrap32 b))
    (hs1: -2147483648≤sa) (hs2:sa≤2147483647) (hs3: -2147483648≤sb) (hs4:sb≤2147483647) (HUA:Hid (U32 a)) (HUB:Hid (U32 b)):
    Calls Tryz.prog 35 #[.int .i64 44,.int .u32 a,.int .u32 b] w fun e w'=>e=.returned (.int .u32 (alu 44 a b))∧∃n,w'=w.drewN n:=by
  by_cases h0:b=0
  · subst h0
    go_enter Tryz.func35,Tryz.ntmps35
    go_wp2_with (first|(go_at_call 53;((with_reducible refine(qc a sa _ HSA HUA).mono ?_);rintro e w' ⟨rfl,rfl⟩))|(go_at_call 53;((with_reducible refine(qc 0 sb _ HSB HUB).mono ?_);rintro e w' ⟨rfl,rfl⟩))|(go_at_call 30;refine(of1 _ _ ?_).mono ?_;(first|omega|(unfold wrap64;omega));rintro e w' ⟨rfl,rfl⟩))
    all_goals go_ret
    all_goals refine⟨qR ?_,0,rfl⟩
    · first|rfl|exact(alu_div0 a).symm|exact(alu_rem0 a HUA.out).symm
  · have hz:(b==0)=false:=by simpa using h0
    have hsz:sb≠0:=wT
    have hz2:(sb==0)=false:=by simpa using hsz
    have T:=lI (Int.mul_tdiv_add_tmod sa sb)
    obtain⟨tb1,tb2⟩:=tdiv_small' sa sb hs1 hs2 hsz
    go_enter Tryz.func35,Tryz.ntmps35
    go_wp2_with (first|(go_at_call 53;((with_reducible refine(qc a sa _ HSA HUA).mono ?_);rintro e w' ⟨rfl,rfl⟩))|(go_at_call 53;((with_reducible refine(qc b sb _ HSB HUB).mono ?_);rintro e w' ⟨rfl,rfl⟩))|(go_at_call 30;refine(of1 _ _ ?_).mono ?_;(first|omega|(unfold wrap64;omega));rintro e w' ⟨rfl,rfl⟩))
    all_goals go_ret
    all_goals refine⟨qR ?_,0,rfl⟩
    · have h4:=T.out
      rw[alu_rem,←HSA.out,←HSB.out,divr,if_neg hsz]
      have e2:sa.tdiv sb*sb+sa.tmod sb=sa:=by rw[Int.mul_comm];exact h4
      have e3:sb= -1→sa.tmod sb=0:=fun h=>by rw[h,Int.tmod_neg,Int.tmod_one]
      clear h4 T
      generalize sa.tdiv sb*sb=Q at *
      generalize sa.tmod sb=R at *
      unfold wrap64
      split
      · rename_i h1;have:=e3 h1;omega
      · omega
theorem alu1_43(a b sa sb:Int)(w:World)(ha:0≤a)(ha':a<4294967296)(hb:0≤b)(hb':b<4294967296)(HSA:Hid (sa=wrap32 a))(HSB:Hid (sb=wrap32 b))
    (hs1: -2147483648≤sa) (hs2:sa≤2147483647) (hs3: -2147483648≤sb) (hs4:sb≤2147483647) (HUA:Hid (U32 a)) (HUB:Hid (U32 b)):
    Calls Tryz.prog 35 #[.int .i64 43,.int .u32 a,.int .u32 b] w fun e w'=>e=.returned (.int .u32 (alu 43 a b))∧∃n,w'=w.drewN n:=by
  by_cases h0:b=0
  · subst h0
    go_enter Tryz.func35,Tryz.ntmps35
    go_wp2_with (first|(go_at_call 53;((with_reducible refine(qc a sa _ HSA HUA).mono ?_);rintro e w' ⟨rfl,rfl⟩))|(go_at_call 53;((with_reducible refine(qc 0 sb _ HSB HUB).mono ?_);rintro e w' ⟨rfl,rfl⟩))|(go_at_call 30;refine(of1 _ _ ?_).mono ?_;(first|omega|(unfold wrap64;omega));rintro e w' ⟨rfl,rfl⟩))
    all_goals go_ret
    all_goals refine⟨qR ?_,0,rfl⟩
    · first|rfl|exact(alu_div0 a).symm|exact(alu_rem0 a HUA.out).symm
  · have hz:(b==0)=false:=by simpa using h0
    have hsz:sb≠0:=wT
    have hz2:(sb==0)=false:=by simpa using hsz
    have hz1:(b== -1)=false:=by simpa using (by omega:b≠ -1)
    obtain⟨d1,d2⟩:0≤a / b∧a / b≤a:=⟨Int.ediv_nonneg ha hb,Int.ediv_le_self _ ha⟩
    have e1:a.tdiv b=a / b:=Int.tdiv_eq_ediv_of_nonneg ha
    obtain⟨d3,d4⟩:0≤a%b∧a%b<b:=⟨Int.emod_nonneg a h0,Int.emod_lt_of_pos a om⟩
    have e2:a.tmod b=a%b:=Int.tmod_eq_emod_of_nonneg ha
    go_enter Tryz.func35,Tryz.ntmps35
    go_wp2_with (first|(go_at_call 53;((with_reducible refine(qc a sa _ HSA HUA).mono ?_);rintro e w' ⟨rfl,rfl⟩))|(go_at_call 53;((with_reducible refine(qc b sb _ HSB HUB).mono ?_);rintro e w' ⟨rfl,rfl⟩))|(go_at_call 30;refine(of1 _ _ ?_).mono ?_;(first|omega|(unfold wrap64;omega));rintro e w' ⟨rfl,rfl⟩))
    all_goals go_ret
    all_goals refine⟨qR ?_,0,rfl⟩
    · rw[alu_divu,if_neg h0];omega
theorem alu1_45(a b sa sb:Int)(w:World)(ha:0≤a)(ha':a<4294967296)(hb:0≤b)(hb':b<4294967296)(HSA:Hid (sa=wrap32 a))(HSB:Hid (sb=wrap32 b))
    (hs1: -2147483648≤sa) (hs2:sa≤2147483647) (hs3: -2147483648≤sb) (hs4:sb≤2147483647) (HUA:Hid (U32 a)) (HUB:Hid (U32 b)):
    Calls Tryz.prog 35 #[.int .i64 45,.int .u32 a,.int .u32 b] w fun e w'=>e=.returned (.int .u32 (alu 45 a b))∧∃n,w'=w.drewN n:=by
  by_cases h0:b=0
  · subst h0
    go_enter Tryz.func35,Tryz.ntmps35
    go_wp2_with (first|(go_at_call 53;((with_reducible refine(qc a sa _ HSA HUA).mono ?_);rintro e w' ⟨rfl,rfl⟩))|(go_at_call 53;((with_reducible refine(qc 0 sb _ HSB HUB).mono ?_);rintro e w' ⟨rfl,rfl⟩))|(go_at_call 30;refine(of1 _ _ ?_).mono ?_;(first|omega|(unfold wrap64;omega));rintro e w' ⟨rfl,rfl⟩))
    all_goals go_ret
    all_goals refine⟨qR ?_,0,rfl⟩
    · first|rfl|exact(alu_div0 a).symm|exact(alu_rem0 a HUA.out).symm
  · have hz:(b==0)=false:=by simpa using h0
    have hsz:sb≠0:=wT
    have hz2:(sb==0)=false:=by simpa using hsz
    have hz1:(b== -1)=false:=by simpa using (by omega:b≠ -1)
    obtain⟨d1,d2⟩:0≤a / b∧a / b≤a:=⟨Int.ediv_nonneg ha hb,Int.ediv_le_self _ ha⟩
    have e1:a.tdiv b=a / b:=Int.tdiv_eq_ediv_of_nonneg ha
    obtain⟨d3,d4⟩:0≤a%b∧a%b<b:=⟨Int.emod_nonneg a h0,Int.emod_lt_of_pos a om⟩
    have e2:a.tmod b=a%b:=Int.tmod_eq_emod_of_nonneg ha
    go_enter Tryz.func35,Tryz.ntmps35
    go_wp2_with (first|(go_at_call 53;((with_reducible refine(qc a sa _ HSA HUA).mono ?_);rintro e w' ⟨rfl,rfl⟩))|(go_at_call 53;((with_reducible refine(qc b sb _ HSB HUB).mono ?_);rintro e w' ⟨rfl,rfl⟩))|(go_at_call 30;refine(of1 _ _ ?_).mono ?_;(first|omega|(unfold wrap64;omega));rintro e w' ⟨rfl,rfl⟩))
    all_goals go_ret
    all_goals refine⟨qR ?_,0,rfl⟩
    · rw[alu_remu,if_neg h0];omega
theorem qr(n P:Int)(w:World)(h:Hid (0≤n∧n≤32∧P=((2 ^ n.toNat:Nat):Int))):
    Calls Tryz.prog 57 #[.int .i64 n] w fun e w'=>e=.returned (.int .i64 P)∧w=w':=by
  rw[h.out.2.2];exact power1 n w ⟨h.out.1,h.out.2.1⟩
theorem of1any(n:Int)(w:World):Calls Tryz.prog 30 #[.int .i64 (wrap64 n)] w fun e w'=>e=.returned (.int .u32 (n%4294967296))∧w=w':=by
  have h:=of1 (wrap64 n) w yH
  have e:wrap64 n%4294967296=n%4294967296:=yH
  rw[e]at h;exact h
theorem sll_plain(a p1 p2:Int)(h:p1*p2=4294967296)(h2:0<p2):a%p1*p2%4294967296=a*p2%4294967296:=by
  have e:a%p1*p2=a*p2%4294967296:=by
    rw[←h,Int.mul_comm (a%p1),←Int.mul_emod_mul_of_pos _ _ h2,Int.mul_comm p2 a,Int.mul_comm p2 p1]
  rw[e,Int.emod_emod]
theorem alu1_30(a b sa sb:Int)(w:World)(ha:0≤a)(ha':a<4294967296)(hb:0≤b)(hb':b<4294967296)(HSA:Hid (sa=wrap32 a))(HSB:Hid (sb=wrap32 b))
    (hs1: -2147483648≤sa) (hs2:sa≤2147483647) (hs3: -2147483648≤sb) (hs4:sb≤2147483647) (HUA:Hid (U32 a)) (HUB:Hid (U32 b)):
    Calls Tryz.prog 35 #[.int .i64 30,.int .u32 a,.int .u32 b] w fun e w'=>e=.returned (.int .u32 (alu 30 a b))∧∃n,w'=w.drewN n:=by
  obtain⟨s,hs⟩:∃s,s=b%32:=⟨_,rfl⟩
  obtain⟨p1,hp1⟩:∃p,p=((2 ^ (32-s).toNat:Nat):Int):=⟨_,rfl⟩
  obtain⟨p2,hp2⟩:∃p,p=((2 ^ s.toNat:Nat):Int):=⟨_,rfl⟩
  have s1:0≤s:=om
  have s2:s<32:=om
  have hprod:p1*p2=4294967296:=by
    rw[hp1,hp2,←Int.natCast_mul,←Nat.pow_add,show(32-s).toNat+s.toNat=32 from by omega];rfl
  have q1:0<p1:=by rw[hp1];exact_mod_cast Nat.pow_pos zL
  have q2:0<p2:=by rw[hp2];exact_mod_cast Nat.pow_pos zL
  have ee:b%32=s:=hs.symm
  have HP1:Hid (0≤32-s∧32-s≤32∧p1=((2 ^ (32-s).toNat:Nat):Int)):=lI ⟨om,om,hp1⟩
  have HP2:Hid (0≤s∧s≤32∧p2=((2 ^ s.toNat:Nat):Int)):=lI ⟨om,om,hp2⟩
  have HF:Hid (a%p1*p2%4294967296=alu 30 a b):=lI (by
    rw[sll_plain a p1 p2 hprod q2]
    show _=a*2 ^ (b%32).toNat%4294967296
    rw[ee,hp2,Int.natCast_pow];rfl)
  have hz1:¬p1=0:=om
  have hz2:(p1== -1)=false:=by simpa using (by omega:p1≠ -1)
  have ew:IntKind.i64.wrap (32-s)=32-s:=IntWalk.i64_in _ om
  have em:a.tmod p1=a%p1:=Int.tmod_eq_emod_of_nonneg ha
  clear hs hp1 hp2 hprod
  go_enter Tryz.func35,Tryz.ntmps35
  go_wp2_with (first|(go_at_call 53;((with_reducible refine(qc a sa _ HSA HUA).mono ?_);rintro e w' ⟨rfl,rfl⟩))|(go_at_call 53;((with_reducible refine(qc b sb _ HSB HUB).mono ?_);rintro e w' ⟨rfl,rfl⟩)))
  go_quiet (first|(go_at_call 57;first|(with_reducible exact Qg (qr _ _ _ HP1))|(with_reducible exact Qg (qr _ _ _ HP2)))|(go_at_call 30;exact Qg (of1any _ _)))
  go_wp2
  go_ret
  exact⟨qR (by rw[←HF.out]),nq,rfl⟩
theorem alu1_34(a b sa sb:Int)(w:World)(ha:0≤a)(ha':a<4294967296)(hb:0≤b)(hb':b<4294967296)(HSA:Hid (sa=wrap32 a))(HSB:Hid (sb=wrap32 b))
    (hs1: -2147483648≤sa) (hs2:sa≤2147483647) (hs3: -2147483648≤sb) (hs4:sb≤2147483647) (HUA:Hid (U32 a)) (HUB:Hid (U32 b)):
    Calls Tryz.prog 35 #[.int .i64 34,.int .u32 a,.int .u32 b] w fun e w'=>e=.returned (.int .u32 (alu 34 a b))∧∃n,w'=w.drewN n:=by
  obtain⟨s,hs⟩:∃s,s=b%32:=⟨_,rfl⟩
  obtain⟨p2,hp2⟩:∃p,p=((2 ^ s.toNat:Nat):Int):=⟨_,rfl⟩
  have s1:0≤s:=om
  have s2:s<32:=om
  have q2:0<p2:=by rw[hp2];exact_mod_cast Nat.pow_pos zL
  have ee:b%32=s:=hs.symm
  have HP2:Hid (0≤s∧s≤32∧p2=((2 ^ s.toNat:Nat):Int)):=lI ⟨om,om,hp2⟩
  obtain⟨d1,d2⟩:0≤a / p2∧a / p2≤a:=⟨Int.ediv_nonneg ha om,Int.ediv_le_self _ ha⟩
  have HF:Hid (a / p2=alu 34 a b):=lI (by
    show _=a / 2 ^ (b%32).toNat
    rw[ee,hp2,Int.natCast_pow];rfl)
  have hz1:(p2==0)=false:=by simpa using (by omega:p2≠0)
  have hz2:(p2== -1)=false:=by simpa using (by omega:p2≠ -1)
  have em:a.tdiv p2=a / p2:=Int.tdiv_eq_ediv_of_nonneg ha
  clear hs hp2
  go_enter Tryz.func35,Tryz.ntmps35
  go_wp2_with (first|(go_at_call 53;((with_reducible refine(qc a sa _ HSA HUA).mono ?_);rintro e w' ⟨rfl,rfl⟩))|(go_at_call 53;((with_reducible refine(qc b sb _ HSB HUB).mono ?_);rintro e w' ⟨rfl,rfl⟩))|(go_at_call 57;refine(qr _ _ _ HP2).mono ?_;rintro e w' ⟨rfl,rfl⟩)|(go_at_call 30;refine(of1 _ _ ?_).mono ?_;(first|omega|(unfold wrap64;omega));rintro e w' ⟨rfl,rfl⟩))
  go_ret
  exact⟨qR (by rw[←HF.out];omega),0,rfl⟩
theorem alu1_35(a b sa sb:Int)(w:World)(ha:0≤a)(ha':a<4294967296)(hb:0≤b)(hb':b<4294967296)(HSA:Hid (sa=wrap32 a))(HSB:Hid (sb=wrap32 b))
    (hs1: -2147483648≤sa) (hs2:sa≤2147483647) (hs3: -2147483648≤sb) (hs4:sb≤2147483647) (HUA:Hid (U32 a)) (HUB:Hid (U32 b)):
    Calls Tryz.prog 35 #[.int .i64 35,.int .u32 a,.int .u32 b] w fun e w'=>e=.returned (.int .u32 (alu 35 a b))∧∃n,w'=w.drewN n:=by
  obtain⟨s,hs⟩:∃s,s=b%32:=⟨_,rfl⟩
  obtain⟨p2,hp2⟩:∃p,p=((2 ^ s.toNat:Nat):Int):=⟨_,rfl⟩
  have s1:0≤s:=om
  have s2:s<32:=om
  have q2:0<p2:=by rw[hp2];exact_mod_cast Nat.pow_pos zL
  have q3:p2≤4294967296:=by rw[hp2];exact Int.ofNat_le.2 (pow_le32 om)
  have ee:b%32=s:=hs.symm
  have HP2:Hid (0≤s∧s≤32∧p2=((2 ^ s.toNat:Nat):Int)):=lI ⟨om,om,hp2⟩
  have HF:Hid (sa / p2%4294967296=alu 35 a b):=lI (by
    show _=wrap32 a / 2 ^ (b%32).toNat%4294967296
    rw[ee,hp2,Int.natCast_pow,HSA.out];rfl)
  have hd:(sa / p2).natAbs≤sa.natAbs:=Int.natAbs_ediv_le_natAbs _ _
  have hd1: -9223372036854775808≤sa / p2:=om
  have hd2:sa / p2≤9223372036854775807:=om
  clear hs hp2 hd
  go_enter Tryz.func35,Tryz.ntmps35
  go_wp2_with (first|(go_at_call 53;((with_reducible refine(qc a sa _ HSA HUA).mono ?_);rintro e w' ⟨rfl,rfl⟩))|(go_at_call 53;((with_reducible refine(qc b sb _ HSB HUB).mono ?_);rintro e w' ⟨rfl,rfl⟩))|(go_at_call 57;refine(qr _ _ _ HP2).mono ?_;rintro e w' ⟨rfl,rfl⟩)|(go_at_call 58;refine(floor1 _ _ _ ?_ ?_).mono ?_;omega;omega;rintro e w' ⟨rfl,rfl⟩)|(go_at_call 30;refine(of1 _ _ ?_).mono ?_;(first|omega|(unfold wrap64;omega));rintro e w' ⟨rfl,rfl⟩))
  go_ret
  exact⟨qR (by rw[←HF.out]),0,rfl⟩
theorem alu1_no(op a b sa sb:Int)(w:World)(ha:0≤a)(ha':a<4294967296)(hb:0≤b)(hb':b<4294967296)(HSA:Hid (sa=wrap32 a))(HSB:Hid (sb=wrap32 b))
    (hs1: -2147483648≤sa) (hs2:sa≤2147483647) (hs3: -2147483648≤sb) (hs4:sb≤2147483647) (HUA:Hid (U32 a)) (HUB:Hid (U32 b)) (hop:op<28∨45<op):
    Calls Tryz.prog 35 #[.int .i64 op,.int .u32 a,.int .u32 b] w fun e w'=>e=.returned (.int .u32 (alu op a b))∧∃n,w'=w.drewN n:=by
  have HF:Hid (alu op a b=0):=lI (by
    unfold alu quot
    simp only[beq_iff_eq]
    repeat(rw[if_neg om]))
  have f:∀c:Int,28≤c→c≤45→(op==c)=false:=fun c h1 h2=>by simpa using (by omega:op≠c)
  have f1:=f 28 om om
  have f2:=f 29 om om
  have f3:=f 30 om om
  have f4:=f 31 om om
  have f5:=f 32 om om
  have f6:=f 33 om om
  have f7:=f 34 om om
  have f8:=f 35 om om
  have f9:=f 36 om om
  have g0:=f 37 om om
  have g1:=f 38 om om
  have g2:=f 39 om om
  have g3:=f 40 om om
  have g4:=f 41 om om
  have g5:=f 42 om om
  have g6:=f 43 om om
  have g7:=f 44 om om
  have g8:=f 45 om om
  clear f hop
  go_enter Tryz.func35,Tryz.ntmps35
  go_wp2_with (first|(go_at_call 53;((with_reducible refine(qc a sa _ HSA HUA).mono ?_);rintro e w' ⟨rfl,rfl⟩))|(go_at_call 53;((with_reducible refine(qc b sb _ HSB HUB).mono ?_);rintro e w' ⟨rfl,rfl⟩)))
  go_ret
  exact⟨qR HF.out.symm,0,rfl⟩
theorem alu1_any(op a b:Int)(w:World)(ha:0≤a)(ha':a<4294967296)(hb:0≤b)(hb':b<4294967296):
    Calls Tryz.prog 35 #[.int .i64 op,.int .u32 a,.int .u32 b] w fun e w'=>e=.returned (.int .u32 (alu op a b))∧∃n,w'=w.drewN n:=by
  have h1:=jw a
  have h2:=jw b
  have ua:=lI (show U32 a from⟨ha,ha'⟩)
  have ub:=lI (show U32 b from⟨hb,hb'⟩)
  by_cases hop:op<28∨45<op
  · exact alu1_no op a b _ _ w ha ha' hb hb' (lI rfl) (lI rfl) h1.1 h1.2 h2.1 h2.2 ua ub hop
  have hc:op=28∨op=29∨op=30∨op=31∨op=32∨op=33∨op=34∨op=35∨op=36∨op=37∨op=38∨op=39∨op=40∨op=41∨op=42∨op=43∨op=44∨op=45:=om
  clear hop
  rcases hc with rfl|rfl|rfl|rfl|rfl|rfl|rfl|rfl|rfl|rfl|rfl|rfl|rfl|rfl|rfl|rfl|rfl|rfl
  · exact alu1_28 a b _ _ w ha ha' hb hb' (lI rfl) (lI rfl) h1.1 h1.2 h2.1 h2.2 ua ub
  · exact alu1_29 a b _ _ w ha ha' hb hb' (lI rfl) (lI rfl) h1.1 h1.2 h2.1 h2.2 ua ub
  · exact alu1_30 a b _ _ w ha ha' hb hb' (lI rfl) (lI rfl) h1.1 h1.2 h2.1 h2.2 ua ub
  · exact alu1_31 a b _ _ w ha ha' hb hb' (lI rfl) (lI rfl) h1.1 h1.2 h2.1 h2.2 ua ub
  · exact alu1_32 a b _ _ w ha ha' hb hb' (lI rfl) (lI rfl) h1.1 h1.2 h2.1 h2.2 ua ub
  · exact alu1_33 a b _ _ w ha ha' hb hb' (lI rfl) (lI rfl) h1.1 h1.2 h2.1 h2.2 ua ub
  · exact alu1_34 a b _ _ w ha ha' hb hb' (lI rfl) (lI rfl) h1.1 h1.2 h2.1 h2.2 ua ub
  · exact alu1_35 a b _ _ w ha ha' hb hb' (lI rfl) (lI rfl) h1.1 h1.2 h2.1 h2.2 ua ub
  · exact alu1_36 a b _ _ w ha ha' hb hb' (lI rfl) (lI rfl) h1.1 h1.2 h2.1 h2.2 ua ub
  · exact alu1_37 a b _ _ w ha ha' hb hb' (lI rfl) (lI rfl) h1.1 h1.2 h2.1 h2.2 ua ub
  · exact alu1_38 a b _ _ w ha ha' hb hb' (lI rfl) (lI rfl) h1.1 h1.2 h2.1 h2.2 ua ub
  · exact alu1_39 a b _ _ w ha ha' hb hb' (lI rfl) (lI rfl) h1.1 h1.2 h2.1 h2.2 ua ub
  · exact alu1_40 a b _ _ w ha ha' hb hb' (lI rfl) (lI rfl) h1.1 h1.2 h2.1 h2.2 ua ub
  · exact alu1_41 a b _ _ w ha ha' hb hb' (lI rfl) (lI rfl) h1.1 h1.2 h2.1 h2.2 ua ub
  · exact alu1_42 a b _ _ w ha ha' hb hb' (lI rfl) (lI rfl) h1.1 h1.2 h2.1 h2.2 ua ub
  · exact alu1_43 a b _ _ w ha ha' hb hb' (lI rfl) (lI rfl) h1.1 h1.2 h2.1 h2.2 ua ub
  · exact alu1_44 a b _ _ w ha ha' hb hb' (lI rfl) (lI rfl) h1.1 h1.2 h2.1 h2.2 ua ub
  · exact alu1_45 a b _ _ w ha ha' hb hb' (lI rfl) (lI rfl) h1.1 h1.2 h2.1 h2.2 ua ub
end Go.Proofs.YtlfnddmncbkjaacGreat.W
