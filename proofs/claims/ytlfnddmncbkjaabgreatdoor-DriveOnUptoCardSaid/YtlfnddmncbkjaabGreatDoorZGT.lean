import Derived.Test.YtlfnddmncbkjaabGreatDoorZMB
set_option linter.unusedVariables false
set_option linter.unusedSimpArgs false
set_option maxRecDepth 100000
set_option maxHeartbeats 4000000
namespace Go.Proofs.YtlfnddmncbkjaabGreatDoor.Fb
open Go.RowKit
def MkW(pw:Nat)(ty:TypeId)(w:World)(l:List MicD):Prop:=∃v,w.cell? ⟨pw,0,none⟩=some v∧w.frozen? ⟨pw,0,none⟩=false∧w.ownsRow (pw+1) ty 5 v l.length (l.flatMap jo)
theorem MkW.lt{pw:Nat}{ty:TypeId}{w:World}{l:List MicD}(h:MkW pw ty w l):pw<w.heap.size:=by obtain⟨v,h1,_⟩:=h;exact qD h1
theorem MkW.below{pw:Nat}{ty:TypeId}{w w':World}{l:List MicD}(h:MkW pw ty w l)(hb:Below w.heap.size w w'):MkW pw ty w' l:=by
  have hlt:=h.lt
  obtain⟨v,h1,h2,h3⟩:=h
  exact⟨v,(hb.cell hlt).trans h1,(hb.frozen (p:=⟨pw,0,none⟩) hlt).trans h2,qP h3 hb⟩
theorem MkW.init(w:World)(ty t:TypeId):MkW w.heap.size ty (w.alloc (.cells #[.slice none 0 0] t)) []:=
  ⟨.slice none 0 0,by simp,by unfold World.frozen?;rw[sP];simp,World.ownsRow_nil _ _ _ _⟩
theorem MkW.next{pw:Nat}{ty:TypeId}{w1:World}{v u:Value}{ys:List MicD}{y:MicD}(hown:w1.ownsRow (pw+1) ty 5 u (ys.length+1) (ys.flatMap jo++jo y))
    (hc:w1.cell? ⟨pw,0,none⟩=some v) (hf:w1.frozen? ⟨pw,0,none⟩=false):MkW pw ty (w1.setCell ⟨pw,0,none⟩ u) (ys++[y]):=
  ⟨u,sK _ _ _ hc,(sL _ _ _ _).trans hf,by
    have:=ownsRow_setCell_below hown (a:=⟨pw,0,none⟩) (Nat.lt_succ_self pw) u
    simpa using this⟩
end Go.Proofs.YtlfnddmncbkjaabGreatDoor.Fb
namespace Go.Proofs.YtlfnddmncbkjaabGreatDoor.W
open Go.RowKit Fb
theorem info_micro:(Tryz.prog.info? 211).map (fun i=>(i.zero,i.size,i.bytes))=some (some (.agg #[.int .i64 0,.int .i64 0,.int .i64 0,.int .i64 0,.int .u32 0]),5,40):=by kernel_rfl
theorem mput_any(pw:Nat)(l:List MicD)(op d a b n:Int)(w:World)(hk:MkW pw 211 w l)(hl:l.length≤1000):
    Calls Tryz.prog 134 #[.pointer (some ⟨pw,0,none⟩),.int .i64 op,.int .i64 d,.int .i64 a,.int .i64 b,.int .u32 n] w fun e w'=>e=.returned (.tuple #[])∧MkW pw 211 w' (l++[⟨op,d,a,b,n⟩])∧Grew pw 211 w w':=by
  obtain⟨i0,hi,hi0,hi1,hi2⟩:=info_parts info_micro
  have hlt:=hk.lt
  obtain⟨v,c0,c1,c2⟩:=hk
  have hfar:Hid (v.ownBlock≠some pw):=lI (fun e=>by have:=(c2.lt _ e).1;omega)
  have HOWN:=lI c2
  have hsh:=qE c2
  clear c2
  obtain⟨w2,hw2⟩:∃w2,w2=w.alloc (.cells #[.int .i64 op,.int .i64 d,.int .i64 a,.int .i64 b,.int .u32 n] 211):=⟨_,rfl⟩
  have hz2:w2.heap.size=w.heap.size+1:=by rw[hw2];simp
  have d0:w2.cell? ⟨pw,0,none⟩=some v:=by rw[hw2];exact(sI _ _ ⟨pw,0,none⟩ hlt).trans c0
  have d1:w2.frozen? ⟨pw,0,none⟩=false:=by rw[hw2];exact(jQ (p:=⟨pw,0,none⟩) _ hlt).trans c1
  have HAT:Hid (At w2 w.heap.size 0 (jo ⟨op,d,a,b,n⟩)):=lI (by rw[hw2];exact QN w (jo ⟨op,d,a,b,n⟩) _ _)
  have HOWN2:Hid (w2.ownsRow (pw+1) 211 5 v l.length (l.flatMap jo)):=lI (by rw[hw2];exact HOWN.out.alloc _)
  have HG:Hid (Grew pw 211 w w2):=lI (by rw[hw2];exact Grew.alloc _ _ _ _)
  have HW2:=lI hw2
  clear hw2
  obtain⟨ao,cp,rfl⟩:=hsh
  go_enter Tryz.func134,Tryz.ntmps134
  go_wp2_with (at_builtin;(try rw[←HW2.out]);refine append_any rfl _ _ 118 rfl (pw+1) 211 i0 _ 5 40 Tryz.underlying118 hi hi0 hi1 hi2 rfl zF _ l.length (l.flatMap jo) rfl HOWN2.out _ 1 (jo ⟨op,d,a,b,n⟩) rfl (Sl.mk HAT.out rfl om zF) (mlist_one _) om zZ om ?h6)
  case h6=>
    intro v' w3 hown hgrow
    have e0:w3.cell? ⟨pw,0,none⟩=some (.slice ao l.length cp):=(hgrow.cell_far ⟨pw,0,none⟩ (by show pw<_;omega) (fun e=>hfar.out e.symm)).trans d0
    have e1:w3.frozen? ⟨pw,0,none⟩=false:=(hgrow.frozen_far ⟨pw,0,none⟩ (by show pw<_;omega) (fun e=>hfar.out e.symm)).trans d1
    have HN:=lI (MkW.next hown e0 e1)
    have HP:=lI (HG.out.put (o:=0) (u:=v') HOWN2.out hgrow)
    obtain⟨ao3,cp3,rfl⟩:=qE hown
    clear hown hgrow d0 d1 c0 c1
    go_wp2_with fail
    go_end0
    exact⟨rfl,HN.out,HP.out⟩
theorem operation_any(op:Int)(w:World)(h:19≤op∧op≤27):
    Calls Tryz.prog 136 #[.int .i64 op] w fun e w'=>e=.returned (.int .i64 (numOp op))∧w'=w:=by
  have hc:op=19∨op=20∨op=21∨op=22∨op=23∨op=24∨op=25∨op=26∨op=27:=om
  clear h
  have i0:∀w,(Instr.index 237 (.agg #[.int .i64 28,.int .i64 31,.int .i64 32,.int .i64 33,.int .i64 36,.int .i64 37,.int .i64 30,.int .i64 34,.int .i64 35]) (.int .i64 0)).run Tryz.prog w=.ok (.int .i64 28) w:=fun _=>by kernel_rfl
  have i1:∀w,(Instr.index 237 (.agg #[.int .i64 28,.int .i64 31,.int .i64 32,.int .i64 33,.int .i64 36,.int .i64 37,.int .i64 30,.int .i64 34,.int .i64 35]) (.int .i64 1)).run Tryz.prog w=.ok (.int .i64 31) w:=fun _=>by kernel_rfl
  have i2:∀w,(Instr.index 237 (.agg #[.int .i64 28,.int .i64 31,.int .i64 32,.int .i64 33,.int .i64 36,.int .i64 37,.int .i64 30,.int .i64 34,.int .i64 35]) (.int .i64 2)).run Tryz.prog w=.ok (.int .i64 32) w:=fun _=>by kernel_rfl
  have i3:∀w,(Instr.index 237 (.agg #[.int .i64 28,.int .i64 31,.int .i64 32,.int .i64 33,.int .i64 36,.int .i64 37,.int .i64 30,.int .i64 34,.int .i64 35]) (.int .i64 3)).run Tryz.prog w=.ok (.int .i64 33) w:=fun _=>by kernel_rfl
  have i4:∀w,(Instr.index 237 (.agg #[.int .i64 28,.int .i64 31,.int .i64 32,.int .i64 33,.int .i64 36,.int .i64 37,.int .i64 30,.int .i64 34,.int .i64 35]) (.int .i64 4)).run Tryz.prog w=.ok (.int .i64 36) w:=fun _=>by kernel_rfl
  have i5:∀w,(Instr.index 237 (.agg #[.int .i64 28,.int .i64 31,.int .i64 32,.int .i64 33,.int .i64 36,.int .i64 37,.int .i64 30,.int .i64 34,.int .i64 35]) (.int .i64 5)).run Tryz.prog w=.ok (.int .i64 37) w:=fun _=>by kernel_rfl
  have i6:∀w,(Instr.index 237 (.agg #[.int .i64 28,.int .i64 31,.int .i64 32,.int .i64 33,.int .i64 36,.int .i64 37,.int .i64 30,.int .i64 34,.int .i64 35]) (.int .i64 6)).run Tryz.prog w=.ok (.int .i64 30) w:=fun _=>by kernel_rfl
  have i7:∀w,(Instr.index 237 (.agg #[.int .i64 28,.int .i64 31,.int .i64 32,.int .i64 33,.int .i64 36,.int .i64 37,.int .i64 30,.int .i64 34,.int .i64 35]) (.int .i64 7)).run Tryz.prog w=.ok (.int .i64 34) w:=fun _=>by kernel_rfl
  have i8:∀w,(Instr.index 237 (.agg #[.int .i64 28,.int .i64 31,.int .i64 32,.int .i64 33,.int .i64 36,.int .i64 37,.int .i64 30,.int .i64 34,.int .i64 35]) (.int .i64 8)).run Tryz.prog w=.ok (.int .i64 35) w:=fun _=>by kernel_rfl
  rcases hc with rfl|rfl|rfl|rfl|rfl|rfl|rfl|rfl|rfl<;>
  · go_enter Tryz.func136,Tryz.ntmps136
    go_wp2_with fail
    go_ret
    exact⟨rfl,rfl⟩
theorem dG{p:Prop}(h:p:=by
 go_enter Tryz.func135,Tryz.ntmps135
 go_upto_region 2 with(fail)
 rw[←HW1.out]
 go_wp2_with fail
 refine(HP.out _ _ _ _ _).mono ?_
 rintro e w2 ⟨rfl,h2,h3⟩
 go_wp2_with fail
 go_end0
 exact⟨rfl,h2,(Grew.of_below HB.out).trans h3⟩):p:=h
theorem number_any(pw:Nat)(l:List MicD)(op:Int)(iop rd rs1 rs2 imm n:Int)(w:World)(hk:MkW pw 211 w l)(hl:l.length≤1000)(hop:28≤op∧op≤45):
    Calls Tryz.prog 135 #[.pointer (some ⟨pw,0,none⟩),.int .i64 op,.agg #[.int .i64 iop,.int .i64 rd,.int .i64 rs1,.int .i64 rs2,.int .i32 imm],.int .u32 n] w fun e w'=>e=.returned (.tuple #[])∧MkW pw 211 w' (l++numM op rd rs1 n)∧Grew pw 211 w w':=by
  obtain⟨w1,hw1⟩:∃w1,w1=w.alloc (.cells #[.int .i64 iop,.int .i64 rd,.int .i64 rs1,.int .i64 rs2,.int .i32 imm] 91):=⟨_,rfl⟩
  have hb1:Below w.heap.size w w1:=zI
  have c0:(w1).cell? ⟨w.heap.size,0,none⟩=some (.int .i64 iop):=zA
  have c1:(w1).cell? ⟨w.heap.size,1,none⟩=some (.int .i64 rd):=zA
  have c2:(w1).cell? ⟨w.heap.size,2,none⟩=some (.int .i64 rs1):=zA
  have c3:(w1).cell? ⟨w.heap.size,3,none⟩=some (.int .i64 rs2):=zA
  have c4:(w1).cell? ⟨w.heap.size,4,none⟩=some (.int .i32 imm):=zA
  have HK:=lI (hk.below hb1)
  have HB:=lI hb1
  have HW1:=lI hw1
  have HP:=lI (fun a b c d e=>mput_any pw l a b c d e w1 HK.out hl)
  clear hw1 hb1 hk c0 c3 c4
  unfold numM
  by_cases h0:rd=0
  · subst h0
    rw[if_pos rfl,List.append_nil]
    go_enter Tryz.func135,Tryz.ntmps135
    go_upto_region 2 with(fail)
    rw[←HW1.out]
    go_wp2_with fail
    go_end0
    exact⟨rfl,HK.out,.of_below HB.out⟩
  rw[if_neg h0]
  by_cases h1:rs1=0
  · subst h1
    by_cases ha:op=28∨op=36∨op=33
    · rw[if_pos ⟨rfl,ha⟩]
      rcases ha with rfl|rfl|rfl<;>
      · exact dG
    rw[if_neg om]
    by_cases hb:op=37∨op=30∨op=34∨op=35
    · rw[if_pos ⟨rfl,hb⟩]
      clear ha
      rcases hb with rfl|rfl|rfl|rfl<;>
      · exact dG
    rw[if_neg om]
    have a1:(op==28)=false:=zL
    have d1:decide (op=28)=false:=zL
    have a2:(op==36)=false:=zL
    have d2:decide (op=36)=false:=zL
    have a3:(op==33)=false:=zL
    have d3:decide (op=33)=false:=zL
    have a4:(op==37)=false:=zL
    have d4:decide (op=37)=false:=zL
    have a5:(op==30)=false:=zL
    have d5:decide (op=30)=false:=zL
    have a6:(op==34)=false:=zL
    have d6:decide (op=34)=false:=zL
    have a7:(op==35)=false:=zL
    have d7:decide (op=35)=false:=zL
    have a8:wrap64 (500+op)=500+op:=yU
    clear ha hb
    exact dG
  rw[if_neg om,if_neg om]
  have a8:wrap64 (500+op)=500+op:=yU
  exact dG
end Go.Proofs.YtlfnddmncbkjaabGreatDoor.W
