import Derived.Test.YtlfnddmncbkjaabGreatDoorZWDrv13
import Derived.Test.YtlfnddmncbkjaabGreatDoorTie
import Derived.Test.YtlfnddmncbkjaabGreatDoorCards
import Derived.LaidMore
import Derived.Stop.Joined
import Derived.Lib.LaidTab
import Derived.Lib.Space
import Derived.Stop.LaidErr
import Derived.SevenTiedAt
import Derived.Deep.CondSized
set_option linter.unusedVariables false
set_option linter.unusedSimpArgs false
set_option maxRecDepth 100000
set_option maxHeartbeats 4000000
namespace Go.Proofs.YtlfnddmncbkjaabGreatDoor.W
open Go.RowKit Fb Go.Lib
theorem say_le{l:List Int}{wd:List UInt8}{a b:Nat}(hr:∀n∈l,0≤n∧n≤9223372036854775807)(h1:wd.length≤a)(h2:l.length≤b):(sayS wd l).length≤a+22*b:=by
  have:=Jz l wd hr
  have:=Nat.mul_le_mul_left 22 h2
  omega
theorem say_one{n:Int}{wd:List UInt8}{a:Nat}(hn:0≤n∧n≤9223372036854775807)(h1:wd.length≤a):(sayS wd [n]).length≤a+22:=
  say_le (by intro m hm;rw[List.mem_singleton]at hm;rw[hm];exact hn) h1 (sN 1)
theorem ran_len{p:PlD}{s:St}{e:Int}(he:0≤e∧e≤3)(h:e=0→s.out.length≤1000000∧(∀x∈s.out,U32 x)∧s.steps≤1000000):(ranS p s e).1.length≤30000000:=by
  unfold ranS
  split
  · rename_i h0
    obtain⟨h1,h2,h3⟩:=h h0
    have hs:=say_one (n:=(s.steps:Int)) (wd:=[114,97,110]) (a:=3) om (sN _)
    have:=say_le (l:=s.out) (fun n hn=>by have:=h2 n hn;unfold U32 at this;omega) hs h1
    show(sayS (sayS [114,97,110] [(s.steps:Int)]) s.out).length≤_
    omega
  · have:=say_one (n:=e) (wd:=[98,97,100]) (a:=3) om (sN _)
    show(sayS [98,97,100] [e]).length≤_
    omega
theorem runM_len{p:PlD}(wf:p.m.Wf)(h:qj p.m p.ps=0):(runM p.m p.ps).out.length≤1000000∧(∀x∈(runM p.m p.ps).out,U32 x)∧(runM p.m p.ps).steps≤1000000:=by
  obtain⟨l1,-,-,l4,l5⟩:=runM_lim wf h
  exact⟨l4,l1.out,l5⟩
theorem look_len{p:PlD}(wf:p.m.Wf)(oks:∀x∈p.m.harts,x.ok=true)(k:Int)(hk:0≤k):(lookS p k).length≤10000:=by
  unfold lookS
  split
  · show 1≤_;omega
  · rename_i h
    have hj:k.toNat<p.m.harts.length:=om
    have e:p.m.harts.getD k.toNat qz=p.m.harts[k.toNat]:=by rw[List.getD_eq_getElem?_getD,sU hj];rfl
    rw[e]
    have w:=wf.harts _ (sR hj)
    have o:=ok_rng (oks _ (sR hj))
    generalize p.m.harts[k.toNat]=x at w o
    have h1:=say_le (l:=[x.state,x.cause]) (wd:=[]) (a:=0) (b:=2) (by intro m hm;simp only[List.mem_cons,List.not_mem_nil,or_false]at hm;rcases hm with rfl|rfl<;>omega) (sN _) (sN _)
    have hp:=w.pc
    unfold U32 at hp
    have h2:=say_one (n:=x.pc) om h1
    have h3:=say_le (l:=x.regs) (b:=32) (fun n hn=>by have:=w.regs n hn;unfold U32 at this;omega) h2 (by rw[w.len];exact sN _)
    rw[List.length_drop]
    omega
theorem what_len(x:Int):(whatS x).length≤10000:=by
  unfold whatS
  split
  · show 2≤_;omega
  · rename_i i h
    have h1:=say_le (l:=[i.op,i.rd,i.rs1,i.rs2]) (wd:=[105,115]) (a:=2) (b:=4) (what_rng h) (sN _) (sN _)
    have h2:=say_one (n:=i.imm%4294967296) om h1
    omega
theorem text_len{i:InsD}(h:isS i=true)(wf:I32 i.imm):(textS i).length≤10000:=by
  have h1:=parts_join_len (uk h).2 wf
  have h2:=nameS_len i.op i.imm
  unfold textS
  split
  · omega
  · rw[sW,List.length_cons]
    omega
theorem show_len(p:PlD)(x:Int):(showS p x).length≤10000:=by
  unfold showS
  split
  · rename_i h
    split
    · exact text_len (by assumption) (fetchS_ins p.m.mem x h.1).2
    · show 0≤_;omega
  · show 2≤_;omega
theorem jD{c:Prop}[Decidable c]{a b:List UInt8 × PlD}{n:Nat}(h1:c→a.1.length≤n)(h2:¬c→b.1.length≤n):(if c then a else b).1.length≤n:=by
  by_cases h:c
  · rw[if_pos h];exact h1 h
  · rw[if_neg h];exact h2 h
theorem cmd_len{p:PlD}(wf:p.m.Wf)(oks:∀x∈p.m.harts,x.ok=true)(lim:p.m.mem.length≤4096∧p.m.harts.length≤4∧p.ps.length≤300)(w0:List UInt8)(l:List Int)(hl:∀x∈l,U32 x):(cmdS p w0 l).1.length≤30000000:=by
  have h0:0≤l.getD 0 0:=by
    cases l with
    |nil=>exact Int.le_refl 0
    |cons x r=>exact(hl x (List.mem_cons_self ..)).1
  have hw:=wrong_rng p.m p.ps
  have q1:∀p:PlD,((qS,p):List UInt8 × PlD).1.length≤30000000:=fun _=>by show 1≤_;omega
  have q2:∀p:PlD,((okS,p):List UInt8 × PlD).1.length≤30000000:=fun _=>by show 2≤_;omega
  have q3:∀(n:Nat) (p:PlD),n≤5000→((sayS okS [(n:Int)],p):List UInt8 × PlD).1.length≤30000000:=fun n p hn=>by
    have:=say_one (n:=(n:Int)) (wd:=okS) (a:=2) om (sN _)
    show(sayS okS [(n:Int)]).length≤_
    omega
  unfold cmdS
  refine jD (fun _=> ?_) (fun _=>jD (fun _=>q3 _ _ om) (fun _=>jD (fun _=> ?_) (fun _=>jD (fun h=>q3 _ _ om) (fun _=>jD (fun _=>jD (fun h=>ran_len ⟨Int.le_refl 0,om⟩ (fun _=>runM_len wf h)) (fun h=>ran_len hw (fun e=>absurd e h))) (fun _=>jD (fun _=> ?_) (fun _=>jD (fun _=> ?_) (fun _=>jD (fun _=> ?_) (fun _=>jD (fun _=> ?_) (fun _=>jD (fun _=> ?_) (fun _=>jD (fun _=> ?_) (fun _=>q1 _)))))))))))
  · unfold wordsS
    refine jD (fun _=>q1 _) (fun h=>q3 _ _ ?_)
    rw[sW,uK]
    simp only at h ⊢
    omega
  · unfold setS
    exact jD (fun _=>q1 _) (fun _=>q2 _)
  · refine ran_len (engE_rng p.m p.ps (l.getD 0 0)) (fun e=>runM_len wf ?_)
    unfold engE at e
    by_cases hq:qj p.m p.ps=0
    · exact hq
    · rw[if_neg hq]at e;exact absurd e hq
  · have:=look_len wf oks _ h0
    show(lookS p _).length≤_
    omega
  · have:=what_len (l.getD 0 0)
    show(whatS _).length≤_
    omega
  · have:=show_len p (l.getD 0 0)
    show(showS p _).length≤_
    omega
  · unfold backP
    exact jD (fun _=>q1 _) (fun _=>jD (fun _=>q2 _) (fun _=>q1 _))
  · have h1:=makeS_len p.m.mem (l.getD 0 0)
    have:=JJ (QS p.m.mem (l.getD 0 0)).2.length om
    show(decDigits _).length≤_
    omega
theorem line_len{p:PlD}(wf:p.m.Wf)(oks:∀x∈p.m.harts,x.ok=true)(lim:p.m.mem.length≤4096∧p.m.harts.length≤4∧p.ps.length≤300)(s:List UInt8):(JH p s).1.length≤30000000:=by
  unfold JH
  split
  · show 1≤_;omega
  · rename_i l h
    exact cmd_len wf oks lim _ l (mapM_rng h).1
end Go.Proofs.YtlfnddmncbkjaabGreatDoor.W
namespace Go.Proofs.YtlfnddmncbkjaabGreatDoor.Fb
open Go.Lib
def UD:List (List UInt8)→PlD→PlD
  |[],p=>p
  |s::r,p=>UD r (JH p s).2
theorem stateL_snoc(s:List UInt8):∀(a:List (List UInt8)) (p:PlD),UD (a++[s]) p=(JH (UD a p) s).2
  |[],_=>rfl
  |x::a,p=>stateL_snoc s a (JH p x).2
theorem playL_next(s:List UInt8):∀(a:List (List UInt8)) (p:PlD),Jd (a++[s]) p=Jd a p++((JH (UD a p) s).1++[10])
  |[],_=>by simp[Jd,UD]
  | x :: a, p => by
    rw[List.cons_append]
    unfold Jd UD
    rw[playL_next s a (JH p x).2]
    simp
end Go.Proofs.YtlfnddmncbkjaabGreatDoor.Fb
namespace Go.Proofs.YtlfnddmncbkjaabGreatDoor.W
open Go.RowKit Fb Go.Lib
theorem PlAt.new(w:World):PAt w.heap.size (.slice none 0 0) (.slice none 0 0) (.slice none 0 0) (.slice none 0 0) [] (w.alloc (.cells #[.slice none 0 0,.slice none 0 0,.slice none 0 0,.slice none 0 0,.bool false] 34)) pl0:=
  ⟨QN w [.slice none 0 0,.slice none 0 0,.slice none 0 0,.slice none 0 0,.bool false] _ _,fun o=>by unfold World.frozen?;rw[sP];simp,World.ownsRow_nil _ _ _ _,World.ownsRow_nil _ _ _ _,World.ownsRow_nil _ _ _ _,(fun e=>by cases e),⟨_,_,_,rfl⟩,⟨zW,zW⟩,zW,⟨Nat.zero_le _,Nat.zero_le _,Nat.zero_le _⟩,zW⟩
theorem dc{p:Prop}(h:p:=by
 have H1:=lI h1
 rw[hz]
 clear cy hy h1
 go_wp2_with fail
 go_meet
 case rel=>exact⟨rfl,by rw[H1.out]⟩):p:=h
theorem pplay_any(l:List UInt8)(hl:l.length≤10000000)(w:World)(HE:Hid (Env w.heap.size w)):
    Calls Tryz.prog 4 #[.string (bs l)] w fun e w'=>e=.returned (.string (bs (playS l)))∧Below w.heap.size w w':=by
  obtain⟨ys,y,hxs⟩:∃ys y,qf 10 l=ys++[y]:=by
    have h:=List.dropLast_concat_getLast (uU 10 l)
    exact⟨_,_,h.symm⟩
  have HSP:=lI (split_any 10 l om w)
  rw[hxs]at HSP
  have hsh:∀x∈ys++[y],x.length≤100000000:=fun x hx=>by have:=UG 10 l x (by rw[hxs];exact hx);omega
  have hln:(ys++[y]).length≤10000001:=by have:=splitC_len 10 l;rw[hxs]at this;omega
  have HL:Hid (UV l=if y=[]then ys else ys++[y]):=lI (by
    unfold UV
    rw[hxs,List.getLast?_concat,List.dropLast_concat]
    by_cases h:y=[]<;>simp[h])
  have HSH:=lI hsh
  clear hxs hsh
  go_enter Tryz.func4,Tryz.ntmps4
  go_wp2_with fail
  refine HSP.out.mono ?_
  rintro e w1 ⟨v,rfl,rfl,hst,hb1⟩
  have hs1:=hb1.size
  obtain⟨_,_,e1,h2,h3,ho⟩:=hst
  injection e1 with e1 e2 e3
  subst e1 e3
  obtain⟨b,off,e4,hbl,qQ⟩:=ho zC
  injection e4 with e4
  injection e4 with e4 e5
  subst e4 e5
  have cy:=qQ ys.length y zC
  simp only[sM]at cy
  have HCE:=lI qQ
  have HB1:=lI hb1
  obtain⟨k,hk⟩:∃k,k=ys.length:=⟨_,rfl⟩
  have hn:(ys++[y]).length=k+1:=by rw[hk];simp
  rw[hn]at hln ⊢
  rw[←hk]at cy
  have HN:=lI (And.intro hk hn)
  clear ho qQ hb1 h2 h3 hk hn HSP
  have hw1:((k+1:Nat):Int)-1=(k:Int):=om
  obtain⟨L,hL⟩:∃L,L=UV l:=⟨_,rfl⟩
  rw[←hL]at HL
  have hLl:L.length≤k+1:=by
    rw[HL.out,HN.out.1]
    split<;>simp
  have HLE:Hid (∀j x,L[j]? =some x→w1.cell? ⟨w.heap.size,j,none⟩=some (.string (bs x))∧x.length≤100000000):=lI (fun j x hx=>by
    have h2:(ys++[y])[j]? =some x:=by
      rw[HL.out]at hx
      split at hx
      · exact List.getElem?_append_left (List.getElem?_eq_some_iff.1 hx).1 ▸ hx
      · exact hx
    have:=HCE.out j x h2
    simp only[sM]at this
    exact⟨this,HSH.out x (List.mem_of_getElem? h2)⟩)
  have HPS:Hid (playS l=Jd (L.take 40) pl0):=lI (by unfold playS;rw[←hL])
  have HK0:Hid (y=[]→L.length=k):=lI (fun h=>by rw[HL.out,if_pos h];exact HN.out.1.symm)
  have HK1:Hid (¬y=[]→L.length=k+1):=lI (fun h=>by rw[HL.out,if_neg h];exact HN.out.2)
  clear hL HL HN HCE HSH
  go_upto_if 16 with(fail)
  go_cut [3]from 16 to 22 (fun t3 wx=>wx=w1∧t3=.slice (some ⟨w.heap.size,0,none⟩) L.length (k+1))
  case first=>
    by_cases hy:y=[]
    · have h1:=HK0.out hy
      have hz:(bs y).toList.isEmpty=true:=by rw[hy];simp[ByteArray.toList_eq,bs]
      have hk0:(0:Int)≤(k:Int):=om
      have hk1:(k:Int)≤((k+1:Nat):Int):=om
      exact dc
    · have h1:=HK1.out hy
      have hz:(bs y).toList.isEmpty=false:=by
        rw[List.isEmpty_eq_false_iff]
        exact Ja hy
      exact dc
  case rest=>
    obtain⟨e0,rfl⟩:=hcut
    rw[e0]
    clear e0
    obtain⟨m,hm⟩:∃m,m=L.length:=⟨_,rfl⟩
    rw[←hm]at hLl ⊢
    have HM:=lI hm
    obtain⟨w2,hw2⟩:∃w2,w2=w1.alloc (.cells #[.slice none 0 0,.slice none 0 0,.slice none 0 0,.slice none 0 0,.bool false] 34):=⟨_,rfl⟩
    have HP0:Hid (PAt w1.heap.size (.slice none 0 0) (.slice none 0 0) (.slice none 0 0) (.slice none 0 0) [] w2 pl0):=lI (by rw[hw2];exact PlAt.new w1)
    have hb2:Below w1.heap.size w1 w2:=by rw[hw2];exact Below.alloc br (sN _) _
    have HB2:=lI hb2
    have HE2:=lI (((HE.out.keep HB1.out).up hs1).keep hb2)
    have HW2:=lI hw2
    clear cy hw1 HK0 HK1 hm hw2 hb2
    go_upto_region 5 with(fail)
    rw[←HW2.out]
    go_upto_region 6 with(fail)
    go_cut [28,29,30]from 24 to 28 (fun t28 t29 t30 wx=>wx=w2∧t28=.slice (some ⟨w.heap.size,0,none⟩) (L.take 40).length (k+1)∧t29=.int .i64 ((L.take 40).length:Nat)∧t30=.int .i64 0)
    case first=>
      by_cases h40:m≤40
      · have H4:Hid ((L.take 40).length=m):=lI (by rw[List.length_take,←HM.out];omega)
        have e2:min (m:Int) 40=(m:Int):=om
        have e3:(m:Int)≤((k+1:Nat):Int):=om
        go_wp2_with fail
        go_meet
        case rel=>exact⟨rfl,by rw[H4.out],by rw[H4.out],rfl⟩
      · have H4:Hid ((L.take 40).length=40):=lI (by rw[List.length_take,←HM.out];omega)
        have e2:min (m:Int) 40=40:=om
        have e3:(40:Int)≤((k+1:Nat):Int):=om
        go_wp2_with fail
        go_meet
        case rel=>exact⟨rfl,by rw[H4.out],by rw[H4.out];rfl,rfl⟩
    case rest=>
      obtain⟨e0,rfl,rfl,rfl⟩:=hcut
      rw[e0]
      clear e0
      obtain⟨T,hT⟩:∃T,T=L.take 40:=⟨_,rfl⟩
      rw[←hT]at HPS ⊢
      have HTE:Hid (∀j x,T[j]? =some x→w2.cell? ⟨w.heap.size,j,none⟩=some (.string (bs x))∧x.length≤100000000):=lI (fun j x hx=>by
        have h2:L[j]? =some x:=by
          rw[hT,List.getElem?_take]at hx
          split at hx
          · exact hx
          · cases hx
        obtain⟨h3,h4⟩:=HLE.out j x h2
        exact⟨(HB2.out.cell (p:=⟨w.heap.size,j,none⟩) hbl).trans h3,h4⟩)
      have hT40:T.length≤40:=by rw[hT,List.length_take];omega
      have HTL:Hid (T.length≤k+1):=lI (by rw[hT,List.length_take,←HM.out];omega)
      have htk:T.length≤k+1:=HTL.out
      have hpb:=HP0.out.lt
      clear hT HLE HM hLl
      go_wp2_with fail
      go_loopw [5,30] (fun s5 i wr=>∃j:Nat,s5=.string (bs (Jd (T.take j) pl0))∧i=.int .i64 j∧j≤T.length∧Hid (PlAt w1.heap.size wr (UD (T.take j) pl0)∧Below w1.heap.size w2 wr∧(Jd (T.take j) pl0).length≤30000001*j)) (fun _ i _=>T.length-(intOf i).toNat)
      case atStart=>exact⟨0,rfl,rfl,Nat.zero_le _,lI ⟨⟨_,_,_,_,_,HP0.out⟩,Below.refl _ _,sN _⟩⟩
      case round=>
        obtain⟨j,rfl,rfl,hj,HI⟩:=hrel
        by_cases hlt:j<T.length
        · obtain⟨x,hx⟩:∃x,T[j]? =some x:=⟨_,sU hlt⟩
          obtain⟨h3,hxl⟩:=HTE.out j x hx
          have hbw:w.heap.size<w1.heap.size:=hbl
          have cx:=(HI.out.2.1.cell (p:=⟨w.heap.size,j,none⟩) hbw).trans h3
          obtain⟨vm,vh,vp,vd,us,hpa⟩:=HI.out.1
          obtain⟨q,hq⟩:∃q,q=UD (T.take j) pl0:=⟨_,rfl⟩
          obtain⟨O,hO⟩:∃O,O=Jd (T.take j) pl0:=⟨_,rfl⟩
          rw[←hq]at hpa
          have hol:=HI.out.2.2
          rw[←hO]at hol ⊢
          have hll:=line_len hpa.wf hpa.oks hpa.lim x
          have HLN:=lI (pline_any hpa x hxl (lI (HE2.out.keep HI.out.2.1)))
          have HNX:Hid (Jd (T.take (j+1)) pl0=O++((JH q x).1++[10])∧UD (T.take (j+1)) pl0=(JH q x).2):=lI (by
            rw[List.take_add_one,hx,hO,hq]
            exact⟨playL_next x _ _,stateL_snoc x _ _⟩)
          obtain⟨r,hr⟩:∃r,r=(JH q x).1:=⟨_,rfl⟩
          rw[←hr]at HLN HNX hll
          have hz1:(bs r).size+(⟨#[10]⟩:ByteArray).size≤30000001:=by rw[QU];show _+1≤_;omega
          have hz2:(bs O).size+(bs r++(⟨#[10]⟩:ByteArray)).size≤24000000000:=by
            rw[ByteArray.size_append,QU,QU]
            show _+(_+1)≤_
            omega
          have hjk:(j:Int)<((T.length:Nat):Int):=om
          have hj0:(0:Int)≤(j:Int):=om
          have HB:=lI (jk O (r++[10]))
          have HB':=lI (jk r [10])
          have HOL:=lI (And.intro hol hll)
          have HLT:=lI hlt
          have HBI:=lI HI.out.2.1
          clear hx h3 hpa hq hO hr hol hll hlt hxl HI
          generalize bs O=X at *
          generalize bs r=R at *
          go_wp2_with fail
          refine HLN.out.mono ?_
          rintro e w5 ⟨rfl,hpl,hb5⟩
          have HY:=lI (And.intro hpl hb5)
          clear hpl hb5
          go_wp2_with fail
          go_roundw
          case rel=>
            refine⟨j+1, ?_,by simp,HLT.out,lI ⟨?_,HBI.out.trans HY.out.2, ?_⟩⟩
            · rw[HNX.out.1,←HB.out,←HB'.out]
              rfl
            · rw[HNX.out.2]
              exact HY.out.1
            · have:=HOL.out
              rw[HNX.out.1,sW,sW,List.length_singleton]
              omega
          case measure=>have:=HLT.out;simp[intOf];omega
        · have hjl:j=T.length:=om
          subst hjl
          rw[List.take_length]at HI ⊢
          have HPL:Hid (playS l=Jd T pl0):=HPS
          obtain⟨O,hO⟩:∃O,O=Jd T pl0:=⟨_,rfl⟩
          rw[←hO]at HPL ⊢
          clear hO
          go_wp2_with fail
          go_ret
          rw[HPL.out]
          exact⟨rfl,(HB1.out.trans ((HB2.out.trans (HI.out.2.1)).mono hs1))⟩
end Go.Proofs.YtlfnddmncbkjaabGreatDoor.W
namespace Go.Proofs.YtlfnddmncbkjaabGreatDoor.RowB
open Go.ChangeShapes Go.WideShapes Go.ChangeAt Go.RowKit
section
variable {H : Type} {enc : TypeId × Value → H}
theorem pow10_of {P : Program} {W : World} {r : List (String × DataW Unit)} {g : Nat} {t e : TypeId} (hg : P.globalNamed "internal/strconv.uint64pow10" = some g) (hty : (P.globals[g]?).map (·.type) = some t) (ht : P.underlying t = some (.array 20 e)) (he : P.underlying e = some (.int .u64)) (hce : P.cellsOf e = 1) (hct : P.cellsOf t = 20)
    (h : laidMet P (("internal/strconv.uint64pow10", Lib.tabData .u64 Lib.pow10Tab) :: r) W) : Lib.TabBelow P W.heap.size W "internal/strconv.uint64pow10" .u64 Lib.pow10Tab := Lib.tabBelow_of_tabIs (Lib.tabIs_of_head hg hty ht he hce hct h)
theorem space_of {P : Program} {W : World} {r : List (String × DataW Unit)} {g : Nat} {t e : TypeId} (hg : P.globalNamed "strings.asciiSpace" = some g) (hty : (P.globals[g]?).map (·.type) = some t) (ht : P.underlying t = some (.array 256 e)) (he : P.underlying e = some (.int .u8)) (hce : P.cellsOf e = 1) (hct : P.cellsOf t = 256)
    (h : laidMet P (("strings.asciiSpace", Lib.tabData .u8 Lib.asciiSpaceTab) :: r) W) : Lib.TabBelow P W.heap.size W "strings.asciiSpace" .u8 Lib.asciiSpaceTab := Lib.tabBelow_of_tabIs (Lib.tabIs_of_head hg hty ht he hce hct h)
end
end Go.Proofs.YtlfnddmncbkjaabGreatDoor.RowB
namespace Go.Proofs.YtlfnddmncbkjaabGreatDoor.W
open Go.RowKit Fb
theorem errD_var{W:World}{n:String}{g:Nat}{t:TypeId}{p:Value}(hg:Tryz.prog.globalNamed n=some g)(h:W.var? Tryz.prog n=some #[.iface t p]):ErrD W.heap.size W n:=by
  refine⟨t,p,fun W' hb=> ?_⟩
  rw[←h]
  unfold World.var?
  rw[hg]
  have hlt:g<W.heap.size:=by
    unfold World.var? at h
    rw[hg]at h
    rcases Nat.lt_or_ge g W.heap.size with h'|h'
    · exact h'
    · simp[Array.getElem?_eq_none h']at h
  simp only[Option.bind_some]
  rw[hb.block g hlt]
theorem ptr_rowD (u : TypeId) (h : Tryz.prog.typeName? 3 u = some "*errors.errorString") : u = 225 :=
  typeName_ptr_named (nm := "errors.errorString") (by rw [show "*" ++ "errors.errorString" = "*errors.errorString" by decide]; kernel_rfl) kr zF u (by rw [show "*" ++ "errors.errorString" = "*errors.errorString" by decide]; exact h)
theorem errD_laid{n:String}{text:List UInt8}{r:List (String × DataW Unit)}{W:World}{g:Nat}
    (h : laidMet Tryz.prog ((n, .iface "*errors.errorString" (.ptr (.agg [.lit (.string text)]))) :: r) W)
    (hg:Tryz.prog.globalNamed n=some g) (ht:(Tryz.prog.globals[g]?).map (·.type)=some 68):ErrD W.heap.size W n:=by
  obtain⟨a,s,hv,-⟩:=laid_sentinel h hg ht Tryz.underlying68 ptr_rowD Tryz.underlying225 Tryz.underlying227 rfl rfl Tryz.underlying9 kr kr
  exact errD_var hg hv
end Go.Proofs.YtlfnddmncbkjaabGreatDoor.W
namespace Go.Proofs.YtlfnddmncbkjaabGreatDoor.RowB
open Go.ChangeShapes Go.WideShapes Go.ChangeAt Go.RowKit
section
variable {H : Type} {enc : TypeId × Value → H}
theorem witness_laid{C:Checked}{os:Os}{f:FuncId}{fn:Func}{s:OpenSpec}{k:(H:Type)→List (DataW H)→Bool}(hk:s.cond=some k){conds:List PathCond}{apart:Bool}{X:World→Array Value→Prop}(w0:World)(args:Array Value)(fuel:Nat)(hos:w0.os=os)
    (hsh:(w0.forCall (fun _ _=>0) ⟨#[],args,[]⟩).Shaped C.prog)
    (hok:Input.okWideB C.prog (w0.forCall (fun _ _=>0) ⟨#[],args,[]⟩) f ⟨#[],args,[]⟩=true)
    {x:List (DataW H) × List (DataW H) × List MemPlace} (hx:DataW.whole enc C.prog (w0.forCall (fun _ _=>0) ⟨#[],args,[]⟩).memory fn.params.toList s.vars apart args.toList fuel=some x)
    (hconds:conds.all (PathCond.test C.prog ⟨fn.params.toList,x.1,s.bare.plain.varTypes C.prog,x.2.1⟩)=true) (hkk:k H (x.1++x.2.1)=true)
    (hsz:s.bare.sizedB enc C.prog fn apart (w0.forCall (fun _ _=>0) ⟨#[],args,[]⟩).memory args fuel=true)
    (hX:X (w0.forCall (fun _ _=>0) ⟨#[],args,[]⟩).memory args):
    ∃(w:World) (tape:Tape) (i:Input),w.os=os∧(w.forCall tape i).Shaped C.prog∧i.vars=[]∧Input.okWide C.prog (w.forCall tape i) .any w.heap.size f i∧
      ((s.pre enc C.prog fn conds apart (w.forCall tape i).memory i.args∧X (w.forCall tape i).memory i.args)∧sizedMet enc C.prog fn s apart (w.forCall tape i).memory i.args)∧({}:Assume).holds C.prog (lone (Frame.enter C.prog f i.args .normal) [] (w.forCall tape i)):=
  ⟨w0,fun _ _=>0,⟨#[],args,[]⟩,hos,hsh,(Input.okWide_of_okWideB (base:=0) hok).1,(Input.okWide_of_okWideB hok).2,
    ⟨⟨(OpenSpec.pre_some hk conds apart _ _).2 ⟨x.1,x.2.1,x.2.2,DataW.Whole_of_whole hx,hconds,hkk⟩,hX⟩,sizedMet_of_sizedB hsz⟩,by
    simp only[Assume.holds]
    exact⟨by simp,by simp,fun _=>Modest.zero,by simp,by simp⟩⟩
theorem law_lifted_laid_upto{C:Checked}{os:Os}{f:FuncId}{fn:Func}{s:ChangeSpec}{k:(H:Type)→List (DataW H)→Bool}{conds:List PathCond}{laid:List (String × DataW Unit)}{apart fresh handsOn:Bool}{tb:TypeId}{F:Stop.Interp}
    (own:ownKnob C.prog.godebug=none) (started:os.Started) (noInit:C.prog.inits.idxOf? f=none) (hfn:C.prog.funcs[f]? =some fn)
    (hplain:(laid.all fun x=>x.2.handleName?.isNone)=true)
    (witness:∃(w:World) (tape:Tape) (i:Input),w.os=os∧(w.forCall tape i).Shaped C.prog∧i.vars=[]∧Input.okWide C.prog (w.forCall tape i) .any w.heap.size f i∧
      ((({OpenSpec.ofChange s with cond:=some k}:OpenSpec).pre enc C.prog fn conds apart (w.forCall tape i).memory i.args∧laidMetH C.prog laid (w.forCall tape i).memory)∧sizedMet enc C.prog fn ({OpenSpec.ofChange s with cond:=some k}:OpenSpec) apart (w.forCall tape i).memory i.args)∧({}:Assume).holds C.prog (lone (Frame.enter C.prog f i.args .normal) [] (w.forCall tape i)))
    (hvars:s.vars=[]) (hs:∀ds:List (DataW H),ds.length=fn.params.toList.length→s.fn H ds={results:=[.lit (.bool true)],args:=ds})
    (hrt:fn.resultTypes=#[tb]) (hbool:C.prog.underlying tb=some .bool) (hl:laidOutB C.prog=true)
    (hread:∀t∈fn.params.toList,C.prog.readableRec t=true∧t<C.prog.types.size)
    (walk:∀(W:World) (base:Nat) (args:Array Value) (ds:List (DataW H)) (ps:List MemPlace),
      (∀(j:Nat) t v,fn.params[j]? =some t→args[j]? =some v→Value.okWide C.prog W .any base t v)→
      DataW.TrodAll enc C.prog W 0 (fun _=>true) true fn.params.toList args.toList ds ps→(∀x∈ps,x.block<W.heap.size)→
      (DataW.weightsEach C.prog fn.params.toList ds).all (· ≤reachBytes)=true→k H ds=true→laidMet C.prog laid W→
      Calls C.prog f args W fun e W'=>e=.returned (.bool true)∧Below W.heap.size W W'):
    ReturnsInHanded {} C os f .any (fun w args=>(({OpenSpec.ofChange s with cond:=some k}:OpenSpec).pre enc C.prog fn conds apart w args∧laidMetH C.prog laid w)∧sizedMet enc C.prog fn ({OpenSpec.ofChange s with cond:=some k}:OpenSpec) apart w args) ((({OpenSpec.ofChange s with cond:=some k}:OpenSpec).at F).post enc C.prog fn apart fresh handsOn false):=by
  refine returnsInHanded_of_calls own started noInit witness ?_
  intro w tape i _ _ _ hok hpre hholds
  obtain⟨_,_,_,fn',hfn',_,_,_,_,hval⟩:=hok
  have e:fn'=fn:=Option.some.inj (hfn'.symm.trans hfn)
  subst e
  obtain⟨⟨hp,hx⟩,hz⟩:=hpre
  obtain⟨ds,gs,before,hw,hc,hkk⟩:=(OpenSpec.pre_some (k:=k) rfl conds apart _ _).1 hp
  have hw':=DataW.Whole.of_heap (w':=w.forCall tape i) zK hw
  have hsz:=hz.weights hw
  have hL:laidMetH C.prog laid (w.forCall tape i):=hx.of_heap zK
  rw[MakeChecks.laidMetH_plain _ _ _ hplain]at hL
  have hlt:∀x∈before,x.block<(w.forCall tape i).heap.size:=fun x hx=>by simpa using hw'.lt x hx
  have hW0:=hw'
  obtain⟨p,q,hA,hV,rfl,hfz,hnd⟩:=hw'
  have hV':DataW.TrodVars enc C.prog (w.forCall tape i) (fun _=>true) s.vars gs q:=hV
  rw[hvars]at hV'
  obtain⟨rfl,rfl⟩:=trodVars_none hV'
  have hvt:({OpenSpec.ofChange s with cond:=some k}:OpenSpec).bare.plain.varTypes C.prog=[]:=by
    unfold OpenSpec.bare ChangeSpec.plain DataSpec.varTypes OpenSpec.ofChange
    simp[hvars]
  rw[hvt]at hsz
  simp only[List.append_nil]at hsz hlt hkk
  refine(walk (w.forCall tape i) w.heap.size i.args ds p hval hA hlt hsz hkk hL).mono fun e W' ⟨he,hb⟩=> ?_
  subst he
  exact ChangeSpec.post_blind (post_law (s:=s) hW0 hvars hs hrt hbool hl hread hb)
end
end Go.Proofs.YtlfnddmncbkjaabGreatDoor.RowB
