import Derived.Test.YtlfnddmncbkjaacGreatZWForm2
set_option linter.unusedVariables false
set_option linter.unusedSimpArgs false
set_option maxRecDepth 100000
set_option maxHeartbeats 4000000
namespace Go.Proofs.YtlfnddmncbkjaacGreat.W
open Go.RowKit Fb
theorem dec_forms(x:Int)(hx:U32 x):((qZ x).1<0∧dec x=none)∨(∃op f,qZ x=(op,letter f)∧(1≤op∧op≤59)∧(0≤f∧f≤8)∧dec x=some (QZ op f x)):=by
  obtain⟨h1,h2⟩:=agree x hx
  by_cases h:(qZ x).1<0
  · rw[if_pos h]at h1
    exact .inl ⟨h,by unfold dec;rw[h1];rfl⟩
  · rw[if_neg h]at h1
    have h3:=h2.resolve_left h
    have hk:=decOp_known h1
    have hb:0≤(qF (qZ x).1).form∧(qF (qZ x).1).form≤8:=by
      have hk2:∀k∈kinds,(0≤k.form∧k.form≤8):=zL
      have e:qF (qZ x).1=kinds.getD ((qZ x).1-1).toNat ⟨0,0,0,0⟩:=by unfold qF QI;rw[if_pos (by simpa using hk)]
      have hl:((qZ x).1-1).toNat<kinds.length:=by have:kinds.length=59:=rfl;omega
      rw[e,List.getD,sZ hl]
      exact hk2 _ (sU hl)
    exact .inr ⟨(qZ x).1,(qF (qZ x).1).form,by rw[h3],hk,hb,by unfold dec;rw[h1];rfl⟩
theorem jo{w:World}{b o:Nat}{cs:Array Value}{t:TypeId}{v:Value}(h:w.heap[b]? =some (.cells cs t (0,0)))(hv:cs[o]? =some v):w.cell? ⟨b,o,none⟩=some v:=by
  simp[World.cell?,h,hv]
theorem decode2_0(op x:Int)(w:World)(hx:U32 x)(HF:Hid (qZ x=(op,85)))(HD:Hid (dec x=some (QZ op 0 x)))(hop:1≤op):
    Calls Tryz.prog 29 #[.int .u32 x] w fun e w'=>e=.returned (.tuple #[.agg (ql ((dec x).getD i0)),.bool (dec x).isSome])∧Below w.heap.size w w':=by
  have HX:=lI hx
  obtain⟨sx,hsx⟩:∃s,s=wrap32 x:=⟨_,rfl⟩
  have HSX:=lI hsx
  have sb:=jw x
  rw[←hsx]at sb
  obtain⟨sb1,sb2⟩:=sb
  have HI:Hid (wrap32 (sx-x%4096)=wrap32 (x-x%4096)):=lI (by rw[hsx];unfold wrap32;omega)
  clear hsx
  obtain⟨hx0,hx1⟩:=hx
  go_enter Tryz.func29,Tryz.ntmps29
  go_wp2_with fail
  refine(form2_any _ _ HX.out).mono ?_
  rintro e w1 ⟨rfl,hb1⟩
  rw[HF.out]
  have hblk:=(hb1.block w.heap.size zG).trans (sQ w (.cells #[.int .i64 0,.int .i64 0,.int .i64 0,.int .i64 0,.int .i32 0] 82))
  have ho1:w1.cell? ⟨w.heap.size,0,none⟩=some (.int .i64 0):=jo hblk rfl
  have ho2:w1.cell? ⟨w.heap.size,1,none⟩=some (.int .i64 0):=jo hblk rfl
  have ho3:w1.cell? ⟨w.heap.size,2,none⟩=some (.int .i64 0):=jo hblk rfl
  have ho4:w1.cell? ⟨w.heap.size,3,none⟩=some (.int .i64 0):=jo hblk rfl
  have ho5:w1.cell? ⟨w.heap.size,4,none⟩=some (.int .i32 0):=jo hblk rfl
  have hof:∀o,w1.frozen? ⟨w.heap.size,o,none⟩=false:=fun o=>by simp[World.frozen?,hblk]
  have hz1:w.heap.size+1≤w1.heap.size:=yP
  have hb2:Below w.heap.size w w1:=Below.trans (Below.alloc br (sO _) _) (hb1.mono zG)
  have hlt1:w.heap.size<w1.heap.size:=om
  have hne:w.heap.size≠w1.heap.size:=om
  have HO:=lI (And.intro ho1 (And.intro ho2 (And.intro ho3 (And.intro ho4 (And.intro ho5 hof)))))
  have HB2:=lI hb2
  have HLT:=lI hlt1
  clear hblk hb1 ho1 ho2 ho3 ho4 ho5 hof hb2 hz1 hne hlt1
  go_upto_region 42 with(first|(go_at_call 52;first|((with_reducible refine(JB _ _ HX.out).mono ?_);rintro e w' ⟨rfl,rfl⟩)|((with_reducible refine(jg _ _ HX.out).mono ?_);rintro e w' ⟨rfl,rfl⟩)|((with_reducible refine(Qj _ _ HX.out).mono ?_);rintro e w' ⟨rfl,rfl⟩)|((with_reducible refine(jf _ _ HX.out).mono ?_);rintro e w' ⟨rfl,rfl⟩)|((with_reducible refine(cut2_0_11 _ _ HX.out).mono ?_);rintro e w' ⟨rfl,rfl⟩))|(go_at_call 53;refine(qc x sx _ HSX HX).mono ?_;rintro e w' ⟨rfl,rfl⟩))
  have hw2:∃w2:World,w2=w1.alloc (.cells #[.int .i64 op,.int .i64 (x / 128%32),.int .i64 (0),.int .i64 (0),.int .i32 (wrap32 (sx-x%4096))] 82):=⟨_,rfl⟩
  obtain⟨w2,hw2⟩:=hw2
  have hb3:Below w.heap.size w w2:=zV
  obtain⟨ho1,ho2,ho3,ho4,ho5,hof⟩:=HO.out
  have k1:w2.cell? ⟨w.heap.size,0,none⟩=some (.int .i64 0):=by rw[hw2];exact(sI _ _ _ HLT.out).trans ho1
  have k2:w2.cell? ⟨w.heap.size,1,none⟩=some (.int .i64 0):=by rw[hw2];exact(sI _ _ _ HLT.out).trans ho2
  have k3:w2.cell? ⟨w.heap.size,2,none⟩=some (.int .i64 0):=by rw[hw2];exact(sI _ _ _ HLT.out).trans ho3
  have k4:w2.cell? ⟨w.heap.size,3,none⟩=some (.int .i64 0):=by rw[hw2];exact(sI _ _ _ HLT.out).trans ho4
  have k5:w2.cell? ⟨w.heap.size,4,none⟩=some (.int .i32 0):=by rw[hw2];exact(sI _ _ _ HLT.out).trans ho5
  have kf:∀o,w2.frozen? ⟨w.heap.size,o,none⟩=false:=fun o=>by rw[hw2];exact(World.frozen?_of_block (sR w1 _ HLT.out)).trans (hof o)
  have n1:w2.cell? ⟨w1.heap.size,0,none⟩=some (.int .i64 op):=zE
  have n2:w2.cell? ⟨w1.heap.size,1,none⟩=some (.int .i64 (x / 128%32)):=zE
  have n3:w2.cell? ⟨w1.heap.size,2,none⟩=some (.int .i64 (0)):=zE
  have n4:w2.cell? ⟨w1.heap.size,3,none⟩=some (.int .i64 (0)):=zE
  have n5:w2.cell? ⟨w1.heap.size,4,none⟩=some (.int .i32 (wrap32 (sx-x%4096))):=zE
  clear ho1 ho2 ho3 ho4 ho5 hof HO
  rw[←hw2]
  clear hw2
  go_wp2
  exact sP (v:=.tuple #[.agg #[.int .i64 op,.int .i64 (x / 128%32),.int .i64 (0),.int .i64 (0),.int .i32 (wrap32 (x-x%4096))],.bool true]) (by simp[results,Tryz.results29,go_sem,k1,k2,k3,k4,k5];rw[HI.out]) rfl ⟨by rw[HD.out];rfl,hb3.trans Fb.blw⟩
theorem Qt:(∀(op x:Int) (w:World) (hx:U32 x) (HF:Hid (qZ x=(op,74))) (HD:Hid (dec x=some (QZ op 1 x))) (hop:1≤op),Calls Tryz.prog 29 #[.int .u32 x] w fun e w'=>e=.returned (.tuple #[.agg (ql ((dec x).getD i0)),.bool (dec x).isSome])∧Below w.heap.size w w')∧(∀(op x:Int) (w:World) (hx:U32 x) (HF:Hid (qZ x=(op,73))) (HD:Hid (dec x=some (QZ op 2 x))) (hop:1≤op),Calls Tryz.prog 29 #[.int .u32 x] w fun e w'=>e=.returned (.tuple #[.agg (ql ((dec x).getD i0)),.bool (dec x).isSome])∧Below w.heap.size w w')∧(∀(op x:Int) (w:World) (hx:U32 x) (HF:Hid (qZ x=(op,72))) (HD:Hid (dec x=some (QZ op 3 x))) (hop:1≤op),Calls Tryz.prog 29 #[.int .u32 x] w fun e w'=>e=.returned (.tuple #[.agg (ql ((dec x).getD i0)),.bool (dec x).isSome])∧Below w.heap.size w w')∧(∀(op x:Int) (w:World) (hx:U32 x) (HF:Hid (qZ x=(op,66))) (HD:Hid (dec x=some (QZ op 4 x))) (hop:1≤op),Calls Tryz.prog 29 #[.int .u32 x] w fun e w'=>e=.returned (.tuple #[.agg (ql ((dec x).getD i0)),.bool (dec x).isSome])∧Below w.heap.size w w')∧(∀(op x:Int) (w:World) (hx:U32 x) (HF:Hid (qZ x=(op,83))) (HD:Hid (dec x=some (QZ op 5 x))) (hop:1≤op),Calls Tryz.prog 29 #[.int .u32 x] w fun e w'=>e=.returned (.tuple #[.agg (ql ((dec x).getD i0)),.bool (dec x).isSome])∧Below w.heap.size w w')∧(∀(op x:Int) (w:World) (hx:U32 x) (HF:Hid (qZ x=(op,82))) (HD:Hid (dec x=some (QZ op 6 x))) (hop:1≤op),Calls Tryz.prog 29 #[.int .u32 x] w fun e w'=>e=.returned (.tuple #[.agg (ql ((dec x).getD i0)),.bool (dec x).isSome])∧Below w.heap.size w w')∧(∀(op x:Int) (w:World) (hx:U32 x) (HF:Hid (qZ x=(op,65))) (HD:Hid (dec x=some (QZ op 7 x))) (hop:1≤op),Calls Tryz.prog 29 #[.int .u32 x] w fun e w'=>e=.returned (.tuple #[.agg (ql ((dec x).getD i0)),.bool (dec x).isSome])∧Below w.heap.size w w')∧(∀(op x:Int) (w:World) (hx:U32 x) (HF:Hid (qZ x=(op,69))) (HD:Hid (dec x=some (QZ op 8 x))) (hop:1≤op),Calls Tryz.prog 29 #[.int .u32 x] w fun e w'=>e=.returned (.tuple #[.agg (ql ((dec x).getD i0)),.bool (dec x).isSome])∧Below w.heap.size w w')∧(∀(op l x:Int) (w:World) (hx:U32 x) (HF:Hid (qZ x=(op,l))) (HD:Hid (dec x=none)) (hop:op<0),Calls Tryz.prog 29 #[.int .u32 x] w fun e w'=>e=.returned (.tuple #[.agg (ql ((dec x).getD i0)),.bool (dec x).isSome])∧Below w.heap.size w w'):=by
 refine⟨fun op x w hx HF HD hop=> ?_,fun op x w hx HF HD hop=> ?_,fun op x w hx HF HD hop=> ?_,fun op x w hx HF HD hop=> ?_,fun op x w hx HF HD hop=> ?_,fun op x w hx HF HD hop=> ?_,fun op x w hx HF HD hop=> ?_,fun op x w hx HF HD hop=> ?_,fun op l x w hx HF HD hop=> ?_⟩
 all_goals
  have HX:=lI hx
  obtain⟨hx0,hx1⟩:=hx
  go_enter Tryz.func29,Tryz.ntmps29
  go_wp2_with fail
  refine(form2_any _ _ HX.out).mono ?_
  rintro e w1 ⟨rfl,hb1⟩
  rw[HF.out]
  have hblk:=(hb1.block w.heap.size zG).trans (sQ w (.cells #[.int .i64 0,.int .i64 0,.int .i64 0,.int .i64 0,.int .i32 0] 82))
  have ho1:w1.cell? ⟨w.heap.size,0,none⟩=some (.int .i64 0):=jo hblk rfl
  have ho2:w1.cell? ⟨w.heap.size,1,none⟩=some (.int .i64 0):=jo hblk rfl
  have ho3:w1.cell? ⟨w.heap.size,2,none⟩=some (.int .i64 0):=jo hblk rfl
  have ho4:w1.cell? ⟨w.heap.size,3,none⟩=some (.int .i64 0):=jo hblk rfl
  have ho5:w1.cell? ⟨w.heap.size,4,none⟩=some (.int .i32 0):=jo hblk rfl
  have hof:∀o,w1.frozen? ⟨w.heap.size,o,none⟩=false:=fun o=>by simp[World.frozen?,hblk]
  have hz1:w.heap.size+1≤w1.heap.size:=yP
 · have hb2:Below w.heap.size w w1:=Below.trans (Below.alloc br (sO _) _) (hb1.mono zG)
   have hlt1:w.heap.size<w1.heap.size:=om
   have hne:w.heap.size≠w1.heap.size:=om
   have HO:=lI (And.intro ho1 (And.intro ho2 (And.intro ho3 (And.intro ho4 (And.intro ho5 hof)))))
   have HB2:=lI hb2
   have HLT:=lI hlt1
   clear hblk hb1 ho1 ho2 ho3 ho4 ho5 hof hb2 hz1 hne hlt1
   go_upto_region 42 with(first|(go_at_call 52;first|((with_reducible refine(JB _ _ HX.out).mono ?_);rintro e w' ⟨rfl,rfl⟩)|((with_reducible refine(jg _ _ HX.out).mono ?_);rintro e w' ⟨rfl,rfl⟩)|((with_reducible refine(Qj _ _ HX.out).mono ?_);rintro e w' ⟨rfl,rfl⟩)|((with_reducible refine(jf _ _ HX.out).mono ?_);rintro e w' ⟨rfl,rfl⟩)|((with_reducible refine(cut2_12_19 _ _ HX.out).mono ?_);rintro e w' ⟨rfl,rfl⟩)|((with_reducible refine(cut2_20_20 _ _ HX.out).mono ?_);rintro e w' ⟨rfl,rfl⟩)|((with_reducible refine(cut2_21_30 _ _ HX.out).mono ?_);rintro e w' ⟨rfl,rfl⟩))|(go_at_call 54;refine(signed2_21 _ _ ?_).mono ?_;omega;rintro e w' ⟨rfl,rfl⟩))
   have hw2:∃w2:World,w2=w1.alloc (.cells #[.int .i64 op,.int .i64 (x / 128%32),.int .i64 (0),.int .i64 (0),.int .i32 (sgn 1048576 (x / 2147483648%2*1048576+x / 4096%256*4096+x / 1048576%2*2048+x / 2097152%1024*2))] 82):=⟨_,rfl⟩
   obtain⟨w2,hw2⟩:=hw2
   have hb3:Below w.heap.size w w2:=zV
   obtain⟨ho1,ho2,ho3,ho4,ho5,hof⟩:=HO.out
   have k1:w2.cell? ⟨w.heap.size,0,none⟩=some (.int .i64 0):=by rw[hw2];exact(sI _ _ _ HLT.out).trans ho1
   have k2:w2.cell? ⟨w.heap.size,1,none⟩=some (.int .i64 0):=by rw[hw2];exact(sI _ _ _ HLT.out).trans ho2
   have k3:w2.cell? ⟨w.heap.size,2,none⟩=some (.int .i64 0):=by rw[hw2];exact(sI _ _ _ HLT.out).trans ho3
   have k4:w2.cell? ⟨w.heap.size,3,none⟩=some (.int .i64 0):=by rw[hw2];exact(sI _ _ _ HLT.out).trans ho4
   have k5:w2.cell? ⟨w.heap.size,4,none⟩=some (.int .i32 0):=by rw[hw2];exact(sI _ _ _ HLT.out).trans ho5
   have kf:∀o,w2.frozen? ⟨w.heap.size,o,none⟩=false:=fun o=>by rw[hw2];exact(World.frozen?_of_block (sR w1 _ HLT.out)).trans (hof o)
   have n1:w2.cell? ⟨w1.heap.size,0,none⟩=some (.int .i64 op):=zE
   have n2:w2.cell? ⟨w1.heap.size,1,none⟩=some (.int .i64 (x / 128%32)):=zE
   have n3:w2.cell? ⟨w1.heap.size,2,none⟩=some (.int .i64 (0)):=zE
   have n4:w2.cell? ⟨w1.heap.size,3,none⟩=some (.int .i64 (0)):=zE
   have n5:w2.cell? ⟨w1.heap.size,4,none⟩=some (.int .i32 (sgn 1048576 (x / 2147483648%2*1048576+x / 4096%256*4096+x / 1048576%2*2048+x / 2097152%1024*2))):=zE
   clear ho1 ho2 ho3 ho4 ho5 hof HO
   rw[←hw2]
   clear hw2
   go_wp2
   exact sP (v:=.tuple #[.agg #[.int .i64 op,.int .i64 (x / 128%32),.int .i64 (0),.int .i64 (0),.int .i32 (sgn 1048576 (x / 2147483648%2*1048576+x / 4096%256*4096+x / 1048576%2*2048+x / 2097152%1024*2))],.bool true]) yI rfl ⟨by rw[HD.out];rfl,hb3.trans Fb.blw⟩
 · have hb2:Below w.heap.size w w1:=Below.trans (Below.alloc br (sO _) _) (hb1.mono zG)
   have hlt1:w.heap.size<w1.heap.size:=om
   have hne:w.heap.size≠w1.heap.size:=om
   have HO:=lI (And.intro ho1 (And.intro ho2 (And.intro ho3 (And.intro ho4 (And.intro ho5 hof)))))
   have HB2:=lI hb2
   have HLT:=lI hlt1
   clear hblk hb1 ho1 ho2 ho3 ho4 ho5 hof hb2 hz1 hne hlt1
   go_upto_region 42 with(first|(go_at_call 52;first|((with_reducible refine(JB _ _ HX.out).mono ?_);rintro e w' ⟨rfl,rfl⟩)|((with_reducible refine(jg _ _ HX.out).mono ?_);rintro e w' ⟨rfl,rfl⟩)|((with_reducible refine(Qj _ _ HX.out).mono ?_);rintro e w' ⟨rfl,rfl⟩)|((with_reducible refine(jf _ _ HX.out).mono ?_);rintro e w' ⟨rfl,rfl⟩)|((with_reducible refine(cut2_20_31 _ _ HX.out).mono ?_);rintro e w' ⟨rfl,rfl⟩))|(go_at_call 54;refine(signed2_12 _ _ ?_).mono ?_;omega;rintro e w' ⟨rfl,rfl⟩))
   have hw2:∃w2:World,w2=w1.alloc (.cells #[.int .i64 op,.int .i64 (x / 128%32),.int .i64 (x / 32768%32),.int .i64 (0),.int .i32 (sgn 2048 (x / 1048576%4096))] 82):=⟨_,rfl⟩
   obtain⟨w2,hw2⟩:=hw2
   have hb3:Below w.heap.size w w2:=zV
   obtain⟨ho1,ho2,ho3,ho4,ho5,hof⟩:=HO.out
   have k1:w2.cell? ⟨w.heap.size,0,none⟩=some (.int .i64 0):=by rw[hw2];exact(sI _ _ _ HLT.out).trans ho1
   have k2:w2.cell? ⟨w.heap.size,1,none⟩=some (.int .i64 0):=by rw[hw2];exact(sI _ _ _ HLT.out).trans ho2
   have k3:w2.cell? ⟨w.heap.size,2,none⟩=some (.int .i64 0):=by rw[hw2];exact(sI _ _ _ HLT.out).trans ho3
   have k4:w2.cell? ⟨w.heap.size,3,none⟩=some (.int .i64 0):=by rw[hw2];exact(sI _ _ _ HLT.out).trans ho4
   have k5:w2.cell? ⟨w.heap.size,4,none⟩=some (.int .i32 0):=by rw[hw2];exact(sI _ _ _ HLT.out).trans ho5
   have kf:∀o,w2.frozen? ⟨w.heap.size,o,none⟩=false:=fun o=>by rw[hw2];exact(World.frozen?_of_block (sR w1 _ HLT.out)).trans (hof o)
   have n1:w2.cell? ⟨w1.heap.size,0,none⟩=some (.int .i64 op):=zE
   have n2:w2.cell? ⟨w1.heap.size,1,none⟩=some (.int .i64 (x / 128%32)):=zE
   have n3:w2.cell? ⟨w1.heap.size,2,none⟩=some (.int .i64 (x / 32768%32)):=zE
   have n4:w2.cell? ⟨w1.heap.size,3,none⟩=some (.int .i64 (0)):=zE
   have n5:w2.cell? ⟨w1.heap.size,4,none⟩=some (.int .i32 (sgn 2048 (x / 1048576%4096))):=zE
   clear ho1 ho2 ho3 ho4 ho5 hof HO
   rw[←hw2]
   clear hw2
   go_wp2
   exact sP (v:=.tuple #[.agg #[.int .i64 op,.int .i64 (x / 128%32),.int .i64 (x / 32768%32),.int .i64 (0),.int .i32 (sgn 2048 (x / 1048576%4096))],.bool true]) yI rfl ⟨by rw[HD.out];rfl,hb3.trans Fb.blw⟩
 · have hb2:Below w.heap.size w w1:=Below.trans (Below.alloc br (sO _) _) (hb1.mono zG)
   have hlt1:w.heap.size<w1.heap.size:=om
   have hne:w.heap.size≠w1.heap.size:=om
   have HO:=lI (And.intro ho1 (And.intro ho2 (And.intro ho3 (And.intro ho4 (And.intro ho5 hof)))))
   have HB2:=lI hb2
   have HLT:=lI hlt1
   clear hblk hb1 ho1 ho2 ho3 ho4 ho5 hof hb2 hz1 hne hlt1
   go_upto_region 42 with(first|(go_at_call 52;first|((with_reducible refine(JB _ _ HX.out).mono ?_);rintro e w' ⟨rfl,rfl⟩)|((with_reducible refine(jg _ _ HX.out).mono ?_);rintro e w' ⟨rfl,rfl⟩)|((with_reducible refine(Qj _ _ HX.out).mono ?_);rintro e w' ⟨rfl,rfl⟩)|((with_reducible refine(jf _ _ HX.out).mono ?_);rintro e w' ⟨rfl,rfl⟩)))
   have hw2:∃w2:World,w2=w1.alloc (.cells #[.int .i64 op,.int .i64 (x / 128%32),.int .i64 (x / 32768%32),.int .i64 (0),.int .i32 (x / 1048576%32)] 82):=⟨_,rfl⟩
   obtain⟨w2,hw2⟩:=hw2
   have hb3:Below w.heap.size w w2:=zV
   obtain⟨ho1,ho2,ho3,ho4,ho5,hof⟩:=HO.out
   have k1:w2.cell? ⟨w.heap.size,0,none⟩=some (.int .i64 0):=by rw[hw2];exact(sI _ _ _ HLT.out).trans ho1
   have k2:w2.cell? ⟨w.heap.size,1,none⟩=some (.int .i64 0):=by rw[hw2];exact(sI _ _ _ HLT.out).trans ho2
   have k3:w2.cell? ⟨w.heap.size,2,none⟩=some (.int .i64 0):=by rw[hw2];exact(sI _ _ _ HLT.out).trans ho3
   have k4:w2.cell? ⟨w.heap.size,3,none⟩=some (.int .i64 0):=by rw[hw2];exact(sI _ _ _ HLT.out).trans ho4
   have k5:w2.cell? ⟨w.heap.size,4,none⟩=some (.int .i32 0):=by rw[hw2];exact(sI _ _ _ HLT.out).trans ho5
   have kf:∀o,w2.frozen? ⟨w.heap.size,o,none⟩=false:=fun o=>by rw[hw2];exact(World.frozen?_of_block (sR w1 _ HLT.out)).trans (hof o)
   have n1:w2.cell? ⟨w1.heap.size,0,none⟩=some (.int .i64 op):=zE
   have n2:w2.cell? ⟨w1.heap.size,1,none⟩=some (.int .i64 (x / 128%32)):=zE
   have n3:w2.cell? ⟨w1.heap.size,2,none⟩=some (.int .i64 (x / 32768%32)):=zE
   have n4:w2.cell? ⟨w1.heap.size,3,none⟩=some (.int .i64 (0)):=zE
   have n5:w2.cell? ⟨w1.heap.size,4,none⟩=some (.int .i32 (x / 1048576%32)):=zE
   clear ho1 ho2 ho3 ho4 ho5 hof HO
   rw[←hw2]
   clear hw2
   go_wp2
   exact sP (v:=.tuple #[.agg #[.int .i64 op,.int .i64 (x / 128%32),.int .i64 (x / 32768%32),.int .i64 (0),.int .i32 (x / 1048576%32)],.bool true]) yI rfl ⟨by rw[HD.out];rfl,hb3.trans Fb.blw⟩
 · have hb2:Below w.heap.size w w1:=Below.trans (Below.alloc br (sO _) _) (hb1.mono zG)
   have hlt1:w.heap.size<w1.heap.size:=om
   have hne:w.heap.size≠w1.heap.size:=om
   have HO:=lI (And.intro ho1 (And.intro ho2 (And.intro ho3 (And.intro ho4 (And.intro ho5 hof)))))
   have HB2:=lI hb2
   have HLT:=lI hlt1
   clear hblk hb1 ho1 ho2 ho3 ho4 ho5 hof hb2 hz1 hne hlt1
   go_upto_region 42 with(first|(go_at_call 52;first|((with_reducible refine(JB _ _ HX.out).mono ?_);rintro e w' ⟨rfl,rfl⟩)|((with_reducible refine(jg _ _ HX.out).mono ?_);rintro e w' ⟨rfl,rfl⟩)|((with_reducible refine(Qj _ _ HX.out).mono ?_);rintro e w' ⟨rfl,rfl⟩)|((with_reducible refine(jf _ _ HX.out).mono ?_);rintro e w' ⟨rfl,rfl⟩)|((with_reducible refine(cut2_7_7 _ _ HX.out).mono ?_);rintro e w' ⟨rfl,rfl⟩)|((with_reducible refine(cut2_25_30 _ _ HX.out).mono ?_);rintro e w' ⟨rfl,rfl⟩)|((with_reducible refine(cut2_8_11 _ _ HX.out).mono ?_);rintro e w' ⟨rfl,rfl⟩))|(go_at_call 54;refine(signed2_13 _ _ ?_).mono ?_;omega;rintro e w' ⟨rfl,rfl⟩))
   have hw2:∃w2:World,w2=w1.alloc (.cells #[.int .i64 op,.int .i64 (0),.int .i64 (x / 32768%32),.int .i64 (x / 1048576%32),.int .i32 (sgn 4096 (x / 2147483648%2*4096+x / 128%2*2048+x / 33554432%64*32+x / 256%16*2))] 82):=⟨_,rfl⟩
   obtain⟨w2,hw2⟩:=hw2
   have hb3:Below w.heap.size w w2:=zV
   obtain⟨ho1,ho2,ho3,ho4,ho5,hof⟩:=HO.out
   have k1:w2.cell? ⟨w.heap.size,0,none⟩=some (.int .i64 0):=by rw[hw2];exact(sI _ _ _ HLT.out).trans ho1
   have k2:w2.cell? ⟨w.heap.size,1,none⟩=some (.int .i64 0):=by rw[hw2];exact(sI _ _ _ HLT.out).trans ho2
   have k3:w2.cell? ⟨w.heap.size,2,none⟩=some (.int .i64 0):=by rw[hw2];exact(sI _ _ _ HLT.out).trans ho3
   have k4:w2.cell? ⟨w.heap.size,3,none⟩=some (.int .i64 0):=by rw[hw2];exact(sI _ _ _ HLT.out).trans ho4
   have k5:w2.cell? ⟨w.heap.size,4,none⟩=some (.int .i32 0):=by rw[hw2];exact(sI _ _ _ HLT.out).trans ho5
   have kf:∀o,w2.frozen? ⟨w.heap.size,o,none⟩=false:=fun o=>by rw[hw2];exact(World.frozen?_of_block (sR w1 _ HLT.out)).trans (hof o)
   have n1:w2.cell? ⟨w1.heap.size,0,none⟩=some (.int .i64 op):=zE
   have n2:w2.cell? ⟨w1.heap.size,1,none⟩=some (.int .i64 (0)):=zE
   have n3:w2.cell? ⟨w1.heap.size,2,none⟩=some (.int .i64 (x / 32768%32)):=zE
   have n4:w2.cell? ⟨w1.heap.size,3,none⟩=some (.int .i64 (x / 1048576%32)):=zE
   have n5:w2.cell? ⟨w1.heap.size,4,none⟩=some (.int .i32 (sgn 4096 (x / 2147483648%2*4096+x / 128%2*2048+x / 33554432%64*32+x / 256%16*2))):=zE
   clear ho1 ho2 ho3 ho4 ho5 hof HO
   rw[←hw2]
   clear hw2
   go_wp2
   exact sP (v:=.tuple #[.agg #[.int .i64 op,.int .i64 (0),.int .i64 (x / 32768%32),.int .i64 (x / 1048576%32),.int .i32 (sgn 4096 (x / 2147483648%2*4096+x / 128%2*2048+x / 33554432%64*32+x / 256%16*2))],.bool true]) yI rfl ⟨by rw[HD.out];rfl,hb3.trans Fb.blw⟩
 · have hb2:Below w.heap.size w w1:=Below.trans (Below.alloc br (sO _) _) (hb1.mono zG)
   have hlt1:w.heap.size<w1.heap.size:=om
   have hne:w.heap.size≠w1.heap.size:=om
   have HO:=lI (And.intro ho1 (And.intro ho2 (And.intro ho3 (And.intro ho4 (And.intro ho5 hof)))))
   have HB2:=lI hb2
   have HLT:=lI hlt1
   clear hblk hb1 ho1 ho2 ho3 ho4 ho5 hof hb2 hz1 hne hlt1
   go_upto_region 42 with(first|(go_at_call 52;first|((with_reducible refine(JB _ _ HX.out).mono ?_);rintro e w' ⟨rfl,rfl⟩)|((with_reducible refine(jg _ _ HX.out).mono ?_);rintro e w' ⟨rfl,rfl⟩)|((with_reducible refine(Qj _ _ HX.out).mono ?_);rintro e w' ⟨rfl,rfl⟩)|((with_reducible refine(jf _ _ HX.out).mono ?_);rintro e w' ⟨rfl,rfl⟩)|((with_reducible refine(QD _ _ HX.out).mono ?_);rintro e w' ⟨rfl,rfl⟩))|(go_at_call 54;refine(signed2_12 _ _ ?_).mono ?_;omega;rintro e w' ⟨rfl,rfl⟩))
   have hw2:∃w2:World,w2=w1.alloc (.cells #[.int .i64 op,.int .i64 (0),.int .i64 (x / 32768%32),.int .i64 (x / 1048576%32),.int .i32 (sgn 2048 (x / 33554432%128*32+x / 128%32))] 82):=⟨_,rfl⟩
   obtain⟨w2,hw2⟩:=hw2
   have hb3:Below w.heap.size w w2:=zV
   obtain⟨ho1,ho2,ho3,ho4,ho5,hof⟩:=HO.out
   have k1:w2.cell? ⟨w.heap.size,0,none⟩=some (.int .i64 0):=by rw[hw2];exact(sI _ _ _ HLT.out).trans ho1
   have k2:w2.cell? ⟨w.heap.size,1,none⟩=some (.int .i64 0):=by rw[hw2];exact(sI _ _ _ HLT.out).trans ho2
   have k3:w2.cell? ⟨w.heap.size,2,none⟩=some (.int .i64 0):=by rw[hw2];exact(sI _ _ _ HLT.out).trans ho3
   have k4:w2.cell? ⟨w.heap.size,3,none⟩=some (.int .i64 0):=by rw[hw2];exact(sI _ _ _ HLT.out).trans ho4
   have k5:w2.cell? ⟨w.heap.size,4,none⟩=some (.int .i32 0):=by rw[hw2];exact(sI _ _ _ HLT.out).trans ho5
   have kf:∀o,w2.frozen? ⟨w.heap.size,o,none⟩=false:=fun o=>by rw[hw2];exact(World.frozen?_of_block (sR w1 _ HLT.out)).trans (hof o)
   have n1:w2.cell? ⟨w1.heap.size,0,none⟩=some (.int .i64 op):=zE
   have n2:w2.cell? ⟨w1.heap.size,1,none⟩=some (.int .i64 (0)):=zE
   have n3:w2.cell? ⟨w1.heap.size,2,none⟩=some (.int .i64 (x / 32768%32)):=zE
   have n4:w2.cell? ⟨w1.heap.size,3,none⟩=some (.int .i64 (x / 1048576%32)):=zE
   have n5:w2.cell? ⟨w1.heap.size,4,none⟩=some (.int .i32 (sgn 2048 (x / 33554432%128*32+x / 128%32))):=zE
   clear ho1 ho2 ho3 ho4 ho5 hof HO
   rw[←hw2]
   clear hw2
   go_wp2
   exact sP (v:=.tuple #[.agg #[.int .i64 op,.int .i64 (0),.int .i64 (x / 32768%32),.int .i64 (x / 1048576%32),.int .i32 (sgn 2048 (x / 33554432%128*32+x / 128%32))],.bool true]) yI rfl ⟨by rw[HD.out];rfl,hb3.trans Fb.blw⟩
 · have hb2:Below w.heap.size w w1:=Below.trans (Below.alloc br (sO _) _) (hb1.mono zG)
   have hlt1:w.heap.size<w1.heap.size:=om
   have hne:w.heap.size≠w1.heap.size:=om
   have HO:=lI (And.intro ho1 (And.intro ho2 (And.intro ho3 (And.intro ho4 (And.intro ho5 hof)))))
   have HB2:=lI hb2
   have HLT:=lI hlt1
   clear hblk hb1 ho1 ho2 ho3 ho4 ho5 hof hb2 hz1 hne hlt1
   go_upto_region 42 with(first|(go_at_call 52;first|((with_reducible refine(JB _ _ HX.out).mono ?_);rintro e w' ⟨rfl,rfl⟩)|((with_reducible refine(jg _ _ HX.out).mono ?_);rintro e w' ⟨rfl,rfl⟩)|((with_reducible refine(Qj _ _ HX.out).mono ?_);rintro e w' ⟨rfl,rfl⟩)|((with_reducible refine(jf _ _ HX.out).mono ?_);rintro e w' ⟨rfl,rfl⟩)))
   have hw2:∃w2:World,w2=w1.alloc (.cells #[.int .i64 op,.int .i64 (x / 128%32),.int .i64 (x / 32768%32),.int .i64 (x / 1048576%32),.int .i32 (0)] 82):=⟨_,rfl⟩
   obtain⟨w2,hw2⟩:=hw2
   have hb3:Below w.heap.size w w2:=zV
   obtain⟨ho1,ho2,ho3,ho4,ho5,hof⟩:=HO.out
   have k1:w2.cell? ⟨w.heap.size,0,none⟩=some (.int .i64 0):=by rw[hw2];exact(sI _ _ _ HLT.out).trans ho1
   have k2:w2.cell? ⟨w.heap.size,1,none⟩=some (.int .i64 0):=by rw[hw2];exact(sI _ _ _ HLT.out).trans ho2
   have k3:w2.cell? ⟨w.heap.size,2,none⟩=some (.int .i64 0):=by rw[hw2];exact(sI _ _ _ HLT.out).trans ho3
   have k4:w2.cell? ⟨w.heap.size,3,none⟩=some (.int .i64 0):=by rw[hw2];exact(sI _ _ _ HLT.out).trans ho4
   have k5:w2.cell? ⟨w.heap.size,4,none⟩=some (.int .i32 0):=by rw[hw2];exact(sI _ _ _ HLT.out).trans ho5
   have kf:∀o,w2.frozen? ⟨w.heap.size,o,none⟩=false:=fun o=>by rw[hw2];exact(World.frozen?_of_block (sR w1 _ HLT.out)).trans (hof o)
   have n1:w2.cell? ⟨w1.heap.size,0,none⟩=some (.int .i64 op):=zE
   have n2:w2.cell? ⟨w1.heap.size,1,none⟩=some (.int .i64 (x / 128%32)):=zE
   have n3:w2.cell? ⟨w1.heap.size,2,none⟩=some (.int .i64 (x / 32768%32)):=zE
   have n4:w2.cell? ⟨w1.heap.size,3,none⟩=some (.int .i64 (x / 1048576%32)):=zE
   have n5:w2.cell? ⟨w1.heap.size,4,none⟩=some (.int .i32 (0)):=zE
   clear ho1 ho2 ho3 ho4 ho5 hof HO
   rw[←hw2]
   clear hw2
   go_wp2
   exact sP (v:=.tuple #[.agg #[.int .i64 op,.int .i64 (x / 128%32),.int .i64 (x / 32768%32),.int .i64 (x / 1048576%32),.int .i32 (0)],.bool true]) yI rfl ⟨by rw[HD.out];rfl,hb3.trans Fb.blw⟩
 · have hb2:Below w.heap.size w w1:=Below.trans (Below.alloc br (sO _) _) (hb1.mono zG)
   have hlt1:w.heap.size<w1.heap.size:=om
   have hne:w.heap.size≠w1.heap.size:=om
   have HO:=lI (And.intro ho1 (And.intro ho2 (And.intro ho3 (And.intro ho4 (And.intro ho5 hof)))))
   have HB2:=lI hb2
   have HLT:=lI hlt1
   clear hblk hb1 ho1 ho2 ho3 ho4 ho5 hof hb2 hz1 hne hlt1
   go_upto_region 42 with(first|(go_at_call 52;first|((with_reducible refine(JB _ _ HX.out).mono ?_);rintro e w' ⟨rfl,rfl⟩)|((with_reducible refine(jg _ _ HX.out).mono ?_);rintro e w' ⟨rfl,rfl⟩)|((with_reducible refine(Qj _ _ HX.out).mono ?_);rintro e w' ⟨rfl,rfl⟩)|((with_reducible refine(jf _ _ HX.out).mono ?_);rintro e w' ⟨rfl,rfl⟩)|((with_reducible refine(cut2_25_26 _ _ HX.out).mono ?_);rintro e w' ⟨rfl,rfl⟩)))
   have hw2:∃w2:World,w2=w1.alloc (.cells #[.int .i64 op,.int .i64 (x / 128%32),.int .i64 (x / 32768%32),.int .i64 (x / 1048576%32),.int .i32 (x / 33554432%4)] 82):=⟨_,rfl⟩
   obtain⟨w2,hw2⟩:=hw2
   have hb3:Below w.heap.size w w2:=zV
   obtain⟨ho1,ho2,ho3,ho4,ho5,hof⟩:=HO.out
   have k1:w2.cell? ⟨w.heap.size,0,none⟩=some (.int .i64 0):=by rw[hw2];exact(sI _ _ _ HLT.out).trans ho1
   have k2:w2.cell? ⟨w.heap.size,1,none⟩=some (.int .i64 0):=by rw[hw2];exact(sI _ _ _ HLT.out).trans ho2
   have k3:w2.cell? ⟨w.heap.size,2,none⟩=some (.int .i64 0):=by rw[hw2];exact(sI _ _ _ HLT.out).trans ho3
   have k4:w2.cell? ⟨w.heap.size,3,none⟩=some (.int .i64 0):=by rw[hw2];exact(sI _ _ _ HLT.out).trans ho4
   have k5:w2.cell? ⟨w.heap.size,4,none⟩=some (.int .i32 0):=by rw[hw2];exact(sI _ _ _ HLT.out).trans ho5
   have kf:∀o,w2.frozen? ⟨w.heap.size,o,none⟩=false:=fun o=>by rw[hw2];exact(World.frozen?_of_block (sR w1 _ HLT.out)).trans (hof o)
   have n1:w2.cell? ⟨w1.heap.size,0,none⟩=some (.int .i64 op):=zE
   have n2:w2.cell? ⟨w1.heap.size,1,none⟩=some (.int .i64 (x / 128%32)):=zE
   have n3:w2.cell? ⟨w1.heap.size,2,none⟩=some (.int .i64 (x / 32768%32)):=zE
   have n4:w2.cell? ⟨w1.heap.size,3,none⟩=some (.int .i64 (x / 1048576%32)):=zE
   have n5:w2.cell? ⟨w1.heap.size,4,none⟩=some (.int .i32 (x / 33554432%4)):=zE
   clear ho1 ho2 ho3 ho4 ho5 hof HO
   rw[←hw2]
   clear hw2
   go_wp2
   exact sP (v:=.tuple #[.agg #[.int .i64 op,.int .i64 (x / 128%32),.int .i64 (x / 32768%32),.int .i64 (x / 1048576%32),.int .i32 (x / 33554432%4)],.bool true]) yI rfl ⟨by rw[HD.out];rfl,hb3.trans Fb.blw⟩
 · have hb2:Below w.heap.size w w1:=Below.trans (Below.alloc br (sO _) _) (hb1.mono zG)
   have hlt1:w.heap.size<w1.heap.size:=om
   have hne:w.heap.size≠w1.heap.size:=om
   have HO:=lI (And.intro ho1 (And.intro ho2 (And.intro ho3 (And.intro ho4 (And.intro ho5 hof)))))
   have HB2:=lI hb2
   have HLT:=lI hlt1
   clear hblk hb1 ho1 ho2 ho3 ho4 ho5 hof hb2 hz1 hne hlt1
   go_upto_region 6 with(first|(go_at_call 52;first|((with_reducible refine(JB _ _ HX.out).mono ?_);rintro e w' ⟨rfl,rfl⟩)|((with_reducible refine(jg _ _ HX.out).mono ?_);rintro e w' ⟨rfl,rfl⟩)|((with_reducible refine(Qj _ _ HX.out).mono ?_);rintro e w' ⟨rfl,rfl⟩)|((with_reducible refine(jf _ _ HX.out).mono ?_);rintro e w' ⟨rfl,rfl⟩)))
   have hw2:∃w2:World,w2=w1.alloc (.cells #[.int .i64 op,.int .i64 (0),.int .i64 (0),.int .i64 (0),.int .i32 (0)] 82):=⟨_,rfl⟩
   obtain⟨w2,hw2⟩:=hw2
   have hb3:Below w.heap.size w w2:=zV
   obtain⟨ho1,ho2,ho3,ho4,ho5,hof⟩:=HO.out
   have k1:w2.cell? ⟨w.heap.size,0,none⟩=some (.int .i64 0):=by rw[hw2];exact(sI _ _ _ HLT.out).trans ho1
   have k2:w2.cell? ⟨w.heap.size,1,none⟩=some (.int .i64 0):=by rw[hw2];exact(sI _ _ _ HLT.out).trans ho2
   have k3:w2.cell? ⟨w.heap.size,2,none⟩=some (.int .i64 0):=by rw[hw2];exact(sI _ _ _ HLT.out).trans ho3
   have k4:w2.cell? ⟨w.heap.size,3,none⟩=some (.int .i64 0):=by rw[hw2];exact(sI _ _ _ HLT.out).trans ho4
   have k5:w2.cell? ⟨w.heap.size,4,none⟩=some (.int .i32 0):=by rw[hw2];exact(sI _ _ _ HLT.out).trans ho5
   have kf:∀o,w2.frozen? ⟨w.heap.size,o,none⟩=false:=fun o=>by rw[hw2];exact(World.frozen?_of_block (sR w1 _ HLT.out)).trans (hof o)
   have n1:w2.cell? ⟨w1.heap.size,0,none⟩=some (.int .i64 op):=zE
   have n2:w2.cell? ⟨w1.heap.size,1,none⟩=some (.int .i64 (0)):=zE
   have n3:w2.cell? ⟨w1.heap.size,2,none⟩=some (.int .i64 (0)):=zE
   have n4:w2.cell? ⟨w1.heap.size,3,none⟩=some (.int .i64 (0)):=zE
   have n5:w2.cell? ⟨w1.heap.size,4,none⟩=some (.int .i32 (0)):=zE
   clear ho1 ho2 ho3 ho4 ho5 hof HO
   rw[←hw2]
   clear hw2
   go_wp2
   exact sP (v:=.tuple #[.agg #[.int .i64 op,.int .i64 (0),.int .i64 (0),.int .i64 (0),.int .i32 (0)],.bool true]) yI rfl ⟨by rw[HD.out];rfl,hb3.trans Fb.blw⟩
 · have hb2:Below w.heap.size w w1:=Below.trans (Below.alloc br (sO _) _) (hb1.mono zG)
   have hlt1:w.heap.size<w1.heap.size:=om
   have hne:w.heap.size≠w1.heap.size:=om
   go_wp2_with fail
   exact sP (v:=.tuple #[.agg #[.int .i64 0,.int .i64 0,.int .i64 0,.int .i64 0,.int .i32 0],.bool false]) (by simp[results,Tryz.results29,go_sem,ho1,ho2,ho3,ho4,ho5]) rfl ⟨by rw[HD.out];rfl,hb2.trans Fb.blw⟩
abbrev decode2_1:=Qt.1
abbrev decode2_2:=Qt.2.1
abbrev decode2_3:=Qt.2.2.1
abbrev decode2_4:=Qt.2.2.2.1
abbrev decode2_5:=Qt.2.2.2.2.1
abbrev decode2_6:=Qt.2.2.2.2.2.1
abbrev decode2_7:=Qt.2.2.2.2.2.2.1
abbrev decode2_8:=Qt.2.2.2.2.2.2.2.1
abbrev decode2_no:=Qt.2.2.2.2.2.2.2.2
theorem uS(x:Int)(w:World)(hx:U32 x):
    Calls Tryz.prog 29 #[.int .u32 x] w fun e w'=>e=.returned (.tuple #[.agg (ql ((dec x).getD i0)),.bool (dec x).isSome])∧Below w.heap.size w w':=by
  rcases dec_forms x hx with⟨h1,h2⟩|⟨op,f,h1,h2,h3,h4⟩
  · exact decode2_no (qZ x).1 (qZ x).2 x w hx (lI rfl) (lI h2) h1
  · have hc:f=0∨f=1∨f=2∨f=3∨f=4∨f=5∨f=6∨f=7∨f=8:=om
    rcases hc with rfl|rfl|rfl|rfl|rfl|rfl|rfl|rfl|rfl
    · exact decode2_0 op x w hx (lI h1) (lI h4) h2.1
    · exact decode2_1 op x w hx (lI h1) (lI h4) h2.1
    · exact decode2_2 op x w hx (lI h1) (lI h4) h2.1
    · exact decode2_3 op x w hx (lI h1) (lI h4) h2.1
    · exact decode2_4 op x w hx (lI h1) (lI h4) h2.1
    · exact decode2_5 op x w hx (lI h1) (lI h4) h2.1
    · exact decode2_6 op x w hx (lI h1) (lI h4) h2.1
    · exact decode2_7 op x w hx (lI h1) (lI h4) h2.1
    · exact decode2_8 op x w hx (lI h1) (lI h4) h2.1
end Go.Proofs.YtlfnddmncbkjaacGreat.W
