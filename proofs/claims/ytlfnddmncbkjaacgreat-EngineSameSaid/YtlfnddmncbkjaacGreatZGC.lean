import Derived.Test.YtlfnddmncbkjaacGreatZGB
set_option linter.unusedVariables false
set_option linter.unusedSimpArgs false
set_option maxRecDepth 100000
set_option maxHeartbeats 4000000
namespace Go.Proofs.YtlfnddmncbkjaacGreat.W
open Go.RowKit Fb
theorem QY(n:Int)(w:World)(h: -9223372036854775808≤n∧n≤9223372036854775807):
    Calls Tryz.prog 30 #[.int .i64 n] w fun e w'=>e=.returned (.int .u32 (n%4294967296))∧w=w':=by
  by_cases hn:0≤n
  all_goals
    go_enter Tryz.func30,Tryz.ntmps30
    go_wp2
    all_goals go_ret
    all_goals refine⟨qR ?_,rfl⟩
    all_goals first
      |rfl
      |(have hq:=Int.tmod_def n 4294967296;unfold wrap64;omega)
      |(have hq:=Int.tmod_def n 4294967296;omega)
theorem Jh(op:Int)(w:World):
    Calls Tryz.prog 49 #[.int .i64 op,.bool false] w fun e w'=>e=.returned (.int .i64 (lsize op))∧w=w':=by
  go_enter Tryz.func49,Tryz.ntmps49
  go_wp2
  all_goals go_ret
  all_goals refine⟨qR ?_,rfl⟩
  all_goals simp_all [lsize,loads,qM]
  all_goals omega
theorem Jo(op:Int)(w:World):
    Calls Tryz.prog 49 #[.int .i64 op,.bool true] w fun e w'=>e=.returned (.int .i64 (ssize op))∧w=w':=by
  go_enter Tryz.func49,Tryz.ntmps49
  go_wp2
  all_goals go_ret
  all_goals refine⟨qR ?_,rfl⟩
  all_goals simp_all [ssize,stores,qM]
  all_goals omega
theorem jT(ao:Option Addr)(n c:Nat)(at_ many:Int)(w:World)(hn:n≤maxLen)(ha:U32 at_)(hm:U32 many):
    Calls Tryz.prog 50 #[.slice ao n c,.int .u32 at_,.int .i64 many] w fun e w'=>e=.returned (.bool (there n at_ many))∧w=w':=by
  unfold maxLen at hn
  unfold U32 at ha hm
  go_enter Tryz.func50,Tryz.ntmps50
  go_wp2
  all_goals go_ret
  all_goals refine⟨QS ?_,rfl⟩
  all_goals simp[there, *]
  all_goals omega
theorem load3_no(ao:Option Addr)(n c:Nat)(op at_:Int)(w:World)(hn:n≤maxLen)(ha:U32 at_)(h:(loads op&&there n at_ (qM op))=false):
    Calls Tryz.prog 27 #[.slice ao n c,.int .i64 op,.int .u32 at_] w fun e w'=>e=.returned (.tuple #[.int .u32 0,.bool false])∧w=w':=by
  have hm:U32 (lsize op):=by unfold U32 lsize qM;repeat' split<;>omega
  have ht:there n at_ (lsize op)=false:=by
    unfold lsize
    by_cases hl:loads op=true
    · rw[if_pos hl];simpa[hl]using h
    · rw[if_neg hl];simp[there]
  clear h
  go_enter Tryz.func27,Tryz.ntmps27
  go_wp2_with (first|(go_at_call 49;refine(Jh _ _).mono ?_;rintro e w' ⟨rfl,rfl⟩)|(go_at_call 50;refine(jT _ _ _ _ _ _ hn ha hm).mono ?_;rintro e w' ⟨rfl,rfl⟩))
  go_ret2
  exact⟨rfl,rfl⟩
theorem load3_yes(b off c:Nat)(l:List Int)(op at_:Int)(w:World)(hn:l.length≤maxLen)(ha:U32 at_)(h:qN l op at_=true)
    (hc:∀i,i<l.length→w.cell? ⟨b,off+i,none⟩=some (.int .u8 (l.getD i 0))) (hb:∀i,0≤l.getD i 0∧l.getD i 0<256):
    Calls Tryz.prog 27 #[.slice (some ⟨b,off,none⟩) l.length c,.int .i64 op,.int .u32 at_] w fun e w'=>e=.returned (.tuple #[.int .u32 (qa l op at_),.bool true])∧w=w':=by
  have hm:U32 (qM op):=xK
  have ht:there l.length at_ (qM op)=true:=by simp[qN]at h;exact h.2
  have hop:op=11∨op=12∨op=13∨op=14∨op=15:=by simp[qN,loads]at h;omega
  have hat:at_.toNat+(qM op).toNat≤l.length:=by
    simp[there]at ht;unfold U32 at ha;omega
  have haf:at_+qM op≤4294967296:=by
    simp[there]at ht
    unfold U32 at ha
    rcases hop with rfl|rfl|rfl|rfl|rfl<;>simp[qM]at ht ⊢ <;>omega
  obtain⟨k,rfl⟩:=sS ha.1
  have HA:=lI ha
  have HM:=lI hm
  have HT:=lI ht
  have HN:=lI hn
  clear ha hm hn
  rcases hop with rfl|rfl|rfl|rfl|rfl
  · have H:=lI h
    have ht1:there l.length k 1=true:=HT.out
    have HM1:Hid (U32 1):=HM
    have hk0:k+1≤l.length:=xI
    have hk1:k+1≤4294967296:=yW
    have c0:=hc (k) om
    have b0:=hb (k)
    obtain⟨x0,hx0⟩:∃x,x=l.getD (k) 0:=⟨_,rfl⟩
    rw[←hx0]at c0 b0
    have X0:=lI hx0
    clear hx0
    clear hc hb h hat haf ht
    go_enter Tryz.func27,Tryz.ntmps27
    go_wp2_with (first|(go_at_call 49;refine(Jh _ _).mono ?_;rintro e w' ⟨rfl,rfl⟩;rw[show lsize 11=1 from rfl])|(go_at_call 50;refine(jT _ _ _ _ _ _ HN.out HA.out HM1.out).mono ?_;rintro e w' ⟨rfl,rfl⟩))
    go_rounds 2
    all_goals go_wp2_with (go_at_call 30;refine(QY _ _ om).mono ?_;rintro e w' ⟨rfl,rfl⟩)
    all_goals go_ret2
    all_goals refine⟨congrArg (fun x=>Ending.returned (Value.tuple #[.int .u32 x,.bool true])) (?_:_=qa l 11 k),rfl⟩
    all_goals rw[mLoad_11 H.out,←X0.out]
    all_goals first
      |omega
      |(rw[ja];omega)
      |(rw[jA];omega)
      |(have hq:=Int.tmod_def (x0-256) 4294967296;rw[ja];unfold wrap64;omega)
      |(have hq:=Int.tmod_def (x0-256) 4294967296;rw[ja];omega)
      |(have hq:=Int.tmod_def (x0+x1*256-65536) 4294967296;rw[jA];unfold wrap64;omega)
      |(have hq:=Int.tmod_def (x0+x1*256-65536) 4294967296;rw[jA];omega)
  · have H:=lI h
    have ht1:there l.length k 2=true:=HT.out
    have HM1:Hid (U32 2):=HM
    have hk0:k+2≤l.length:=xI
    have hk1:k+2≤4294967296:=yW
    have c0:=hc (k) om
    have b0:=hb (k)
    obtain⟨x0,hx0⟩:∃x,x=l.getD (k) 0:=⟨_,rfl⟩
    rw[←hx0]at c0 b0
    have X0:=lI hx0
    clear hx0
    have c1:=hc (k+1) om
    have b1:=hb (k+1)
    obtain⟨x1,hx1⟩:∃x,x=l.getD (k+1) 0:=⟨_,rfl⟩
    rw[←hx1]at c1 b1
    have X1:=lI hx1
    clear hx1
    clear hc hb h hat haf ht
    go_enter Tryz.func27,Tryz.ntmps27
    go_wp2_with (first|(go_at_call 49;refine(Jh _ _).mono ?_;rintro e w' ⟨rfl,rfl⟩;rw[show lsize 12=2 from rfl])|(go_at_call 50;refine(jT _ _ _ _ _ _ HN.out HA.out HM1.out).mono ?_;rintro e w' ⟨rfl,rfl⟩))
    go_rounds 3
    all_goals go_wp2_with (go_at_call 30;refine(QY _ _ om).mono ?_;rintro e w' ⟨rfl,rfl⟩)
    all_goals go_ret2
    all_goals refine⟨congrArg (fun x=>Ending.returned (Value.tuple #[.int .u32 x,.bool true])) (?_:_=qa l 12 k),rfl⟩
    all_goals rw[mLoad_12 H.out,←X0.out,←X1.out]
    all_goals first
      |omega
      |(rw[ja];omega)
      |(rw[jA];omega)
      |(have hq:=Int.tmod_def (x0-256) 4294967296;rw[ja];unfold wrap64;omega)
      |(have hq:=Int.tmod_def (x0-256) 4294967296;rw[ja];omega)
      |(have hq:=Int.tmod_def (x0+x1*256-65536) 4294967296;rw[jA];unfold wrap64;omega)
      |(have hq:=Int.tmod_def (x0+x1*256-65536) 4294967296;rw[jA];omega)
  · have H:=lI h
    have ht1:there l.length k 4=true:=HT.out
    have HM1:Hid (U32 4):=HM
    have hk0:k+4≤l.length:=xI
    have hk1:k+4≤4294967296:=yW
    have c0:=hc (k) om
    have b0:=hb (k)
    obtain⟨x0,hx0⟩:∃x,x=l.getD (k) 0:=⟨_,rfl⟩
    rw[←hx0]at c0 b0
    have X0:=lI hx0
    clear hx0
    have c1:=hc (k+1) om
    have b1:=hb (k+1)
    obtain⟨x1,hx1⟩:∃x,x=l.getD (k+1) 0:=⟨_,rfl⟩
    rw[←hx1]at c1 b1
    have X1:=lI hx1
    clear hx1
    have c2:=hc (k+2) om
    have b2:=hb (k+2)
    obtain⟨x2,hx2⟩:∃x,x=l.getD (k+2) 0:=⟨_,rfl⟩
    rw[←hx2]at c2 b2
    have X2:=lI hx2
    clear hx2
    have c3:=hc (k+3) om
    have b3:=hb (k+3)
    obtain⟨x3,hx3⟩:∃x,x=l.getD (k+3) 0:=⟨_,rfl⟩
    rw[←hx3]at c3 b3
    have X3:=lI hx3
    clear hx3
    clear hc hb h hat haf ht
    go_enter Tryz.func27,Tryz.ntmps27
    go_wp2_with (first|(go_at_call 49;refine(Jh _ _).mono ?_;rintro e w' ⟨rfl,rfl⟩;rw[show lsize 13=4 from rfl])|(go_at_call 50;refine(jT _ _ _ _ _ _ HN.out HA.out HM1.out).mono ?_;rintro e w' ⟨rfl,rfl⟩))
    go_rounds 5
    all_goals go_wp2_with (go_at_call 30;refine(QY _ _ om).mono ?_;rintro e w' ⟨rfl,rfl⟩)
    all_goals go_ret2
    all_goals refine⟨congrArg (fun x=>Ending.returned (Value.tuple #[.int .u32 x,.bool true])) (?_:_=qa l 13 k),rfl⟩
    all_goals rw[uo H.out,←X0.out,←X1.out,←X2.out,←X3.out]
    all_goals first
      |omega
      |(rw[ja];omega)
      |(rw[jA];omega)
      |(have hq:=Int.tmod_def (x0-256) 4294967296;rw[ja];unfold wrap64;omega)
      |(have hq:=Int.tmod_def (x0-256) 4294967296;rw[ja];omega)
      |(have hq:=Int.tmod_def (x0+x1*256-65536) 4294967296;rw[jA];unfold wrap64;omega)
      |(have hq:=Int.tmod_def (x0+x1*256-65536) 4294967296;rw[jA];omega)
  · have H:=lI h
    have ht1:there l.length k 1=true:=HT.out
    have HM1:Hid (U32 1):=HM
    have hk0:k+1≤l.length:=xI
    have hk1:k+1≤4294967296:=yW
    have c0:=hc (k) om
    have b0:=hb (k)
    obtain⟨x0,hx0⟩:∃x,x=l.getD (k) 0:=⟨_,rfl⟩
    rw[←hx0]at c0 b0
    have X0:=lI hx0
    clear hx0
    clear hc hb h hat haf ht
    go_enter Tryz.func27,Tryz.ntmps27
    go_wp2_with (first|(go_at_call 49;refine(Jh _ _).mono ?_;rintro e w' ⟨rfl,rfl⟩;rw[show lsize 14=1 from rfl])|(go_at_call 50;refine(jT _ _ _ _ _ _ HN.out HA.out HM1.out).mono ?_;rintro e w' ⟨rfl,rfl⟩))
    go_rounds 2
    all_goals go_wp2_with (go_at_call 30;refine(QY _ _ om).mono ?_;rintro e w' ⟨rfl,rfl⟩)
    all_goals go_ret2
    all_goals refine⟨congrArg (fun x=>Ending.returned (Value.tuple #[.int .u32 x,.bool true])) (?_:_=qa l 14 k),rfl⟩
    all_goals rw[mLoad_14 H.out,←X0.out]
    all_goals first
      |omega
      |(rw[ja];omega)
      |(rw[jA];omega)
      |(have hq:=Int.tmod_def (x0-256) 4294967296;rw[ja];unfold wrap64;omega)
      |(have hq:=Int.tmod_def (x0-256) 4294967296;rw[ja];omega)
      |(have hq:=Int.tmod_def (x0+x1*256-65536) 4294967296;rw[jA];unfold wrap64;omega)
      |(have hq:=Int.tmod_def (x0+x1*256-65536) 4294967296;rw[jA];omega)
  · have H:=lI h
    have ht1:there l.length k 2=true:=HT.out
    have HM1:Hid (U32 2):=HM
    have hk0:k+2≤l.length:=xI
    have hk1:k+2≤4294967296:=yW
    have c0:=hc (k) om
    have b0:=hb (k)
    obtain⟨x0,hx0⟩:∃x,x=l.getD (k) 0:=⟨_,rfl⟩
    rw[←hx0]at c0 b0
    have X0:=lI hx0
    clear hx0
    have c1:=hc (k+1) om
    have b1:=hb (k+1)
    obtain⟨x1,hx1⟩:∃x,x=l.getD (k+1) 0:=⟨_,rfl⟩
    rw[←hx1]at c1 b1
    have X1:=lI hx1
    clear hx1
    clear hc hb h hat haf ht
    go_enter Tryz.func27,Tryz.ntmps27
    go_wp2_with (first|(go_at_call 49;refine(Jh _ _).mono ?_;rintro e w' ⟨rfl,rfl⟩;rw[show lsize 15=2 from rfl])|(go_at_call 50;refine(jT _ _ _ _ _ _ HN.out HA.out HM1.out).mono ?_;rintro e w' ⟨rfl,rfl⟩))
    go_rounds 3
    all_goals go_wp2_with (go_at_call 30;refine(QY _ _ om).mono ?_;rintro e w' ⟨rfl,rfl⟩)
    all_goals go_ret2
    all_goals refine⟨congrArg (fun x=>Ending.returned (Value.tuple #[.int .u32 x,.bool true])) (?_:_=qa l 15 k),rfl⟩
    all_goals rw[mLoad_15 H.out,←X0.out,←X1.out]
    all_goals first
      |omega
      |(rw[ja];omega)
      |(rw[jA];omega)
      |(have hq:=Int.tmod_def (x0-256) 4294967296;rw[ja];unfold wrap64;omega)
      |(have hq:=Int.tmod_def (x0-256) 4294967296;rw[ja];omega)
      |(have hq:=Int.tmod_def (x0+x1*256-65536) 4294967296;rw[jA];unfold wrap64;omega)
      |(have hq:=Int.tmod_def (x0+x1*256-65536) 4294967296;rw[jA];omega)
theorem Qy(v:Value)(l:List Int)(op at_:Int)(w:World)(hv:Ints .u8 w v l)(ha:U32 at_)(hb:∀i,0≤l.getD i 0∧l.getD i 0<256):
    Calls Tryz.prog 27 #[v,.int .i64 op,.int .u32 at_] w fun e w'=>e=.returned (.tuple #[.int .u32 (qa l op at_),.bool (qN l op at_)])∧w=w':=by
  obtain⟨ao,cap,rfl,hc,hm,_,ho⟩:=hv.open
  by_cases h:qN l op at_=true
  · have hne:l≠[]:=by
      rintro rfl
      simp[qN,there]at h
      have:=ha.1;omega
    obtain⟨b,off,rfl,_,hcell⟩:=ho hne
    rw[h]
    exact load3_yes b off cap l op at_ w om ha h hcell hb
  · have h':qN l op at_=false:=by simpa using h
    rw[h',show qa l op at_=0 from by unfold qa;rw[if_neg h]]
    exact load3_no ao l.length cap op at_ w om ha h'
theorem info3_bytes:(Tryz.prog.info? 5).map (fun i=>(i.zero,i.size,i.bytes))=some (some (.int .u8 0),1,1):=by kernel_rfl
theorem store3_yes(v:Value)(l:List Int)(op:Int)(k:Nat)(x:Int)(w:World)(hv:Ints .u8 w v l)(ha:U32 k)(hx:U32 x)(h:qU l op k=true)(hr:l.length≤140737488355328):
    Calls Tryz.prog 55 #[v,.int .i64 op,.int .u32 k,.int .u32 x] w fun e w'=>
      (∃v',e=.returned (.tuple #[v',.bool true])∧Ints .u8 w' v' (qn l op k x)∧∀q,v'.ownBlock=some q→w.heap.size≤q)∧Below w.heap.size w w':=by
  obtain⟨i0,hi,hz0,hz1,hz2⟩:=info_parts info3_bytes
  have hm:U32 (qM op):=xK
  have ht:there l.length k (qM op)=true:=by simp[qU]at h;exact h.2
  have hop:op=16∨op=17∨op=18:=by simp[qU,stores]at h;omega
  have hat:k+(qM op).toNat≤l.length:=by
    simp[there]at ht;unfold U32 at ha;omega
  have haf:k+qM op≤4294967296:=by
    simp[there]at ht
    unfold U32 at ha
    rcases hop with rfl|rfl|rfl<;>simp[qM]at ht ⊢ <;>omega
  have hpos:0<l.length:=by rcases hop with rfl|rfl|rfl<;>simp[qM]at hat<;>omega
  obtain⟨ao,cv,rfl,hnc,hcm,_,ho⟩:=hv.open
  have hn:l.length≤maxLen:=om
  have HA:=lI ha
  have HM:=lI hm
  have HT:=lI ht
  have HN:=lI hn
  have HV:=lI hv
  have HH:=lI h
  have hx0:=hx.1
  have hx1:=hx.2
  clear ha hm hn hv ho hcm
  rcases hop with rfl|rfl|rfl
  · have hk0:k+1≤l.length:=by simpa[qM]using hat
    have hk1:k+1≤4294967296:=yW
    have ht1:there l.length k 1=true:=HT.out
    have HM1:Hid (U32 1):=HM
    clear h hat haf ht
    go_enter Tryz.func55,Tryz.ntmps55
    go_wp2_with (first|(go_at_call 49;refine(Jo _ _).mono ?_;rintro e w' ⟨rfl,rfl⟩;rw[show ssize 16=1 from rfl])|(go_at_call 50;refine(jT _ _ _ _ _ _ HN.out HA.out HM1.out).mono ?_;rintro e w' ⟨rfl,rfl⟩)|(at_builtin;refine jv rfl _ _ 22 rfl w.heap.size 5 i0 (.int .u8 0) 1 1 Tryz.underlying22 hi hz0 hz1 hz2 rfl zL _ 0 [] rfl (jm _ _ _ _ (sO _)) _ l.length (l.map (Value.int .u8)) rfl ?_ ?_ ?_ ?_ ?_ ?_))
    rotate_right
    · intro v' w1 hown hgrow
      try simp only[sM,List.nil_append]at hown
      have hb:Below w.heap.size w w1:=(Below.alloc br (sO _) _).grown hgrow zG xE
      have HB:=lI hb
      rcases jy hown with⟨_,h0,_⟩|⟨g,cap,rfl,hB,hg,hn,hm,hat,hf⟩
      · omega
      have HAT:=lI hat
      have HM:=lI hm
      clear hm hown hgrow hb
      have c0:=hat (k) zB
      have f0:=hf (k)
      simp only[sM]at c0
      clear hat hf
      go_wp2_with fail
      go_rounds 2
      go_ret2
      have hat2:=putW_at HAT.out k x 1 om
      have hb2:=UJ w1 g 0 k x hB 1
      have e2:qn l 16 k x=lay l k x 1:=by unfold qn;rw[if_pos HH.out];rfl
      have hl2:(lay l k x 1).length=l.length:=jr _ _ _ _
      rw[e2]
      simp[putW]at hat2 hb2
      refine⟨⟨_,rfl,Ints.mk ?_ hl2.symm hn HM.out,fun q e=>(show g=q by simpa[Value.ownBlock]using e) ▸ (by have:=hB;have:=HB.out.size;simp at *;omega:w.heap.size≤g)⟩,HB.out.trans ?_⟩
      · first|exact hat2|(rw[show x / 16777216%256=x / 16777216 from by omega]at hat2;exact hat2)
      · first|exact hb2|(rw[show x / 16777216%256=x / 16777216 from by omega]at hb2;exact hb2)
    all_goals first|(simp;done)|omega|(unfold maxLen;omega)|skip
    · exact HV.out.below ((Below.alloc br (sO _) _))
    · intro u hu;obtain⟨a,_,rfl⟩:=List.mem_map.1 hu;rfl
  · have hk0:k+2≤l.length:=by simpa[qM]using hat
    have hk1:k+2≤4294967296:=yW
    have ht1:there l.length k 2=true:=HT.out
    have HM1:Hid (U32 2):=HM
    clear h hat haf ht
    go_enter Tryz.func55,Tryz.ntmps55
    go_wp2_with (first|(go_at_call 49;refine(Jo _ _).mono ?_;rintro e w' ⟨rfl,rfl⟩;rw[show ssize 17=2 from rfl])|(go_at_call 50;refine(jT _ _ _ _ _ _ HN.out HA.out HM1.out).mono ?_;rintro e w' ⟨rfl,rfl⟩)|(at_builtin;refine jv rfl _ _ 22 rfl w.heap.size 5 i0 (.int .u8 0) 1 1 Tryz.underlying22 hi hz0 hz1 hz2 rfl zL _ 0 [] rfl (jm _ _ _ _ (sO _)) _ l.length (l.map (Value.int .u8)) rfl ?_ ?_ ?_ ?_ ?_ ?_))
    rotate_right
    · intro v' w1 hown hgrow
      try simp only[sM,List.nil_append]at hown
      have hb:Below w.heap.size w w1:=(Below.alloc br (sO _) _).grown hgrow zG xE
      have HB:=lI hb
      rcases jy hown with⟨_,h0,_⟩|⟨g,cap,rfl,hB,hg,hn,hm,hat,hf⟩
      · omega
      have HAT:=lI hat
      have HM:=lI hm
      clear hm hown hgrow hb
      have c0:=hat (k) zB
      have f0:=hf (k)
      simp only[sM]at c0
      have c1:=hat (k+1) zB
      have f1:=hf (k+1)
      simp only[sM]at c1
      clear hat hf
      go_wp2_with fail
      go_rounds 3
      go_ret2
      have hat2:=putW_at HAT.out k x 2 om
      have hb2:=UJ w1 g 0 k x hB 2
      have e2:qn l 17 k x=lay l k x 2:=by unfold qn;rw[if_pos HH.out];rfl
      have hl2:(lay l k x 2).length=l.length:=jr _ _ _ _
      rw[e2]
      simp[putW]at hat2 hb2
      refine⟨⟨_,rfl,Ints.mk ?_ hl2.symm hn HM.out,fun q e=>(show g=q by simpa[Value.ownBlock]using e) ▸ (by have:=hB;have:=HB.out.size;simp at *;omega:w.heap.size≤g)⟩,HB.out.trans ?_⟩
      · first|exact hat2|(rw[show x / 16777216%256=x / 16777216 from by omega]at hat2;exact hat2)
      · first|exact hb2|(rw[show x / 16777216%256=x / 16777216 from by omega]at hb2;exact hb2)
    all_goals first|(simp;done)|omega|(unfold maxLen;omega)|skip
    · exact HV.out.below ((Below.alloc br (sO _) _))
    · intro u hu;obtain⟨a,_,rfl⟩:=List.mem_map.1 hu;rfl
  · have hk0:k+4≤l.length:=by simpa[qM]using hat
    have hk1:k+4≤4294967296:=yW
    have ht1:there l.length k 4=true:=HT.out
    have HM1:Hid (U32 4):=HM
    clear h hat haf ht
    go_enter Tryz.func55,Tryz.ntmps55
    go_wp2_with (first|(go_at_call 49;refine(Jo _ _).mono ?_;rintro e w' ⟨rfl,rfl⟩;rw[show ssize 18=4 from rfl])|(go_at_call 50;refine(jT _ _ _ _ _ _ HN.out HA.out HM1.out).mono ?_;rintro e w' ⟨rfl,rfl⟩)|(at_builtin;refine jv rfl _ _ 22 rfl w.heap.size 5 i0 (.int .u8 0) 1 1 Tryz.underlying22 hi hz0 hz1 hz2 rfl zL _ 0 [] rfl (jm _ _ _ _ (sO _)) _ l.length (l.map (Value.int .u8)) rfl ?_ ?_ ?_ ?_ ?_ ?_))
    rotate_right
    · intro v' w1 hown hgrow
      try simp only[sM,List.nil_append]at hown
      have hb:Below w.heap.size w w1:=(Below.alloc br (sO _) _).grown hgrow zG xE
      have HB:=lI hb
      rcases jy hown with⟨_,h0,_⟩|⟨g,cap,rfl,hB,hg,hn,hm,hat,hf⟩
      · omega
      have HAT:=lI hat
      have HM:=lI hm
      clear hm hown hgrow hb
      have c0:=hat (k) zB
      have f0:=hf (k)
      simp only[sM]at c0
      have c1:=hat (k+1) zB
      have f1:=hf (k+1)
      simp only[sM]at c1
      have c2:=hat (k+2) zB
      have f2:=hf (k+2)
      simp only[sM]at c2
      have c3:=hat (k+3) zB
      have f3:=hf (k+3)
      simp only[sM]at c3
      clear hat hf
      go_wp2_with fail
      go_rounds 5
      go_ret2
      have hat2:=putW_at HAT.out k x 4 om
      have hb2:=UJ w1 g 0 k x hB 4
      have e2:qn l 18 k x=lay l k x 4:=by unfold qn;rw[if_pos HH.out];rfl
      have hl2:(lay l k x 4).length=l.length:=jr _ _ _ _
      rw[e2]
      simp[putW]at hat2 hb2
      refine⟨⟨_,rfl,Ints.mk ?_ hl2.symm hn HM.out,fun q e=>(show g=q by simpa[Value.ownBlock]using e) ▸ (by have:=hB;have:=HB.out.size;simp at *;omega:w.heap.size≤g)⟩,HB.out.trans ?_⟩
      · (rw[show x / 256 / 256 / 256%256=x / 16777216%256 from om,show x / 256 / 256%256=x / 65536%256 from by omega];first|exact hat2|(rw[show x / 16777216%256=x / 16777216 from by omega];exact hat2))
      · (rw[show x / 256 / 256 / 256%256=x / 16777216%256 from om,show x / 256 / 256%256=x / 65536%256 from by omega];first|exact hb2|(rw[show x / 16777216%256=x / 16777216 from by omega];exact hb2))
    all_goals first|(simp;done)|omega|(unfold maxLen;omega)|skip
    · exact HV.out.below ((Below.alloc br (sO _) _))
    · intro u hu;obtain⟨a,_,rfl⟩:=List.mem_map.1 hu;rfl
theorem store3_no(ao:Option Addr)(n c:Nat)(op at_ x:Int)(w:World)(hn:n≤maxLen)(ha:U32 at_)(h:(stores op&&there n at_ (qM op))=false):
    Calls Tryz.prog 55 #[.slice ao n c,.int .i64 op,.int .u32 at_,.int .u32 x] w fun e w'=>e=.returned (.tuple #[.slice none 0 0,.bool false])∧w=w':=by
  have hm:U32 (ssize op):=by unfold U32 ssize qM;repeat' split<;>omega
  have ht:there n at_ (ssize op)=false:=by
    unfold ssize
    by_cases hl:stores op=true
    · rw[if_pos hl];simpa[hl]using h
    · rw[if_neg hl];simp[there]
  clear h
  go_enter Tryz.func55,Tryz.ntmps55
  go_wp2_with (first|(go_at_call 49;refine(Jo _ _).mono ?_;rintro e w' ⟨rfl,rfl⟩)|(go_at_call 50;refine(jT _ _ _ _ _ _ hn ha hm).mono ?_;rintro e w' ⟨rfl,rfl⟩))
  go_ret2
  exact⟨rfl,rfl⟩
theorem store3_any(v:Value)(l:List Int)(op at_ x:Int)(w:World)(hv:Ints .u8 w v l)(ha:U32 at_)(hx:U32 x)(hr:l.length≤140737488355328):
    Calls Tryz.prog 55 #[v,.int .i64 op,.int .u32 at_,.int .u32 x] w fun e w'=>
      (∃v',e=.returned (.tuple #[v',.bool (qU l op at_)])∧Ints .u8 w' v' (if qU l op at_=true then qn l op at_ x else []))∧Below w.heap.size w w':=by
  obtain⟨k,rfl⟩:=sS ha.1
  by_cases h:qU l op k=true
  · rw[if_pos h,h]
    exact(store3_yes v l op k x w hv ha hx h hr).mono fun _ _ ⟨⟨v',h1,h2,_⟩,h3⟩=>⟨⟨v',h1,h2⟩,h3⟩
  · have h':qU l op k=false:=by simpa using h
    rw[if_neg h,h']
    obtain⟨ao,cap,rfl,hc,hm,_,ho⟩:=hv.open
    refine(store3_no ao l.length cap op k x w om ha h').mono ?_
    rintro e w1 ⟨rfl,rfl⟩
    exact⟨⟨_,rfl,Sl.nil _ _⟩,Below.refl _ _⟩
theorem holds1_any(op a b:Int)(w:World)(ha:0≤a)(ha':a<4294967296)(hb:0≤b)(hb':b<4294967296):
    Calls Tryz.prog 33 #[.int .i64 op,.int .u32 a,.int .u32 b] w fun e w'=>e=.returned (.bool (holds op a b))∧w=w':=by
  have HUA:=lI (show U32 a from⟨ha,ha'⟩)
  have HUB:=lI (show U32 b from⟨hb,hb'⟩)
  obtain⟨sa,hsa⟩:∃s,s=wrap32 a:=⟨_,rfl⟩
  obtain⟨sb,hsb⟩:∃s,s=wrap32 b:=⟨_,rfl⟩
  have HSA:=lI hsa
  have HSB:=lI hsb
  clear hsa hsb
  go_enter Tryz.func33,Tryz.ntmps33
  go_wp2_with (first|(go_at_call 53;((with_reducible refine(qc a sa _ HSA HUA).mono ?_);rintro e w' ⟨rfl,rfl⟩))|(go_at_call 53;((with_reducible refine(qc b sb _ HSB HUB).mono ?_);rintro e w' ⟨rfl,rfl⟩)))
  all_goals go_ret
  all_goals refine⟨QS ?_,rfl⟩
  all_goals(unfold holds;rw[←HSA.out,←HSB.out];simp[*])
theorem amo1_any(op a b:Int)(w:World)(ha:0≤a)(ha':a<4294967296)(hb:0≤b)(hb':b<4294967296):
    Calls Tryz.prog 61 #[.int .i64 op,.int .u32 a,.int .u32 b] w fun e w'=>e=.returned (.int .u32 (amo op a b))∧∃n,w'=w.drewN n:=by
  have HUA:=lI (show U32 a from⟨ha,ha'⟩)
  have HUB:=lI (show U32 b from⟨hb,hb'⟩)
  obtain⟨sa,hsa⟩:∃s,s=wrap32 a:=⟨_,rfl⟩
  obtain⟨sb,hsb⟩:∃s,s=wrap32 b:=⟨_,rfl⟩
  have HSA:=lI hsa
  have HSB:=lI hsb
  clear hsa hsb
  go_enter Tryz.func61,Tryz.ntmps61
  go_wp2_with (first|(go_at_call 53;((with_reducible refine(qc a sa _ HSA HUA).mono ?_);rintro e w' ⟨rfl,rfl⟩))|(go_at_call 53;((with_reducible refine(qc b sb _ HSB HUB).mono ?_);rintro e w' ⟨rfl,rfl⟩))|(go_at_call 35;refine(alu1_any _ _ _ _ ha ha' hb hb').mono ?_;rintro e w' ⟨rfl,n,rfl⟩))
  all_goals go_ret
  all_goals refine⟨qR ?_,by first|exact⟨0,rfl⟩|exact⟨_,rfl⟩⟩
  all_goals have WA:=wrap32_back a HUA.out
  all_goals have WB:=wrap32_back b HUB.out
  all_goals have h1:=HSA.out
  all_goals have h2:=HSB.out
  all_goals clear HSA HSB HUA HUB
  all_goals simp only[beq_iff_eq,sH,ne_eq,Bool.not_eq_true',decide_eq_false_iff_not,decide_eq_true_eq,Bool.not_eq_false']at *
  all_goals subst h1 h2
  all_goals first|rfl|(subst_vars;first|rfl|(simp[amo];done)|(simp[amo];omega)|(exfalso;omega))|(simp[amo, *];done)|(simp[amo, *];omega)
end Go.Proofs.YtlfnddmncbkjaacGreat.W
namespace Go.Proofs.YtlfnddmncbkjaacGreat.Fb
open Go.RowKit
def RunD.hold(d:RunD)(b:Bool)(x:Int):RunD:={d with h:=d.h.hold b x}
def RunD.mem(d:RunD)(op a x:Int):RunD:={d with m:=qn d.m op a x}
def RunD.atom(d:RunD)(op:Int)(kd ka kb:Nat):RunD:=
  if qN d.m 13 (d.get ka)=true then
    if op=46 then(d.hold true (d.get ka)).put kd (qa d.m 13 (d.get ka))
    else if op=47 then(if(d.h.held&&d.h.heldAt==d.get ka)=true then(((d.hold false 0).mem 18 (d.get ka) (d.get kb)).stored (d.get ka) 4).put kd 0 else(d.hold false 0).put kd 1)
    else((d.mem 18 (d.get ka) (amo op (qa d.m 13 (d.get ka)) (d.get kb))).stored (d.get ka) 4).put kd (qa d.m 13 (d.get ka))
  else d.trap (if op=46 then 3 else 4)
theorem get_u32{d:RunD}(wf:d.Wf)(k:Nat):U32 (d.get k):=by
  have key:∀(l:List Int) (j:Nat),(∀x∈l,U32 x)→U32 (l.getD j 0):=fun l j hl=>by
    by_cases hj:j<l.length
    · rw[List.getD_eq_getElem?_getD,sZ hj];exact hl _ (sU hj)
    · rw[List.getD_eq_getElem?_getD,List.getElem?_eq_none om];exact JF
  unfold RunD.get;split
  · exact key _ _ wf.h.regs
  · exact key _ _ wf.temps
section
variable {rp : Nat} {TO TS : TypeId} {w : World} {d : RunD} {vm vo vs : Value}
end
end Go.Proofs.YtlfnddmncbkjaacGreat.Fb
namespace Go.Proofs.YtlfnddmncbkjaacGreat.W
open Go.RowKit Fb
end Go.Proofs.YtlfnddmncbkjaacGreat.W
namespace Go.Proofs.YtlfnddmncbkjaacGreat.Fb
open Go.RowKit
def namedK(c s:Int):Int:=
  if c=100 then(if 5≤s∧s≤10 then 14 else -1)
  else if c=200 then(if 11≤s∧s≤15 then 11 else -1)
  else if c=300 then(if 16≤s∧s≤18 then 14 else -1)
  else if c=400 then(if 28≤s∧s≤45 then 7 else -1)
  else if c=500 then(if 28≤s∧s≤45 then 11 else -1)
  else if c=600 then(if 46≤s∧s≤56 then 7 else -1)
  else -1
theorem namedI_k{op:Int}(h:¬(op=1∨op=3)∧¬op=2∧¬op=4∧¬(op=5∨op=6)):jH op=namedK (op-op.tmod 100) (op.tmod 100):=by
  unfold jH namedK
  rw[if_neg h.1,if_neg h.2.1,if_neg h.2.2.1,if_neg h.2.2.2]
end Go.Proofs.YtlfnddmncbkjaacGreat.Fb
namespace Go.Proofs.YtlfnddmncbkjaacGreat.W
open Go.RowKit Fb
end Go.Proofs.YtlfnddmncbkjaacGreat.W
namespace Go.Proofs.YtlfnddmncbkjaacGreat.Fb
open Go.RowKit
def RunD.call(d:RunD):RunD:=
  if d.h.reg 17=0 then {d with over:=true,h:=({d.h with state:=1}:Hart).setPc d.here}
  else if d.h.reg 17=1 then {d with out:=d.out++[d.h.reg 10]}
  else d.trap 5
def RunD.one(d:RunD)(m:MicD)(steps:Int):RunD:=
  if m.op=1 then(if(d.steps==steps||d.own)=true then d.stop m.n else {d with steps:=d.steps+1,here:=m.n})
  else if m.op=2 then d.put m.d.toNat m.n
  else if m.op=3 then d.stop m.n
  else if m.op=4 then d.stop (u32 (d.get m.a.toNat+m.n)-u32 (d.get m.a.toNat+m.n)%2)
  else if m.op=6 then d.trap 6
  else if m.op=5 then d.call
  else if m.op-m.op.tmod 100=100 then(if holds (m.op.tmod 100) (d.get m.a.toNat) (d.get m.b.toNat)=true then d.stop m.n else d)
  else if m.op-m.op.tmod 100=200 then(if qN d.m (m.op.tmod 100) (u32 (d.get m.a.toNat+m.n))=true then d.put m.d.toNat (qa d.m (m.op.tmod 100) (u32 (d.get m.a.toNat+m.n)))else d.trap 3)
  else if m.op-m.op.tmod 100=300 then(if qU d.m (m.op.tmod 100) (u32 (d.get m.a.toNat+m.n))=true then(d.mem (m.op.tmod 100) (u32 (d.get m.a.toNat+m.n)) (d.get m.b.toNat)).stored (u32 (d.get m.a.toNat+m.n)) (qM (m.op.tmod 100)).toNat else d.trap 4)
  else if m.op-m.op.tmod 100=400 then d.put m.d.toNat (alu (m.op.tmod 100) (d.get m.a.toNat) (d.get m.b.toNat))
  else if m.op-m.op.tmod 100=500 then d.put m.d.toNat (alu (m.op.tmod 100) (d.get m.a.toNat) m.n)
  else if m.op-m.op.tmod 100=600 then d.atom (m.op.tmod 100) m.d.toNat m.a.toNat m.b.toNat
  else d
section
variable {rp : Nat} {TO TS : TypeId} {w : World} {d : RunD} {vm vo vs : Value}
end
end Go.Proofs.YtlfnddmncbkjaacGreat.Fb
namespace Go.Proofs.YtlfnddmncbkjaacGreat.W
open Go.RowKit Fb
end Go.Proofs.YtlfnddmncbkjaacGreat.W
namespace Go.Proofs.YtlfnddmncbkjaacGreat.Fb
open Go.RowKit
end Go.Proofs.YtlfnddmncbkjaacGreat.Fb
namespace Go.Proofs.YtlfnddmncbkjaacGreat.W
open Go.RowKit Fb
end Go.Proofs.YtlfnddmncbkjaacGreat.W
namespace Go.Proofs.YtlfnddmncbkjaacGreat.Fb
open Go.RowKit
theorem step_append_at{P:Program}{w:World}{ops:Array Oper}{o:Oper}{a:Act}{K:Act→World→Prop}{Q:Exit→Act→World→Prop}{E:Prop}(hgd:o.guard=none)(s x:Operand)(t:TypeId)
    (ho:o.op=.call {callee:=.builtin .append,args:=#[s,x],argTypes:=#[t,t]})
    (base:Nat) (e:TypeId) (i:TypeInfo) (z:Value) (size bytes:Nat) (ht:P.underlying t=some (.slice e)) (hi:P.info? e=some i) (hz:i.zero=some z)
    (hsize:i.size=size) (hby:i.bytes=bytes) (hzs:z.cells.size=size) (hsz:0<size)
    (v:Value) (n:Nat) (xs:List Value) (hs:a.eval s=v) (hown:w.ownsRow base e size v n xs)
    (ad:Addr) (m c:Nat) (news:List Value) (hx:a.eval x=.slice (some ad) m c) (hl:news.length=m*size) (hnews:∀j u,news[j]? =some u→w.cell? (ad.add j)=some u) (h1:∀u∈news,u.oneCell'=true)
    (h63:n+m≤maxLen) (hbytes:(n+m)*bytes≤140737488355328) (hbase:base≤w.heap.size)
    (h:∀v' w',w'.ownsRow base e size v' (n+m) (xs++news)→w.grownBy w' v.ownBlock→(∀k,v'.ownBlock=some k→v.ownBlock=some k∨w.heap.size≤k)→K (a.put o.dst v') w'):
    if Region.wanted o (yielded ops a.tmps)=true then Oper.wp P o a w K Q else E:=by
  have hw:Region.wanted o (yielded ops a.tmps)=true:=by simp[Region.wanted,hgd]
  rw[if_pos hw]
  obtain⟨v',w',hr,h2,h3,_,h5⟩:=run_append_own_at (P:=P) w base t o.type e i z size bytes ht hi hz hsize hby hzs hsz v n xs hown ad m c news hl hnews h1 h63 hbytes hbase
  unfold Oper.wp execOp
  simp only[ho,resolve,invoke,builtin,Sem.run_bind,Sem.run_pure,Result.andThen_ok,List.map_toArray,List.map_cons,List.map_nil,hs,hx,hr]
  exact h v' w' h2 h3 (fun k e=>h5.elim (fun e2=>.inl (e2 ▸ e)) (fun e2=>.inr (by rw[e]at e2;cases e2;exact sO _)))
end Go.Proofs.YtlfnddmncbkjaacGreat.Fb
namespace Go.Proofs.YtlfnddmncbkjaacGreat.W
open Go.RowKit Fb
end Go.Proofs.YtlfnddmncbkjaacGreat.W
namespace Go.Proofs.YtlfnddmncbkjaacGreat.Fb
open Go.RowKit
theorem named_cls{op:Int}(h:0≤jH op):(op=1∨op=2∨op=3∨op=4∨op=5∨op=6)∨(∃s,op=100+s∧5≤s∧s≤10)∨(∃s,op=200+s∧11≤s∧s≤15)∨(∃s,op=300+s∧16≤s∧s≤18)∨(∃s,op=400+s∧28≤s∧s≤45)∨(∃s,op=500+s∧28≤s∧s≤45)∨(∃s,op=600+s∧46≤s∧s≤56):=by
  by_cases hk:(op=1∨op=3)∨op=2∨op=4∨(op=5∨op=6)
  · left;omega
  rw[namedI_k ⟨fun e=>hk (.inl e),fun e=>hk (.inr (.inl e)),fun e=>hk (.inr (.inr (.inl e))),fun e=>hk (.inr (.inr (.inr e)))⟩]at h
  right
  obtain⟨s,hs⟩:∃s,s=op.tmod 100:=⟨_,rfl⟩
  obtain⟨c,hc⟩:∃c,c=op-s:=⟨_,rfl⟩
  rw[←hs,←hc]at h
  have e:op=c+s:=om
  unfold namedK at h
  by_cases c1:c=100
  · rw[if_pos c1]at h;split at h
    · left;exact⟨s,om,om,om⟩
    · omega
  rw[if_neg c1]at h
  by_cases c2:c=200
  · rw[if_pos c2]at h;split at h
    · right;left;exact⟨s,om,om,om⟩
    · omega
  rw[if_neg c2]at h
  by_cases c3:c=300
  · rw[if_pos c3]at h;split at h
    · right;right;left;exact⟨s,om,om,om⟩
    · omega
  rw[if_neg c3]at h
  by_cases c4:c=400
  · rw[if_pos c4]at h;split at h
    · right;right;right;left;exact⟨s,om,om,om⟩
    · omega
  rw[if_neg c4]at h
  by_cases c5:c=500
  · rw[if_pos c5]at h;split at h
    · right;right;right;right;left;exact⟨s,om,om,om⟩
    · omega
  rw[if_neg c5]at h
  by_cases c6:c=600
  · rw[if_pos c6]at h;split at h
    · right;right;right;right;right;exact⟨s,om,om,om⟩
    · omega
  rw[if_neg c6]at h
  omega
theorem mayM_named{m:MicD}(h:mayM m=true):0≤jH m.op:=by
  unfold mayM at h
  rw[Bool.and_eq_true,Bool.and_eq_true,Bool.and_eq_true,Bool.and_eq_true]at h
  have:=h.1.1.1.1
  simp at this
  omega
end Go.Proofs.YtlfnddmncbkjaacGreat.Fb
namespace Go.Proofs.YtlfnddmncbkjaacGreat.W
open Go.RowKit Fb
end Go.Proofs.YtlfnddmncbkjaacGreat.W
namespace Go.Proofs.YtlfnddmncbkjaacGreat.Fb
open Go.RowKit
structure R7Near (d d':RunD):Prop where
  s0:d.steps≤d'.steps
  s1:d'.steps≤d.steps+1
  st:d'.stores.length≤d.stores.length+1
  ou:d'.out.length≤d.out.length+1
theorem put_same(d:RunD)(k:Nat)(x:Int):(d.put k x).steps=d.steps∧(d.put k x).stores=d.stores∧(d.put k x).out=d.out:=by
  unfold RunD.put;split<;>exact⟨rfl,rfl,rfl⟩
theorem UI(d:RunD)(k:Nat)(x:Int):R7Near d (d.put k x):=by
  obtain⟨h1,h2,h3⟩:=put_same d k x
  exact⟨by rw[h1];omega,by rw[h1];omega,by rw[h2];omega,by rw[h3];omega⟩
theorem jJ{d d':RunD}(h1:d'.steps=d.steps)(h2:d'.stores=d.stores)(h3:d'.out=d.out):R7Near d d':=⟨by rw[h1];omega,by rw[h1];omega,by rw[h2];omega,by rw[h3];omega⟩
theorem r7near_atom(d:RunD)(op:Int)(kd ka kb:Nat):R7Near d (d.atom op kd ka kb):=by
  have key:∀(e:RunD) (x:Int),e.steps=d.steps→e.stores.length≤d.stores.length+1→e.out=d.out→R7Near d (e.put kd x):=fun e x h1 h2 h3=>by
    obtain⟨q1,q2,q3⟩:=put_same e kd x
    exact⟨by rw[q1,h1];omega,by rw[q1,h1];omega,by rw[q2];exact h2,by rw[q3,h3];omega⟩
  unfold RunD.atom
  by_cases c1:qN d.m 13 (d.get ka)=true
  · rw[if_pos c1]
    by_cases c2:op=46
    · rw[if_pos c2];exact key _ _ rfl (by show d.stores.length≤_;omega) rfl
    rw[if_neg c2]
    by_cases c3:op=47
    · rw[if_pos c3]
      by_cases c4:(d.h.held&&d.h.heldAt==d.get ka)=true
      · rw[if_pos c4];exact key _ _ rfl (by show(d.stores++[_]).length≤_;simp) rfl
      · rw[if_neg c4];exact key _ _ rfl (by show d.stores.length≤_;omega) rfl
    · rw[if_neg c3];exact key _ _ rfl (by show(d.stores++[_]).length≤_;simp) rfl
  · rw[if_neg c1];exact jJ rfl rfl rfl
theorem r7near_one(d:RunD)(m:MicD)(steps:Int):R7Near d (d.one m steps):=by
  unfold RunD.one
  by_cases c1:m.op=1
  · rw[if_pos c1]
    by_cases c2:(d.steps==steps||d.own)=true
    · rw[if_pos c2];exact jJ rfl rfl rfl
    · rw[if_neg c2];exact⟨by show d.steps≤d.steps+1;omega,Int.le_refl _,by show d.stores.length≤_;omega,by show d.out.length≤_;omega⟩
  rw[if_neg c1]
  by_cases c2:m.op=2
  · rw[if_pos c2];exact UI _ _ _
  rw[if_neg c2]
  by_cases c3:m.op=3
  · rw[if_pos c3];exact jJ rfl rfl rfl
  rw[if_neg c3]
  by_cases c4:m.op=4
  · rw[if_pos c4];exact jJ rfl rfl rfl
  rw[if_neg c4]
  by_cases c6:m.op=6
  · rw[if_pos c6];exact jJ rfl rfl rfl
  rw[if_neg c6]
  by_cases c5:m.op=5
  · rw[if_pos c5]
    unfold RunD.call
    by_cases q0:d.h.reg 17=0
    · rw[if_pos q0];exact jJ rfl rfl rfl
    rw[if_neg q0]
    by_cases q1:d.h.reg 17=1
    · rw[if_pos q1];exact⟨Int.le_refl _,by show d.steps≤d.steps+1;omega,by show d.stores.length≤_;omega,by show(d.out++[_]).length≤_;simp⟩
    · rw[if_neg q1];exact jJ rfl rfl rfl
  rw[if_neg c5]
  generalize m.op.tmod 100=s
  by_cases k1:m.op-s=100
  · rw[if_pos k1]
    by_cases q:holds s (d.get m.a.toNat) (d.get m.b.toNat)=true
    · rw[if_pos q];exact jJ rfl rfl rfl
    · rw[if_neg q];exact jJ rfl rfl rfl
  rw[if_neg k1]
  by_cases k2:m.op-s=200
  · rw[if_pos k2]
    by_cases q:qN d.m s (u32 (d.get m.a.toNat+m.n))=true
    · rw[if_pos q];exact UI _ _ _
    · rw[if_neg q];exact jJ rfl rfl rfl
  rw[if_neg k2]
  by_cases k3:m.op-s=300
  · rw[if_pos k3]
    by_cases q:qU d.m s (u32 (d.get m.a.toNat+m.n))=true
    · rw[if_pos q];exact⟨Int.le_refl _,by show d.steps≤d.steps+1;omega,by show(d.stores++[_]).length≤_;simp,by show d.out.length≤_;omega⟩
    · rw[if_neg q];exact jJ rfl rfl rfl
  rw[if_neg k3]
  by_cases k4:m.op-s=400
  · rw[if_pos k4];exact UI _ _ _
  rw[if_neg k4]
  by_cases k5:m.op-s=500
  · rw[if_pos k5];exact UI _ _ _
  rw[if_neg k5]
  by_cases k6:m.op-s=600
  · rw[if_pos k6];exact r7near_atom _ _ _ _ _
  · rw[if_neg k6];exact jJ rfl rfl rfl
def runL(steps:Int):List MicD→RunD→RunD
  |[],d=>d
  |m::r,d=>if d.over=true then d else runL steps r (d.one m steps)
theorem ue{steps:Int}{l:List MicD}{d:RunD}(h:d.over=true):runL steps l d=d:=by
  cases l with
  |nil=>rfl
  |cons m r=>unfold runL;rw[if_pos h]
def RunD.fin(d:RunD):RunD:=if d.over=false∧0<d.steps then {d with h:=d.h.setPc (u32 (d.here+4))} else d
def run0(h:Hart)(m:List Int)(bf bt:Int):RunD:=⟨h,m,[],0,[],[0,0,0,0],h.pc,false,false,bf,bt⟩
theorem run0_wf{h:Hart}(wf:h.Wf){m:List Int}(hb:QP m)(hl:m.length≤140737488351232){bf bt:Int}(h1:U32 bf)(h2:U32 bt):(run0 h m bf bt).Wf:=
  ⟨wf,hb,hl,yZ,⟨by show -9223372036854775808≤(0:Int);omega,by show(0:Int)≤9223372036854775807;omega⟩,yZ,rfl,(by intro x hx;simp[run0]at hx;rw[hx];exact JF),wf.pc,h1,h2⟩
end Go.Proofs.YtlfnddmncbkjaacGreat.Fb
