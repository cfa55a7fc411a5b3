import Derived.Test.YtlfnddmncbkjaabGreatDoorZGJ
set_option linter.unusedVariables false
set_option linter.unusedSimpArgs false
set_option maxRecDepth 100000
set_option maxHeartbeats 4000000
namespace Go.Proofs.YtlfnddmncbkjaabGreatDoor.W
open Go.RowKit Fb
theorem jT(op:Int)(w:World):
    Calls Tryz.prog 93 #[.int .i64 op] w fun e w'=>e=.returned (.int .u32 (qO op))∧w=w':=by
  go_enter Tryz.func93,Tryz.ntmps93
  go_wp2
  all_goals go_ret
  all_goals refine⟨qs ?_,rfl⟩
  all_goals simp_all [qO]
theorem Qr(ao:Option Addr)(n c:Nat)(at_ many:Int)(w:World)(hn:n≤maxLen)(ha:U32 at_)(hm:U32 many):
    Calls Tryz.prog 94 #[.slice ao n c,.int .u32 at_,.int .u32 many] w fun e w'=>e=.returned (.bool (there n at_ many))∧w=w':=by
  unfold maxLen at hn
  unfold U32 at ha hm
  go_enter Tryz.func94,Tryz.ntmps94
  go_wp2
  all_goals go_ret
  all_goals refine⟨Qe ?_,rfl⟩
  all_goals simp[there, *]
  all_goals omega
theorem load_no(ao:Option Addr)(n c:Nat)(op at_:Int)(w:World)(hn:n≤maxLen)(ha:U32 at_)(h:(loads op&&there n at_ (qO op))=false):
    Calls Tryz.prog 59 #[.slice ao n c,.int .i64 op,.int .u32 at_] w fun e w'=>e=.returned (.tuple #[.int .u32 0,.bool false])∧w=w':=by
  have hm:U32 (qO op):=xN
  by_cases h1:16≤op∧op≤18
  · obtain⟨h1,h2⟩:=h1
    clear h
    go_enter Tryz.func59,Tryz.ntmps59
    go_wp2_with (first|(go_at_call 93;refine(jT _ _).mono ?_;rintro e w' ⟨rfl,rfl⟩)|(go_at_call 94;refine(Qr _ _ _ _ _ _ hn ha hm).mono ?_;rintro e w' ⟨rfl,rfl⟩))
    go_ret2
    exact⟨rfl,rfl⟩
  · have ht:there n at_ (qO op)=false:=by
      by_cases hl:loads op=true
      · simpa[hl]using h
      · have:qO op=0:=by
          simp[loads]at hl
          unfold qO
          rw[if_neg om,if_neg om,if_neg om]
        rw[this];simp[there]
    clear h
    have h3:op<16∨18<op:=om
    clear h1
    rcases h3 with h3|h3
    all_goals
      go_enter Tryz.func59,Tryz.ntmps59
      go_wp2_with (first|(go_at_call 93;refine(jT _ _).mono ?_;rintro e w' ⟨rfl,rfl⟩)|(go_at_call 94;refine(Qr _ _ _ _ _ _ hn ha hm).mono ?_;rintro e w' ⟨rfl,rfl⟩))
      go_ret2
      exact⟨rfl,rfl⟩
theorem load_yes(b off c:Nat)(l:List Int)(op at_:Int)(w:World)(hn:l.length≤maxLen)(ha:U32 at_)(h:qY l op at_=true)
    (hc:∀i,i<l.length→w.cell? ⟨b,off+i,none⟩=some (.int .u8 (l.getD i 0))) (hb:∀i,0≤l.getD i 0∧l.getD i 0<256):
    Calls Tryz.prog 59 #[.slice (some ⟨b,off,none⟩) l.length c,.int .i64 op,.int .u32 at_] w fun e w'=>e=.returned (.tuple #[.int .u32 (QB l op at_),.bool true])∧w=w':=by
  have hm:U32 (qO op):=xN
  have ht:there l.length at_ (qO op)=true:=by simp[qY]at h;exact h.2
  have hop:op=11∨op=12∨op=13∨op=14∨op=15:=by simp[qY,loads]at h;omega
  have hat:at_.toNat+(qO op).toNat≤l.length:=by
    simp[there]at ht;unfold U32 at ha;omega
  have haf:at_+qO op≤4294967296:=by
    simp[there]at ht
    unfold U32 at ha
    rcases hop with rfl|rfl|rfl|rfl|rfl<;>simp[qO]at ht ⊢ <;>omega
  have ha0:=ha.1
  have ha1:=ha.2
  obtain⟨k,rfl⟩:=sQ ha0
  rcases hop with rfl|rfl|rfl|rfl|rfl
  · have H:=lI h
    have hk0:k+1≤l.length:=by simpa[qO]using hat
    have hk1:(k:Int)+1≤4294967296:=by simpa[qO]using haf
    have c0:=hc (k) om
    have b0:=hb (k)
    obtain⟨x0,hx0⟩:∃x,x=l.getD (k) 0:=⟨_,rfl⟩
    rw[←hx0]at c0 b0
    have X0:=lI hx0
    clear hx0
    clear hc hb h hat haf
    go_enter Tryz.func59,Tryz.ntmps59
    go_wp2_with (first|(go_at_call 93;refine(jT _ _).mono ?_;rintro e w' ⟨rfl,rfl⟩;rw[show qO 11=1 from rfl])|(go_at_call 94;refine(Qr _ _ _ _ _ _ hn ha hm).mono ?_;rintro e w' ⟨rfl,rfl⟩))
    go_rounds 2
    go_ret2
    refine⟨congrArg (fun x=>Ending.returned (Value.tuple #[.int .u32 x,.bool true])) (?_:_=QB l 11 k),rfl⟩
    rw[mLoad_11 H.out,←X0.out,or0 _ om]
  · have H:=lI h
    have hk0:k+2≤l.length:=by simpa[qO]using hat
    have hk1:(k:Int)+2≤4294967296:=by simpa[qO]using haf
    have c0:=hc (k) om
    have b0:=hb (k)
    obtain⟨x0,hx0⟩:∃x,x=l.getD (k) 0:=⟨_,rfl⟩
    rw[←hx0]at c0 b0
    have X0:=lI hx0
    clear hx0
    have c1:=hc (k+1) om
    have b1:=hb (k+1)
    obtain⟨x1,hx1⟩:∃x,x=l.getD (k+1) 0:=⟨_,rfl⟩
    rw[←hx1]at c1 b1
    have X1:=lI hx1
    clear hx1
    clear hc hb h hat haf
    go_enter Tryz.func59,Tryz.ntmps59
    go_wp2_with (first|(go_at_call 93;refine(jT _ _).mono ?_;rintro e w' ⟨rfl,rfl⟩;rw[show qO 12=2 from rfl])|(go_at_call 94;refine(Qr _ _ _ _ _ _ hn ha hm).mono ?_;rintro e w' ⟨rfl,rfl⟩))
    go_rounds 3
    go_ret2
    refine⟨congrArg (fun x=>Ending.returned (Value.tuple #[.int .u32 x,.bool true])) (?_:_=QB l 12 k),rfl⟩
    rw[mLoad_12 H.out,←X0.out,←X1.out,le2 _ _ b0 b1]
  · have H:=lI h
    have hk0:k+4≤l.length:=by simpa[qO]using hat
    have hk1:(k:Int)+4≤4294967296:=by simpa[qO]using haf
    have c0:=hc (k) om
    have b0:=hb (k)
    obtain⟨x0,hx0⟩:∃x,x=l.getD (k) 0:=⟨_,rfl⟩
    rw[←hx0]at c0 b0
    have X0:=lI hx0
    clear hx0
    have c1:=hc (k+1) om
    have b1:=hb (k+1)
    obtain⟨x1,hx1⟩:∃x,x=l.getD (k+1) 0:=⟨_,rfl⟩
    rw[←hx1]at c1 b1
    have X1:=lI hx1
    clear hx1
    have c2:=hc (k+2) om
    have b2:=hb (k+2)
    obtain⟨x2,hx2⟩:∃x,x=l.getD (k+2) 0:=⟨_,rfl⟩
    rw[←hx2]at c2 b2
    have X2:=lI hx2
    clear hx2
    have c3:=hc (k+3) om
    have b3:=hb (k+3)
    obtain⟨x3,hx3⟩:∃x,x=l.getD (k+3) 0:=⟨_,rfl⟩
    rw[←hx3]at c3 b3
    have X3:=lI hx3
    clear hx3
    clear hc hb h hat haf
    go_enter Tryz.func59,Tryz.ntmps59
    go_wp2_with (first|(go_at_call 93;refine(jT _ _).mono ?_;rintro e w' ⟨rfl,rfl⟩;rw[show qO 13=4 from rfl])|(go_at_call 94;refine(Qr _ _ _ _ _ _ hn ha hm).mono ?_;rintro e w' ⟨rfl,rfl⟩))
    go_rounds 5
    go_ret2
    refine⟨congrArg (fun x=>Ending.returned (Value.tuple #[.int .u32 x,.bool true])) (?_:_=QB l 13 k),rfl⟩
    rw[mLoad_13 H.out,←X0.out,←X1.out,←X2.out,←X3.out,le4 _ _ _ _ b0 b1 b2 b3]
  · have H:=lI h
    have hk0:k+1≤l.length:=by simpa[qO]using hat
    have hk1:(k:Int)+1≤4294967296:=by simpa[qO]using haf
    have c0:=hc (k) om
    have b0:=hb (k)
    obtain⟨x0,hx0⟩:∃x,x=l.getD (k) 0:=⟨_,rfl⟩
    rw[←hx0]at c0 b0
    have X0:=lI hx0
    clear hx0
    clear hc hb h hat haf
    go_enter Tryz.func59,Tryz.ntmps59
    go_wp2_with (first|(go_at_call 93;refine(jT _ _).mono ?_;rintro e w' ⟨rfl,rfl⟩;rw[show qO 14=1 from rfl])|(go_at_call 94;refine(Qr _ _ _ _ _ _ hn ha hm).mono ?_;rintro e w' ⟨rfl,rfl⟩))
    go_rounds 2
    go_ret2
    refine⟨congrArg (fun x=>Ending.returned (Value.tuple #[.int .u32 x,.bool true])) (?_:_=QB l 14 k),rfl⟩
    rw[mLoad_14 H.out,←X0.out,or0 _ om]
  · have H:=lI h
    have hk0:k+2≤l.length:=by simpa[qO]using hat
    have hk1:(k:Int)+2≤4294967296:=by simpa[qO]using haf
    have c0:=hc (k) om
    have b0:=hb (k)
    obtain⟨x0,hx0⟩:∃x,x=l.getD (k) 0:=⟨_,rfl⟩
    rw[←hx0]at c0 b0
    have X0:=lI hx0
    clear hx0
    have c1:=hc (k+1) om
    have b1:=hb (k+1)
    obtain⟨x1,hx1⟩:∃x,x=l.getD (k+1) 0:=⟨_,rfl⟩
    rw[←hx1]at c1 b1
    have X1:=lI hx1
    clear hx1
    clear hc hb h hat haf
    go_enter Tryz.func59,Tryz.ntmps59
    go_wp2_with (first|(go_at_call 93;refine(jT _ _).mono ?_;rintro e w' ⟨rfl,rfl⟩;rw[show qO 15=2 from rfl])|(go_at_call 94;refine(Qr _ _ _ _ _ _ hn ha hm).mono ?_;rintro e w' ⟨rfl,rfl⟩))
    go_rounds 3
    go_ret2
    refine⟨congrArg (fun x=>Ending.returned (Value.tuple #[.int .u32 x,.bool true])) (?_:_=QB l 15 k),rfl⟩
    rw[mLoad_15 H.out,←X0.out,←X1.out,le2 _ _ b0 b1]
theorem load_any(v:Value)(l:List Int)(op at_:Int)(w:World)(hv:Ints .u8 w v l)(ha:U32 at_)(hb:∀i,0≤l.getD i 0∧l.getD i 0<256):
    Calls Tryz.prog 59 #[v,.int .i64 op,.int .u32 at_] w fun e w'=>e=.returned (.tuple #[.int .u32 (QB l op at_),.bool (qY l op at_)])∧w=w':=by
  obtain⟨ao,cap,rfl,hc,hm,_,ho⟩:=hv.open
  by_cases h:qY l op at_=true
  · have hne:l≠[]:=by
      rintro rfl
      simp[qY,there]at h
      have:=ha.1;omega
    obtain⟨b,off,rfl,_,hcell⟩:=ho hne
    rw[h]
    exact load_yes b off cap l op at_ w om ha h hcell hb
  · have h':qY l op at_=false:=by simpa using h
    rw[h',show QB l op at_=0 from by unfold QB;rw[if_neg h]]
    exact load_no ao l.length cap op at_ w om ha h'
theorem put_no(ao:Option Addr)(n c:Nat)(op at_ x:Int)(w:World)(hn:n≤maxLen)(ha:U32 at_)(h:(stores op&&there n at_ (qO op))=false):
    Calls Tryz.prog 139 #[.slice ao n c,.int .i64 op,.int .u32 at_,.int .u32 x] w fun e w'=>e=.returned (.bool false)∧w=w':=by
  have hm:U32 (qO op):=xN
  by_cases h1:16≤op∧op≤18
  · have hs:stores op=true:=by simp[stores];omega
    have ht:there n at_ (qO op)=false:=by simpa[hs]using h
    obtain⟨h1,h2⟩:=h1
    clear h hs
    go_enter Tryz.func139,Tryz.ntmps139
    go_wp2_with (first|(go_at_call 93;refine(jT _ _).mono ?_;rintro e w' ⟨rfl,rfl⟩)|(go_at_call 94;refine(Qr _ _ _ _ _ _ hn ha hm).mono ?_;rintro e w' ⟨rfl,rfl⟩))
    go_ret
    exact⟨rfl,rfl⟩
  · clear h
    have h3:op<16∨18<op:=om
    clear h1
    rcases h3 with h3|h3
    all_goals
      go_enter Tryz.func139,Tryz.ntmps139
      go_wp2_with (first|(go_at_call 93;refine(jT _ _).mono ?_;rintro e w' ⟨rfl,rfl⟩)|(go_at_call 94;refine(Qr _ _ _ _ _ _ hn ha hm).mono ?_;rintro e w' ⟨rfl,rfl⟩))
      go_ret
      exact⟨rfl,rfl⟩
theorem put_yes(b off c:Nat)(l:List Int)(op:Int)(k:Nat)(x:Int)(w:World)(hn:l.length≤maxLen)(ha:U32 k)(hx:U32 x)(h:qU l op k=true)
    (hc:∀i,i<l.length→∃y,w.cell? ⟨b,off+i,none⟩=some y) (hf:∀i,i<l.length→w.frozen? ⟨b,off+i,none⟩=false):
    Calls Tryz.prog 139 #[.slice (some ⟨b,off,none⟩) l.length c,.int .i64 op,.int .u32 k,.int .u32 x] w fun e w'=>e=.returned (.bool true)∧w'=putW w b off k x (qO op).toNat:=by
  have hm:U32 (qO op):=xN
  have ht:there l.length k (qO op)=true:=by simp[qU]at h;exact h.2
  have hop:op=16∨op=17∨op=18:=by simp[qU,stores]at h;omega
  have hat:k+(qO op).toNat≤l.length:=by
    simp[there]at ht;unfold U32 at ha;omega
  have haf:k+qO op≤4294967296:=by
    simp[there]at ht
    unfold U32 at ha
    rcases hop with rfl|rfl|rfl<;>simp[qO]at ht ⊢ <;>omega
  have HA:=lI ha
  have HM:=lI hm
  have HT:=lI ht
  have HN:=lI hn
  have hx0:=hx.1
  have hx1:=hx.2
  clear ha hm hn
  rcases hop with rfl|rfl|rfl
  · have hk0:k+1≤l.length:=by simpa[qO]using hat
    have hk1:k+1≤4294967296:=by simp[qO]at haf;omega
    have ht1:there l.length k 1=true:=HT.out
    have HM1:Hid (U32 1):=HM
    obtain⟨x0,c0⟩:=hc (k) om
    have f0:=hf (k) om
    clear hc hf h hat haf ht
    go_enter Tryz.func139,Tryz.ntmps139
    go_wp2_with (first|(go_at_call 93;refine(jT _ _).mono ?_;rintro e w' ⟨rfl,rfl⟩;rw[show qO 16=1 from rfl])|(go_at_call 94;refine(Qr _ _ _ _ _ _ HN.out HA.out HM1.out).mono ?_;rintro e w' ⟨rfl,rfl⟩))
    go_rounds 2
    go_ret
    refine⟨rfl, ?_⟩
    simp[putW,qO]
  · have hk0:k+2≤l.length:=by simpa[qO]using hat
    have hk1:k+2≤4294967296:=by simp[qO]at haf;omega
    have ht1:there l.length k 2=true:=HT.out
    have HM1:Hid (U32 2):=HM
    obtain⟨x0,c0⟩:=hc (k) om
    have f0:=hf (k) om
    obtain⟨x1,c1⟩:=hc (k+1) om
    have f1:=hf (k+1) om
    clear hc hf h hat haf ht
    go_enter Tryz.func139,Tryz.ntmps139
    go_wp2_with (first|(go_at_call 93;refine(jT _ _).mono ?_;rintro e w' ⟨rfl,rfl⟩;rw[show qO 17=2 from rfl])|(go_at_call 94;refine(Qr _ _ _ _ _ _ HN.out HA.out HM1.out).mono ?_;rintro e w' ⟨rfl,rfl⟩))
    go_rounds 3
    go_ret
    refine⟨rfl, ?_⟩
    simp[putW,qO]
  · have hk0:k+4≤l.length:=by simpa[qO]using hat
    have hk1:k+4≤4294967296:=by simp[qO]at haf;omega
    have ht1:there l.length k 4=true:=HT.out
    have HM1:Hid (U32 4):=HM
    obtain⟨x0,c0⟩:=hc (k) om
    have f0:=hf (k) om
    obtain⟨x1,c1⟩:=hc (k+1) om
    have f1:=hf (k+1) om
    obtain⟨x2,c2⟩:=hc (k+2) om
    have f2:=hf (k+2) om
    obtain⟨x3,c3⟩:=hc (k+3) om
    have f3:=hf (k+3) om
    clear hc hf h hat haf ht
    go_enter Tryz.func139,Tryz.ntmps139
    go_wp2_with (first|(go_at_call 93;refine(jT _ _).mono ?_;rintro e w' ⟨rfl,rfl⟩;rw[show qO 18=4 from rfl])|(go_at_call 94;refine(Qr _ _ _ _ _ _ HN.out HA.out HM1.out).mono ?_;rintro e w' ⟨rfl,rfl⟩))
    go_rounds 5
    go_ret
    refine⟨rfl, ?_⟩
    simp[putW,qO]
    rw[show x / 16777216%256=x / 16777216 from by omega]
theorem divide_any(a b:Int)(w:World)(ha: -2147483648≤a)(ha':a≤2147483647):
    Calls Tryz.prog 158 #[.int .i32 a,.int .i32 b] w fun e w'=>e=.returned (.tuple #[.int .i32 (divq a b),.int .i32 (divr a b)])∧∃n,w'=w.drewN n:=by
  by_cases h0:b=0
  · subst h0
    go_enter Tryz.func158,Tryz.ntmps158
    go_wp2
    go_ret2
    exact⟨rfl,0,rfl⟩
  · by_cases h1:b= -1
    · subst h1
      go_enter Tryz.func158,Tryz.ntmps158
      go_wp2
      go_ret2
      exact⟨rfl,0,rfl⟩
    · have hz:(b==0)=false:=by simpa using h0
      have hz1:(b== -1)=false:=by simpa using h1
      go_enter Tryz.func158,Tryz.ntmps158
      go_wp2
      go_quiet (fail)
      go_wp2
      go_ret2
      refine⟨?_,nq,rfl⟩
      have e1:wrap32 (a.tdiv b)=divq a b:=by
        rw[divq,if_neg h0,if_neg h1]
        have:=tdiv_small a b ha ha' h0 h1
        unfold wrap32;omega
      have e2:a.tmod b=divr a b:=by rw[divr,if_neg h0,if_neg h1]
      rw[←e1,←e2]
      rfl
theorem quotient_any(op a b:Int)(w:World)(ha:0≤a)(ha':a<4294967296)(hb:0≤b)(hb':b<4294967296):
    Calls Tryz.prog 143 #[.int .i64 op,.int .u32 a,.int .u32 b] w fun e w'=>e=.returned (.int .u32 (quot op a b))∧∃n,w'=w.drewN n:=by
  have hs:=uy a
  by_cases h0:b=0
  · have hz:(b==0)=true:=by simpa using h0
    have H0:=lI h0
    clear h0
    go_enter Tryz.func143,Tryz.ntmps143
    go_wp2_with (go_at_call 158;refine(divide_any _ _ _ hs.1 hs.2).mono ?_;rintro e w' ⟨rfl,n,rfl⟩)
    all_goals go_ret
    all_goals refine⟨qs ?_,n,rfl⟩
    all_goals have h0:=H0.out
    all_goals simp[quot, *]
  · have hz:(b==0)=false:=by simpa using h0
    go_enter Tryz.func143,Tryz.ntmps143
    go_wp2_with (go_at_call 158;refine(divide_any _ _ _ hs.1 hs.2).mono ?_;rintro e w' ⟨rfl,n,rfl⟩)
    all_goals go_ret
    all_goals refine⟨qs ?_,n,rfl⟩
    all_goals simp[quot, *]
theorem alu_any(op a b:Int)(w:World)(ha:0≤a)(ha':a<4294967296)(hb:0≤b)(hb':b<4294967296):
    Calls Tryz.prog 117 #[.int .i64 op,.int .u32 a,.int .u32 b] w fun e w'=>e=.returned (.int .u32 (alu op a b))∧∃n,w'=w.drewN n:=by
  have hm:bits .and .u32 b 31=b%32:=Qf b 5 om 31 rfl hb hb'
  have hs:=uy a
  have hs2:=uy b
  go_enter Tryz.func117,Tryz.ntmps117
  go_wp2_with (first|(go_at_call 143;refine(quotient_any _ _ _ _ ha ha' hb hb').mono ?_;rintro e w' ⟨rfl,n,rfl⟩)|go_in)
  all_goals go_ret
  all_goals refine⟨qs ?_,by first|exact⟨0,rfl⟩|exact⟨_,rfl⟩⟩
  all_goals first
    |(simp[alu, *];done)
    |(rw[mulh_eq _ _ hs om];simp[alu, *];done)
    |(rw[mulhu_eq _ _ ha ha' hb hb'];simp[alu, *];done)
theorem holds_any(op a b:Int)(w:World)(ha:0≤a)(ha':a<4294967296)(hb:0≤b)(hb':b<4294967296):
    Calls Tryz.prog 115 #[.int .i64 op,.int .u32 a,.int .u32 b] w fun e w'=>e=.returned (.bool (holds op a b))∧w=w':=by
  go_enter Tryz.func115,Tryz.ntmps115
  go_wp2
  all_goals go_ret
  all_goals refine⟨Qe ?_,rfl⟩
  all_goals simp[holds, *]
theorem amo_any(op a b:Int)(w:World)(ha:0≤a)(ha':a<4294967296)(hb:0≤b)(hb':b<4294967296):
    Calls Tryz.prog 144 #[.int .i64 op,.int .u32 a,.int .u32 b] w fun e w'=>e=.returned (.int .u32 (amo op a b))∧w=w':=by
  go_enter Tryz.func144,Tryz.ntmps144
  go_wp2
  all_goals go_ret
  all_goals refine⟨qs ?_,rfl⟩
  all_goals simp only[beq_iff_eq,sH,ne_eq]at *
  all_goals first|(subst_vars;first|rfl|(simp[amo];done)|(simp[amo];omega))|(simp[amo, *];done)|(simp[amo, *];omega)
section
variable {cp hb ho : Nat} {vm : Value} {d : qF} {w : World}
theorem Jy(h:qX cp hb ho vm 40 w d)(wf:d.h.Wf)(k:Nat)(hk:k<32)(x:Int):
    Calls Tryz.prog 114 #[.pointer (some ⟨cp,0,none⟩),.int .i64 k,.int .u32 x] w fun e w'=>e=.returned (.tuple #[])∧qX cp hb ho vm 40 w' (d.set k x)∧Cgo cp hb ho vm 40 w w':=by
  have hp:=h.ptr
  have hc:=h.hart.get (JB wf k hk)
  have hf:=h.hfz (ho+k)
  have H:=lI h
  clear h
  go_enter Tryz.func114,Tryz.ntmps114
  by_cases hk0:k=0
  · subst hk0
    go_wp2_with fail
    go_end0
    refine⟨rfl, ?_,Cgo.refl _⟩
    have e:d.set ((0:Nat):Int) x=d:=by simp[qF.set,Hart.setReg]
    rw[e]
    exact H.out
  · have hk1:(0:Int)<k:=om
    go_wp2_with fail
    go_end0
    refine⟨rfl, ?_,Cgo.setHart _ k om _⟩
    have e:d.set (k:Int) x={d with h:={d.h with regs:=d.h.regs.set k x}}:=by simp[qF.set,Hart.setReg];omega
    rw[e]
    exact H.out.setHart k _ _ (UX wf.len k hk x) (by rw[qG wf];omega)
theorem Jj(h:qX cp hb ho vm 40 w d)(wf:d.h.Wf)(c:Int):
    Calls Tryz.prog 85 #[.pointer (some ⟨cp,0,none⟩),.int .i64 c] w fun e w'=>e=.returned (.tuple #[])∧qX cp hb ho vm 40 w' (d.trap c)∧Cgo cp hb ho vm 40 w w':=by
  have hp:=h.ptr
  have h35:=h.hart.get (jg wf)
  have h36:=h.hart.get (uH wf)
  have f35:=h.hfz (ho+35)
  have f36:=h.hfz (ho+36)
  have hne:=h.hbl
  have H:=lI h
  clear h
  go_enter Tryz.func85,Tryz.ntmps85
  go_wp2_with fail
  go_region
  all_goals go_wp2_with fail
  all_goals go_end0
  all_goals exact⟨rfl,((H.out.setHart 35 _ _ (Jr wf.len 2) (by rw[qG wf];omega)).setHart 36 _ _ (hlist_setCause (h:={d.h with state:=2}) wf.len c) (by have:=qG wf;unfold qJ at *;simp at *;omega)).below (Below.drew br),((Cgo.setHart _ 35 om _).trans (Cgo.setHart _ 36 om _)).drew⟩
theorem cput_any(h:qX cp hb ho vm 40 w d)(wf:d.Wf)(op at_ x:Int)(ha:U32 at_)(hx:U32 x):
    Calls Tryz.prog 116 #[.pointer (some ⟨cp,0,none⟩),.int .i64 op,.int .u32 at_,.int .u32 x] w fun e w'=>e=.returned (.bool (qU d.m op at_))∧qX cp hb ho vm 40 w' (d.put op at_ x)∧Cgo cp hb ho vm 40 w w':=by
  have hp:=h.ptr
  have hm:=h.mem
  have hfr:=h.fr
  have htw:=h.tw
  have f3:=h.frz 3
  have f4:=h.frz 4
  have hne:=h.hbl
  have H:=lI h
  have HA:=lI ha
  have HX:=lI hx
  obtain⟨ao,cap,rfl,hc1,hc2,_,hopen⟩:=h.bytes.open
  clear h ha hx
  cases hok:qU d.m op at_ with
  | false =>
    have e:d.put op at_ x=d:=by unfold qF.put;rw[hok];rfl
    rw[e]
    have hc:=put_no ao d.m.length cap op at_ x w om HA.out hok
    go_enter Tryz.func116,Tryz.ntmps116
    go_wp2_with fail
    refine hc.mono ?_
    rintro e w' ⟨rfl,rfl⟩
    go_wp2_with fail
    go_ret
    exact⟨rfl,H.out,Cgo.refl _⟩
  | true =>
    have hpos:=storeOk_pos HA.out hok
    obtain⟨b,off,rfl,hbl,hcell⟩:=hopen (by intro e;rw[e]at hpos;simp at hpos)
    obtain⟨m1,m2,m3,m4⟩:=H.out.mfz b off _ _ rfl
    obtain⟨k,rfl⟩:=sQ HA.out.1
    have hc:=put_yes b off cap d.m op k x w om HA.out HX.out hok (fun i hi=>⟨_,hcell i hi⟩) (fun i _=>m4 _)
    have hk:k+(qO op).toNat≤d.m.length:=by
      simp[qU,there]at hok
      have:=HA.out.1
      omega
    have H2:=lI (H.out.putW k x (qO op).toNat hk hpos)
    have C2:Hid (Cgo cp hb ho (.slice (some ⟨b,off,none⟩) d.m.length cap) 40 w (putW w b off k x (qO op).toNat)):=lI (Cgo.putW w rfl m2 k x _)
    have HP:Hid (d.put op k x={d with m:=lay d.m k x (qO op).toNat,fr:=(k:Int),tw:=((k:Int)+qO op)%4294967296}):=lI (by
      unfold qF.put;rw[if_pos hok];congr 1;unfold Qg;rw[if_pos hok])
    have hop:op=16∨op=17∨op=18:=by simp[qU,stores]at hok;omega
    clear hcell hopen m1 m2 m3 m4 hp hm hfr htw f3 f4
    generalize putW w b off k x (qO op).toNat=w2 at *
    have hp:=H2.out.ptr
    have hm:=H2.out.mem
    have hfr:=H2.out.fr
    have htw:=H2.out.tw
    have f3:=H2.out.frz 3
    have f4:=H2.out.frz 4
    have hp0:=H.out.ptr
    have hm0:=H.out.mem
    have hku:=HA.out.2
    have ix0:∀W,(Instr.index 233 (.agg #[.int .u32 1,.int .u32 2,.int .u32 4]) (.int .i64 0)).run Tryz.prog W=.ok (.int .u32 1) W:=fun _=>by kernel_rfl
    have ix1:∀W,(Instr.index 233 (.agg #[.int .u32 1,.int .u32 2,.int .u32 4]) (.int .i64 1)).run Tryz.prog W=.ok (.int .u32 2) W:=fun _=>by kernel_rfl
    have ix2:∀W,(Instr.index 233 (.agg #[.int .u32 1,.int .u32 2,.int .u32 4]) (.int .i64 2)).run Tryz.prog W=.ok (.int .u32 4) W:=fun _=>by kernel_rfl
    rcases hop with rfl|rfl|rfl
    all_goals
      go_enter Tryz.func116,Tryz.ntmps116
      go_upto_region 1 with(fail)
      clear hp hm hfr htw f3 f4
      go_wp2_with fail
      refine hc.mono ?_
      rintro e w' ⟨rfl,rfl⟩
      clear hp0 hm0
      have hp:=H2.out.ptr
      have hfr:=H2.out.fr
      have htw:=H2.out.tw
      have f3:=H2.out.frz 3
      have f4:=H2.out.frz 4
      go_wp2_with fail
      go_ret
      refine⟨rfl, ?_,(C2.out.trans (Cgo.setCore _ hne _ _)).trans (Cgo.setCore _ hne _ _)⟩
      rw[HP.out]
      exact(H2.out.setFr _).setTo _
theorem call_any(h:qX cp hb ho vm 40 w d)(wf:d.Wf)(hlen:d.out.length<1099511627776):
    Calls Tryz.prog 120 #[.pointer (some ⟨cp,0,none⟩)] w fun e w'=>e=.returned (.bool (qx d).2)∧qX cp hb ho vm 40 w' (qx d).1∧Cgo cp hb ho vm 40 w w':=by
  have hp:=h.ptr
  have h17:=h.hart.get (JB wf.h 17 om)
  have h10:=h.hart.get (JB wf.h 10 om)
  have h35:=h.hart.get (jg wf.h)
  have f35:=h.hfz (ho+35)
  have f2:=h.frz 2
  have hne:=h.hbl
  have hlt:=h.lt
  have H:=lI h
  have hT:=lI (Jj h wf.h 5)
  have hC:qx d=if d.h.regs.getD 17 0=0 then({d with h:={d.h with state:=1}},false)else if d.h.regs.getD 17 0=1 then({d with out:=d.out++[d.h.regs.getD 10 0]},true)else(d.trap 5,false):=rfl
  rw[hC]
  clear hC h
  generalize d.h.regs.getD 17 0=x17 at *
  generalize d.h.regs.getD 10 0=x10 at *
  by_cases h0:x17=0
  · rw[if_pos h0]
    subst h0
    go_enter Tryz.func120,Tryz.ntmps120
    go_wp2_with fail
    go_ret
    exact⟨rfl,H.out.setHart 35 _ _ (Jr wf.h.len 1) yX,Cgo.setHart _ 35 om _⟩
  · rw[if_neg h0]
    by_cases h1:x17=1
    · rw[if_pos h1]
      subst h1
      obtain⟨v,hv1,hv3⟩:=H.out.row
      have hfar:Hid (some cp≠v.ownBlock):=lI (fun e=>by have:=(hv3.lt cp e.symm).1;omega)
      have hlo:∀k,v.ownBlock=some k→cp+1≤k:=fun k e=>(hv3.lt k e).1
      have HLO:=lI hlo
      have H3:=lI hv3
      have HV:=lI (And.intro hv1 f2)
      obtain⟨i0,hi,hz0,hz1,hz2⟩:=info_parts (show(Tryz.prog.info? 40).map (fun i=>(i.zero,i.size,i.bytes))=some (some (.int .u32 0),1,4) by kernel_rfl)
      clear hv3 hlo
      go_enter Tryz.func120,Tryz.ntmps120
      go_wp2_with fail
      go_region_law (
        refine step_append_lies _ zK _ _ _ zK (cp+1) 40 i0 _ 1 4 Tryz.underlying36 hi hz0 hz1 hz2 rfl om v d.out.length _ zK ((H3.out.alloc _).drew)
            ⟨w.heap.size,0,none⟩ 1 1 [.int .u32 x10] zK zK (World.news_of_block (cs:=#[.int .u32 x10]) (t:=40) (fr:=(0,0)) (sP w _)) zT
            om zZ om zL (w.heap.size+1) zC ?_
        intro gg cap w1 hown1 hgrow hat hgl
        have hc1:w1.cell? ⟨cp,2,none⟩=some v:=(hgrow.cell_far _ zL hfar.out).trans (by simp[World.cell?_alloc_some,HV.out.1])
        have hc0:w1.cell? ⟨cp,0,none⟩=some (.pointer (some ⟨hb,ho,none⟩)):=(hgrow.cell_far _ zL hfar.out).trans (by simp[World.cell?_alloc_some,hp])
        have hf1:w1.frozen? ⟨cp,2,none⟩=false:=(hgrow.frozen_far _ zL hfar.out).trans ((frozen_da (p:=⟨cp,2,none⟩) _ hlt).trans HV.out.2))
      all_goals
        go_wp2
        go_ret
        refine⟨rfl,H.out.append (((Below.alloc br om _).drew).grown hgrow zL HLO.out) (by simpa using hown1), ?_⟩
        exact(((Cgo.of_below (Below.alloc br (sN _) _) om).drew).trans (Cgo.grown hne ((H3.out.alloc _).drew) hgrow zL)).trans (Cgo.setCore _ hne _ _)
    · rw[if_neg h1]
      go_enter Tryz.func120,Tryz.ntmps120
      go_wp2_with fail
      refine hT.out.mono ?_
      rintro e w1 ⟨rfl,hc,hg⟩
      go_wp2_with fail
      go_ret
      exact⟨rfl,hc,hg⟩
end
section
variable {cp hb ho : Nat} {vm : Value} {d : qF} {w : World}
theorem atom_any(h:qX cp hb ho vm 40 w d)(wf:d.Wf)(op a b:Int)(hop:46≤op∧op≤56)(ha:U32 a)(hb':U32 b):
    Calls Tryz.prog 119 #[.pointer (some ⟨cp,0,none⟩),.int .i64 op,.int .u32 a,.int .u32 b] w fun e w'=>e=.returned (.tuple #[.int .u32 (qb d op a b).2.1,.bool (qb d op a b).2.2])∧qX cp hb ho vm 40 w' (qb d op a b).1∧Cgo cp hb ho vm 40 w w':=by
  have hl:=lI (load_any vm d.m 13 a w h.bytes ha wf.m.getD)
  have hlu:=lI (mLoad_u d.m 13 a om ha wf.m.getD)
  have hne:=h.hbl
  have H:=lI h
  have HA:=lI ha
  have HB:=lI hb'
  obtain⟨o0,o1⟩:=hop
  clear ha hb'
  cases hok:qY d.m 13 a with
  | false =>
    have hT:=lI (Jj h wf.h 4)
    rw[hok]at hl
    by_cases h46:op=46
    · subst h46
      have e:qb d 46 a b=(d.trap 3,0,false):=by unfold qb;rw[hok];rfl
      rw[e]
      clear e
      have hp:=h.ptr
      have hm:=h.mem
      clear h
      go_enter Tryz.func119,Tryz.ntmps119
      go_wp2_with fail
      refine hl.out.mono ?_
      rintro e w' ⟨rfl,rfl⟩
      clear hp hm
      go_wp2_with fail
      refine hT.out.mono ?_
      rintro e w1 ⟨rfl,hc1,hg1⟩
      have hT2:=lI (Jj hc1 (wf.trap 4 om).h 3)
      have HG:=lI hg1
      clear hc1 hg1 hT hl
      go_wp2_with fail
      refine hT2.out.mono ?_
      rintro e w2 ⟨rfl,hc2,hg2⟩
      go_wp2_with fail
      go_ret2
      exact⟨rfl,hc2,HG.out.trans hg2⟩
    · have e:qb d op a b=(d.trap 4,0,false):=by unfold qb;rw[hok,if_neg zF,if_neg h46]
      rw[e]
      clear e
      have hp:=h.ptr
      have hm:=h.mem
      clear h
      go_enter Tryz.func119,Tryz.ntmps119
      go_wp2_with fail
      refine hl.out.mono ?_
      rintro e w' ⟨rfl,rfl⟩
      clear hp hm
      go_wp2_with fail
      refine hT.out.mono ?_
      rintro e w1 ⟨rfl,hc1,hg1⟩
      go_wp2_with fail
      go_ret2
      exact⟨rfl,hc1,hg1⟩
  | true =>
    rw[hok]at hl
    obtain⟨old,hold⟩:∃x,x=QB d.m 13 a:=⟨_,rfl⟩
    rw[←hold]at hl hlu
    have h33:=h.hart.get (jh wf.h)
    have h34:=h.hart.get (jl wf.h)
    have f33:=h.hfz (ho+33)
    have f34:=h.hfz (ho+34)
    have hp:=h.ptr
    have hm:=h.mem
    by_cases h46:op=46
    · subst h46
      have e:qb d 46 a b=(d.hold true a,old,true):=by unfold qb;rw[hok,←hold];rfl
      rw[e]
      clear e h hold
      go_enter Tryz.func119,Tryz.ntmps119
      go_upto_region 1 with(fail)
      go_wp2_with (go_at_call 59;refine hl.out.mono ?_;rintro e w' ⟨rfl,rfl⟩)
      go_region
      all_goals go_wp2_with fail
      all_goals go_ret2
      all_goals exact⟨rfl,((H.out.setHart 33 _ _ (jX wf.h.len true) yX).setHart 34 _ _ (Qv (h:={d.h with held:=true}) wf.h.len a) xP).below (Below.drew br),((Cgo.setHart _ 33 om _).trans (Cgo.setHart _ 34 om _)).drew⟩
    · by_cases h47:op=47
      · subst h47
        by_cases hq:(d.h.held&&d.h.heldAt==a)=true
        · have e:qb d 47 a b=((d.put 18 a b).hold false 0,0,true):=by unfold qb;rw[hok,if_pos rfl,if_neg om,if_pos rfl,if_pos hq]
          rw[e]
          clear e hold
          rw[Bool.and_eq_true,beq_iff_eq]at hq
          obtain⟨q1,q2⟩:=hq
          rw[q1]at h33
          rw[q2]at h34
          have HPut:=lI (cput_any h wf 18 a b HA.out HB.out)
          clear h f33 f34
          go_enter Tryz.func119,Tryz.ntmps119
          go_upto_region 1 with(fail)
          go_wp2_with (go_at_call 59;refine hl.out.mono ?_;rintro e w' ⟨rfl,rfl⟩)
          refine HPut.out.mono ?_
          rintro e w1 ⟨rfl,hc1,hg1⟩
          have hl2:qJ (d.put 18 a b).h=qJ d.h:=by rw[qF.put_h]
          have wf2:(d.put 18 a b).h.Wf:=by rw[qF.put_h];exact wf.h
          clear h33 h34 hp hm
          have hp:=hc1.ptr
          have h33:=hc1.hart.get (jh wf2)
          have h34:=hc1.hart.get (jl wf2)
          have f33:=hc1.hfz (ho+33)
          have f34:=hc1.hfz (ho+34)
          have H1:=lI hc1
          have G1:=lI hg1
          clear hc1 hg1 HPut hl
          go_wp2_with fail
          go_region
          all_goals go_wp2_with fail
          all_goals go_ret2
          all_goals exact⟨rfl,((H1.out.setHart 33 _ _ (jX wf2.len false) yG).setHart 34 _ _ (Qv (h:={(d.put 18 a b).h with held:=false}) wf2.len 0) (by have:=qG wf2;unfold qJ at *;simp at *;omega)).below (Below.drew br),((G1.out.trans (Cgo.setHart _ 33 om _)).trans (Cgo.setHart _ 34 om _)).drew⟩
        · have e:qb d 47 a b=(d.hold false 0,1,true):=by unfold qb;rw[hok,if_pos rfl,if_neg om,if_pos rfl,if_neg hq]
          rw[e]
          clear e h hold
          rw[Bool.and_eq_true,beq_iff_eq]at hq
          cases hh:d.h.held with
          | false =>
            rw[hh]at h33
            clear hq
            go_enter Tryz.func119,Tryz.ntmps119
            go_upto_region 1 with(fail)
            go_wp2_with (go_at_call 59;refine hl.out.mono ?_;rintro e w' ⟨rfl,rfl⟩)
            go_region
            all_goals go_wp2_with fail
            all_goals go_ret2
            all_goals exact⟨rfl,((H.out.setHart 33 _ _ (jX wf.h.len false) yX).setHart 34 _ _ (Qv (h:={d.h with held:=false}) wf.h.len 0) xP).below (Below.drew br),((Cgo.setHart _ 33 om _).trans (Cgo.setHart _ 34 om _)).drew⟩
          | true =>
            have hq2:¬d.h.heldAt=a:=fun e=>hq ⟨hh,e⟩
            rw[hh]at h33
            clear hq
            go_enter Tryz.func119,Tryz.ntmps119
            go_upto_region 1 with(fail)
            go_wp2_with (go_at_call 59;refine hl.out.mono ?_;rintro e w' ⟨rfl,rfl⟩)
            go_region
            all_goals go_wp2_with fail
            all_goals go_ret2
            all_goals exact⟨rfl,((H.out.setHart 33 _ _ (jX wf.h.len false) yX).setHart 34 _ _ (Qv (h:={d.h with held:=false}) wf.h.len 0) xP).below (Below.drew br),((Cgo.setHart _ 33 om _).trans (Cgo.setHart _ 34 om _)).drew⟩
      · have e:qb d op a b=(d.put 18 a (amo op old b),old,true):=by unfold qb;rw[hok,if_pos rfl,if_neg h46,if_neg h47,←hold]
        rw[e]
        have HAm:=lI (amo_any op old b w hlu.out.1 hlu.out.2 HB.out.1 HB.out.2)
        have HPut:=lI (cput_any h wf 18 a (amo op old b) HA.out (amo_lo op old b hlu.out HB.out))
        clear e h hold
        go_enter Tryz.func119,Tryz.ntmps119
        go_upto_region 1 with(fail)
        go_wp2_with (go_at_call 59;refine hl.out.mono ?_;rintro e w' ⟨rfl,rfl⟩)
        refine HAm.out.mono ?_
        rintro e w' ⟨rfl,rfl⟩
        go_wp2_with fail
        refine HPut.out.mono ?_
        rintro e w1 ⟨rfl,hc1,hg1⟩
        clear hp hm h33 h34 f33 f34
        go_wp2_with fail
        go_ret2
        exact⟨rfl,hc1,hg1⟩
end
end Go.Proofs.YtlfnddmncbkjaabGreatDoor.W
