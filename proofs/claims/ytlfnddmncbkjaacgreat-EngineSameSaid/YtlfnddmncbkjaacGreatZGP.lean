import Derived.Test.YtlfnddmncbkjaacGreatZGO
import Derived.Test.YtlfnddmncbkjaacGreatZWCache8
set_option linter.unusedVariables false
set_option linter.unusedSimpArgs false
set_option maxRecDepth 100000
set_option maxHeartbeats 4000000
namespace Go.Proofs.YtlfnddmncbkjaacGreat.W
open Go.RowKit Fb
theorem ji(op:Int)(w:World):
    Calls Tryz.prog 92 #[.int .i64 op] w fun e w'=>e=.returned (.int .u32 (qM op))∧w=w':=by
  go_enter Tryz.func92,Tryz.ntmps92
  go_wp2
  all_goals go_ret
  all_goals refine⟨qR ?_,rfl⟩
  all_goals simp_all [qM]
theorem jI(ao:Option Addr)(n c:Nat)(at_ many:Int)(w:World)(hn:n≤maxLen)(ha:U32 at_)(hm:U32 many):
    Calls Tryz.prog 93 #[.slice ao n c,.int .u32 at_,.int .u32 many] w fun e w'=>e=.returned (.bool (there n at_ many))∧w=w':=by
  unfold maxLen at hn
  unfold U32 at ha hm
  go_enter Tryz.func93,Tryz.ntmps93
  go_wp2
  all_goals go_ret
  all_goals refine⟨QS ?_,rfl⟩
  all_goals simp[there, *]
  all_goals omega
theorem load_no(ao:Option Addr)(n c:Nat)(op at_:Int)(w:World)(hn:n≤maxLen)(ha:U32 at_)(h:(loads op&&there n at_ (qM op))=false):
    Calls Tryz.prog 69 #[.slice ao n c,.int .i64 op,.int .u32 at_] w fun e w'=>e=.returned (.tuple #[.int .u32 0,.bool false])∧w=w':=by
  have hm:U32 (qM op):=xK
  by_cases h1:16≤op∧op≤18
  · obtain⟨h1,h2⟩:=h1
    clear h
    go_enter Tryz.func69,Tryz.ntmps69
    go_wp2_with (first|(go_at_call 92;refine(ji _ _).mono ?_;rintro e w' ⟨rfl,rfl⟩)|(go_at_call 93;refine(jI _ _ _ _ _ _ hn ha hm).mono ?_;rintro e w' ⟨rfl,rfl⟩))
    go_ret2
    exact⟨rfl,rfl⟩
  · have ht:there n at_ (qM op)=false:=by
      by_cases hl:loads op=true
      · simpa[hl]using h
      · have:qM op=0:=by
          simp[loads]at hl
          unfold qM
          rw[if_neg om,if_neg om,if_neg om]
        rw[this];simp[there]
    clear h
    have h3:op<16∨18<op:=om
    clear h1
    rcases h3 with h3|h3
    all_goals
      go_enter Tryz.func69,Tryz.ntmps69
      go_wp2_with (first|(go_at_call 92;refine(ji _ _).mono ?_;rintro e w' ⟨rfl,rfl⟩)|(go_at_call 93;refine(jI _ _ _ _ _ _ hn ha hm).mono ?_;rintro e w' ⟨rfl,rfl⟩))
      go_ret2
      exact⟨rfl,rfl⟩
theorem load_yes(b off c:Nat)(l:List Int)(op at_:Int)(w:World)(hn:l.length≤maxLen)(ha:U32 at_)(h:qN l op at_=true)
    (hc:∀i,i<l.length→w.cell? ⟨b,off+i,none⟩=some (.int .u8 (l.getD i 0))) (hb:∀i,0≤l.getD i 0∧l.getD i 0<256):
    Calls Tryz.prog 69 #[.slice (some ⟨b,off,none⟩) l.length c,.int .i64 op,.int .u32 at_] w fun e w'=>e=.returned (.tuple #[.int .u32 (qa l op at_),.bool true])∧w=w':=by
  have hm:U32 (qM op):=xK
  have ht:there l.length at_ (qM op)=true:=by simp[qN]at h;exact h.2
  have hop:op=11∨op=12∨op=13∨op=14∨op=15:=by simp[qN,loads]at h;omega
  have hat:at_.toNat+(qM op).toNat≤l.length:=by
    simp[there]at ht;unfold U32 at ha;omega
  have haf:at_+qM op≤4294967296:=by
    simp[there]at ht
    unfold U32 at ha
    rcases hop with rfl|rfl|rfl|rfl|rfl<;>simp[qM]at ht ⊢ <;>omega
  have ha0:=ha.1
  have ha1:=ha.2
  obtain⟨k,rfl⟩:=sS ha0
  rcases hop with rfl|rfl|rfl|rfl|rfl
  · have H:=lI h
    have hk0:k+1≤l.length:=xI
    have hk1:(k:Int)+1≤4294967296:=by simpa[qM]using haf
    have c0:=hc (k) om
    have b0:=hb (k)
    obtain⟨x0,hx0⟩:∃x,x=l.getD (k) 0:=⟨_,rfl⟩
    rw[←hx0]at c0 b0
    have X0:=lI hx0
    clear hx0
    clear hc hb h hat haf
    go_enter Tryz.func69,Tryz.ntmps69
    go_wp2_with (first|(go_at_call 92;refine(ji _ _).mono ?_;rintro e w' ⟨rfl,rfl⟩;rw[show qM 11=1 from rfl])|(go_at_call 93;refine(jI _ _ _ _ _ _ hn ha hm).mono ?_;rintro e w' ⟨rfl,rfl⟩))
    go_rounds 2
    go_ret2
    refine⟨congrArg (fun x=>Ending.returned (Value.tuple #[.int .u32 x,.bool true])) (?_:_=qa l 11 k),rfl⟩
    rw[mLoad_11 H.out,←X0.out,or0 _ om]
  · have H:=lI h
    have hk0:k+2≤l.length:=xI
    have hk1:(k:Int)+2≤4294967296:=by simpa[qM]using haf
    have c0:=hc (k) om
    have b0:=hb (k)
    obtain⟨x0,hx0⟩:∃x,x=l.getD (k) 0:=⟨_,rfl⟩
    rw[←hx0]at c0 b0
    have X0:=lI hx0
    clear hx0
    have c1:=hc (k+1) om
    have b1:=hb (k+1)
    obtain⟨x1,hx1⟩:∃x,x=l.getD (k+1) 0:=⟨_,rfl⟩
    rw[←hx1]at c1 b1
    have X1:=lI hx1
    clear hx1
    clear hc hb h hat haf
    go_enter Tryz.func69,Tryz.ntmps69
    go_wp2_with (first|(go_at_call 92;refine(ji _ _).mono ?_;rintro e w' ⟨rfl,rfl⟩;rw[show qM 12=2 from rfl])|(go_at_call 93;refine(jI _ _ _ _ _ _ hn ha hm).mono ?_;rintro e w' ⟨rfl,rfl⟩))
    go_rounds 3
    go_ret2
    refine⟨congrArg (fun x=>Ending.returned (Value.tuple #[.int .u32 x,.bool true])) (?_:_=qa l 12 k),rfl⟩
    rw[mLoad_12 H.out,←X0.out,←X1.out,le2 _ _ b0 b1]
  · have H:=lI h
    have hk0:k+4≤l.length:=xI
    have hk1:(k:Int)+4≤4294967296:=by simpa[qM]using haf
    have c0:=hc (k) om
    have b0:=hb (k)
    obtain⟨x0,hx0⟩:∃x,x=l.getD (k) 0:=⟨_,rfl⟩
    rw[←hx0]at c0 b0
    have X0:=lI hx0
    clear hx0
    have c1:=hc (k+1) om
    have b1:=hb (k+1)
    obtain⟨x1,hx1⟩:∃x,x=l.getD (k+1) 0:=⟨_,rfl⟩
    rw[←hx1]at c1 b1
    have X1:=lI hx1
    clear hx1
    have c2:=hc (k+2) om
    have b2:=hb (k+2)
    obtain⟨x2,hx2⟩:∃x,x=l.getD (k+2) 0:=⟨_,rfl⟩
    rw[←hx2]at c2 b2
    have X2:=lI hx2
    clear hx2
    have c3:=hc (k+3) om
    have b3:=hb (k+3)
    obtain⟨x3,hx3⟩:∃x,x=l.getD (k+3) 0:=⟨_,rfl⟩
    rw[←hx3]at c3 b3
    have X3:=lI hx3
    clear hx3
    clear hc hb h hat haf
    go_enter Tryz.func69,Tryz.ntmps69
    go_wp2_with (first|(go_at_call 92;refine(ji _ _).mono ?_;rintro e w' ⟨rfl,rfl⟩;rw[show qM 13=4 from rfl])|(go_at_call 93;refine(jI _ _ _ _ _ _ hn ha hm).mono ?_;rintro e w' ⟨rfl,rfl⟩))
    go_rounds 5
    go_ret2
    refine⟨congrArg (fun x=>Ending.returned (Value.tuple #[.int .u32 x,.bool true])) (?_:_=qa l 13 k),rfl⟩
    rw[uo H.out,←X0.out,←X1.out,←X2.out,←X3.out,le4 _ _ _ _ b0 b1 b2 b3]
  · have H:=lI h
    have hk0:k+1≤l.length:=xI
    have hk1:(k:Int)+1≤4294967296:=by simpa[qM]using haf
    have c0:=hc (k) om
    have b0:=hb (k)
    obtain⟨x0,hx0⟩:∃x,x=l.getD (k) 0:=⟨_,rfl⟩
    rw[←hx0]at c0 b0
    have X0:=lI hx0
    clear hx0
    clear hc hb h hat haf
    go_enter Tryz.func69,Tryz.ntmps69
    go_wp2_with (first|(go_at_call 92;refine(ji _ _).mono ?_;rintro e w' ⟨rfl,rfl⟩;rw[show qM 14=1 from rfl])|(go_at_call 93;refine(jI _ _ _ _ _ _ hn ha hm).mono ?_;rintro e w' ⟨rfl,rfl⟩))
    go_rounds 2
    go_ret2
    refine⟨congrArg (fun x=>Ending.returned (Value.tuple #[.int .u32 x,.bool true])) (?_:_=qa l 14 k),rfl⟩
    rw[mLoad_14 H.out,←X0.out,or0 _ om]
  · have H:=lI h
    have hk0:k+2≤l.length:=xI
    have hk1:(k:Int)+2≤4294967296:=by simpa[qM]using haf
    have c0:=hc (k) om
    have b0:=hb (k)
    obtain⟨x0,hx0⟩:∃x,x=l.getD (k) 0:=⟨_,rfl⟩
    rw[←hx0]at c0 b0
    have X0:=lI hx0
    clear hx0
    have c1:=hc (k+1) om
    have b1:=hb (k+1)
    obtain⟨x1,hx1⟩:∃x,x=l.getD (k+1) 0:=⟨_,rfl⟩
    rw[←hx1]at c1 b1
    have X1:=lI hx1
    clear hx1
    clear hc hb h hat haf
    go_enter Tryz.func69,Tryz.ntmps69
    go_wp2_with (first|(go_at_call 92;refine(ji _ _).mono ?_;rintro e w' ⟨rfl,rfl⟩;rw[show qM 15=2 from rfl])|(go_at_call 93;refine(jI _ _ _ _ _ _ hn ha hm).mono ?_;rintro e w' ⟨rfl,rfl⟩))
    go_rounds 3
    go_ret2
    refine⟨congrArg (fun x=>Ending.returned (Value.tuple #[.int .u32 x,.bool true])) (?_:_=qa l 15 k),rfl⟩
    rw[mLoad_15 H.out,←X0.out,←X1.out,le2 _ _ b0 b1]
theorem load_any(v:Value)(l:List Int)(op at_:Int)(w:World)(hv:Ints .u8 w v l)(ha:U32 at_)(hb:∀i,0≤l.getD i 0∧l.getD i 0<256):
    Calls Tryz.prog 69 #[v,.int .i64 op,.int .u32 at_] w fun e w'=>e=.returned (.tuple #[.int .u32 (qa l op at_),.bool (qN l op at_)])∧w=w':=by
  obtain⟨ao,cap,rfl,hc,hm,_,ho⟩:=hv.open
  by_cases h:qN l op at_=true
  · have hne:l≠[]:=by
      rintro rfl
      simp[qN,there]at h
      have:=ha.1;omega
    obtain⟨b,off,rfl,_,hcell⟩:=ho hne
    rw[h]
    exact load_yes b off cap l op at_ w om ha h hcell hb
  · have h':qN l op at_=false:=by simpa using h
    rw[h',show qa l op at_=0 from by unfold qa;rw[if_neg h]]
    exact load_no ao l.length cap op at_ w om ha h'
theorem put_no(ao:Option Addr)(n c:Nat)(op at_ x:Int)(w:World)(hn:n≤maxLen)(ha:U32 at_)(h:(stores op&&there n at_ (qM op))=false):
    Calls Tryz.prog 96 #[.slice ao n c,.int .i64 op,.int .u32 at_,.int .u32 x] w fun e w'=>e=.returned (.bool false)∧w=w':=by
  have hm:U32 (qM op):=xK
  by_cases h1:16≤op∧op≤18
  · have hs:stores op=true:=by simp[stores];omega
    have ht:there n at_ (qM op)=false:=by simpa[hs]using h
    obtain⟨h1,h2⟩:=h1
    clear h hs
    go_enter Tryz.func96,Tryz.ntmps96
    go_wp2_with (first|(go_at_call 92;refine(ji _ _).mono ?_;rintro e w' ⟨rfl,rfl⟩)|(go_at_call 93;refine(jI _ _ _ _ _ _ hn ha hm).mono ?_;rintro e w' ⟨rfl,rfl⟩))
    go_ret
    exact⟨rfl,rfl⟩
  · clear h
    have h3:op<16∨18<op:=om
    clear h1
    rcases h3 with h3|h3
    all_goals
      go_enter Tryz.func96,Tryz.ntmps96
      go_wp2_with (first|(go_at_call 92;refine(ji _ _).mono ?_;rintro e w' ⟨rfl,rfl⟩)|(go_at_call 93;refine(jI _ _ _ _ _ _ hn ha hm).mono ?_;rintro e w' ⟨rfl,rfl⟩))
      go_ret
      exact⟨rfl,rfl⟩
theorem put_yes(b off c:Nat)(l:List Int)(op:Int)(k:Nat)(x:Int)(w:World)(hn:l.length≤maxLen)(ha:U32 k)(hx:U32 x)(h:qU l op k=true)
    (hc:∀i,i<l.length→∃y,w.cell? ⟨b,off+i,none⟩=some y) (hf:∀i,i<l.length→w.frozen? ⟨b,off+i,none⟩=false):
    Calls Tryz.prog 96 #[.slice (some ⟨b,off,none⟩) l.length c,.int .i64 op,.int .u32 k,.int .u32 x] w fun e w'=>e=.returned (.bool true)∧w'=putW w b off k x (qM op).toNat:=by
  have hm:U32 (qM op):=xK
  have ht:there l.length k (qM op)=true:=by simp[qU]at h;exact h.2
  have hop:op=16∨op=17∨op=18:=by simp[qU,stores]at h;omega
  have hat:k+(qM op).toNat≤l.length:=by
    simp[there]at ht;unfold U32 at ha;omega
  have haf:k+qM op≤4294967296:=by
    simp[there]at ht
    unfold U32 at ha
    rcases hop with rfl|rfl|rfl<;>simp[qM]at ht ⊢ <;>omega
  have HA:=lI ha
  have HM:=lI hm
  have HT:=lI ht
  have HN:=lI hn
  have hx0:=hx.1
  have hx1:=hx.2
  clear ha hm hn
  rcases hop with rfl|rfl|rfl
  · have hk0:k+1≤l.length:=by simpa[qM]using hat
    have hk1:k+1≤4294967296:=yW
    have ht1:there l.length k 1=true:=HT.out
    have HM1:Hid (U32 1):=HM
    obtain⟨x0,c0⟩:=hc (k) om
    have f0:=hf (k) om
    clear hc hf h hat haf ht
    go_enter Tryz.func96,Tryz.ntmps96
    go_wp2_with (first|(go_at_call 92;refine(ji _ _).mono ?_;rintro e w' ⟨rfl,rfl⟩;rw[show qM 16=1 from rfl])|(go_at_call 93;refine(jI _ _ _ _ _ _ HN.out HA.out HM1.out).mono ?_;rintro e w' ⟨rfl,rfl⟩))
    go_rounds 2
    go_ret
    refine⟨rfl, ?_⟩
    simp[putW,qM]
  · have hk0:k+2≤l.length:=by simpa[qM]using hat
    have hk1:k+2≤4294967296:=yW
    have ht1:there l.length k 2=true:=HT.out
    have HM1:Hid (U32 2):=HM
    obtain⟨x0,c0⟩:=hc (k) om
    have f0:=hf (k) om
    obtain⟨x1,c1⟩:=hc (k+1) om
    have f1:=hf (k+1) om
    clear hc hf h hat haf ht
    go_enter Tryz.func96,Tryz.ntmps96
    go_wp2_with (first|(go_at_call 92;refine(ji _ _).mono ?_;rintro e w' ⟨rfl,rfl⟩;rw[show qM 17=2 from rfl])|(go_at_call 93;refine(jI _ _ _ _ _ _ HN.out HA.out HM1.out).mono ?_;rintro e w' ⟨rfl,rfl⟩))
    go_rounds 3
    go_ret
    refine⟨rfl, ?_⟩
    simp[putW,qM]
  · have hk0:k+4≤l.length:=by simpa[qM]using hat
    have hk1:k+4≤4294967296:=yW
    have ht1:there l.length k 4=true:=HT.out
    have HM1:Hid (U32 4):=HM
    obtain⟨x0,c0⟩:=hc (k) om
    have f0:=hf (k) om
    obtain⟨x1,c1⟩:=hc (k+1) om
    have f1:=hf (k+1) om
    obtain⟨x2,c2⟩:=hc (k+2) om
    have f2:=hf (k+2) om
    obtain⟨x3,c3⟩:=hc (k+3) om
    have f3:=hf (k+3) om
    clear hc hf h hat haf ht
    go_enter Tryz.func96,Tryz.ntmps96
    go_wp2_with (first|(go_at_call 92;refine(ji _ _).mono ?_;rintro e w' ⟨rfl,rfl⟩;rw[show qM 18=4 from rfl])|(go_at_call 93;refine(jI _ _ _ _ _ _ HN.out HA.out HM1.out).mono ?_;rintro e w' ⟨rfl,rfl⟩))
    go_rounds 5
    go_ret
    refine⟨rfl, ?_⟩
    simp[putW,qM]
    rw[show x / 16777216%256=x / 16777216 from by omega]
theorem fetch_any(v:Value)(l:List Int)(pc:Int)(w:World)(hv:Ints .u8 w v l)(hpc:U32 pc)(hb:∀i,0≤l.getD i 0∧l.getD i 0<256):
    Calls Tryz.prog 43 #[v,.int .u32 pc] w fun e w'=>e=.returned (.tuple #[.agg (ql (qm l pc).1),.int .i64 (qm l pc).2])∧Below w.heap.size w w':=by
  have HL:=lI (fun W h=>load_any v l 13 pc W h hpc hb)
  have HV:=lI hv
  have HU:Hid (U32 (qa l 13 pc)):=lI (um l pc hpc hb)
  have hF:qm l pc=if qN l 13 pc=true then(match dec (qa l 13 pc)with|some i=>(i,(0:Int))|none=>(i0,2))else(i0,1):=rfl
  obtain⟨fr,hfr⟩:∃r,r=qm l pc:=⟨_,rfl⟩
  rw[←hfr]at hF ⊢
  have HF:=lI hF
  clear hv hF hfr hpc
  go_enter Tryz.func43,Tryz.ntmps43
  go_wp2_with fail
  refine(HL.out _ (HV.out.below (Below.alloc br (sO _) _))).mono ?_
  rintro e w1 ⟨rfl,rfl⟩
  clear HL HV
  generalize qa l 13 pc=x at *
  cases ho:qN l 13 pc with
  | false =>
    rw[ho]at HF
    have HF2:Hid (fr=(i0,1)):=HF
    clear ho HF
    go_wp2_with fail
    exact sP (v:=.tuple #[.agg #[.int .i64 0,.int .i64 0,.int .i64 0,.int .i64 0,.int .i32 0],.int .i64 1]) (by simp[results,Tryz.results43,go_sem]) rfl ⟨by rw[HF2.out];rfl,Fb.blw⟩
  | true =>
    rw[ho]at HF
    have HF2:Hid (fr=(match dec x with|some i=>(i,(0:Int))|none=>(i0,2))):=HF
    clear ho HF
    go_wp2_with fail
    refine(decode_any x _ HU.out).mono ?_
    rintro e w2 ⟨rfl,hb2⟩
    have hblk:=(hb2.block w.heap.size zG).trans (sQ w (.cells #[.int .i64 0,.int .i64 0,.int .i64 0,.int .i64 0,.int .i32 0] 82))
    have hlt2:w.heap.size<w2.heap.size:=by have:=hb2.size;simp at this;omega
    have hb3:Below w.heap.size w w2:=Below.trans (Below.alloc br (sO _) _) (hb2.mono zG)
    have HFI:Hid (fr=((dec x).getD i0,if(dec x).isSome=true then 0 else 2)):=lI (by rw[HF2.out];cases dec x<;>rfl)
    have HFN:Hid ((dec x).isSome=false→fr=(i0,2)):=lI (by intro h;rw[HF2.out];cases hd:dec x with|none=>rfl|some y=>rw[hd]at h;cases h)
    clear HF2 hb2
    generalize (dec x).isSome=ok at *
    generalize (dec x).getD i0=j at *
    obtain⟨q1,q2,q3,q4,q5⟩:=j
    simp only[ql]
    obtain⟨w3,hw3⟩:∃w3,w3=w2.alloc (.cells #[.int .i64 q1,.int .i64 q2,.int .i64 q3,.int .i64 q4,.int .i32 q5] 82):=⟨_,rfl⟩
    have hblk3:w3.heap[w.heap.size]? =some (.cells #[.int .i64 0,.int .i64 0,.int .i64 0,.int .i64 0,.int .i32 0] 82 (0,0)):=by rw[hw3];exact(sR w2 _ hlt2).trans hblk
    have k0:w3.cell? ⟨w.heap.size,0,none⟩=some (.int .i64 0):=qS hblk3 rfl
    have k1:w3.cell? ⟨w.heap.size,1,none⟩=some (.int .i64 0):=qS hblk3 rfl
    have k2:w3.cell? ⟨w.heap.size,2,none⟩=some (.int .i64 0):=qS hblk3 rfl
    have k3:w3.cell? ⟨w.heap.size,3,none⟩=some (.int .i64 0):=qS hblk3 rfl
    have k4:w3.cell? ⟨w.heap.size,4,none⟩=some (.int .i32 0):=qS hblk3 rfl
    have kf:=JY hblk3
    have r0:w3.cell? ⟨w2.heap.size,0,none⟩=some (.int .i64 q1):=xD
    have r1:w3.cell? ⟨w2.heap.size,1,none⟩=some (.int .i64 q2):=xD
    have r2:w3.cell? ⟨w2.heap.size,2,none⟩=some (.int .i64 q3):=xD
    have r3:w3.cell? ⟨w2.heap.size,3,none⟩=some (.int .i64 q4):=xD
    have r4:w3.cell? ⟨w2.heap.size,4,none⟩=some (.int .i32 q5):=xD
    have hb4:Below w.heap.size w w3:=by rw[hw3];exact hb3.trans (Below.alloc br (Nat.le_of_lt hlt2) _)
    have HW3:=lI hw3
    clear hw3 hblk hblk3 hlt2 hb3
    go_upto_region 5 with(fail)
    rw[←HW3.out]
    cases ok with
    | true =>
      go_wp2_with fail
      exact sP (v:=.tuple #[.agg #[.int .i64 q1,.int .i64 q2,.int .i64 q3,.int .i64 q4,.int .i32 q5],.int .i64 0]) (by simp[results,Tryz.results43,go_sem,k0,k1,k2,k3,k4]) rfl ⟨by rw[HFI.out];rfl,hb4.trans Fb.blw⟩
    | false =>
      have HFJ:Hid (fr=(i0,2)):=lI (HFN.out rfl)
      go_wp2_with fail
      exact sP (v:=.tuple #[.agg #[.int .i64 0,.int .i64 0,.int .i64 0,.int .i64 0,.int .i32 0],.int .i64 2]) (by simp[results,Tryz.results43,go_sem,k0,k1,k2,k3,k4]) rfl ⟨by rw[HFJ.out];rfl,hb4.trans Fb.blw⟩
theorem ends_any(op:Int)(w:World):Calls Tryz.prog 62 #[.int .i64 op] w fun e w'=>e=.returned (.bool (lastB op))∧w=w':=by
  go_enter Tryz.func62,Tryz.ntmps62
  go_wp2
  all_goals go_ret
  all_goals refine⟨QS ?_,rfl⟩
  all_goals(try simp only[beq_iff_eq,sH,ne_eq,decide_eq_true_eq,decide_eq_false_iff_not]at *)
  all_goals(rw[Bool.eq_iff_iff];simp[lastB];omega)
theorem info_insb:(Tryz.prog.info? 82).map (fun i=>(i.zero,i.size,i.bytes))=some (some (.agg #[.int .i64 0,.int .i64 0,.int .i64 0,.int .i64 0,.int .i32 0]),5,40):=by kernel_rfl
theorem make_own(v:Value)(l:List Int)(pc:Int)(w:World)(hv:Ints .u8 w v l)(hpc:U32 pc)(hb:∀i,0≤l.getD i 0∧l.getD i 0<256)(hl:l.length≤140737488351232):
    Calls Tryz.prog 40 #[v,.int .u32 pc] w fun e w'=>(∃vi,e=.returned (.agg #[.int .u32 (jD l pc).1,vi])∧jV w' vi (jD l pc).2∧∀q,vi.ownBlock=some q→w.heap.size≤q)∧Below w.heap.size w w':=by
  have HF:=lI (fun p W (hp:U32 p) h=>fetch_any v l p W h hp hb)
  have HV:=lI hv
  obtain⟨ao,cap,rfl,hc1,hc2,_⟩:=hv.open
  by_cases hbig:4096<l.length
  · have hM:jD l pc=(0,[]):=by unfold jD;rw[if_pos hbig]
    rw[hM]
    clear hM HF HV
    go_enter Tryz.func40,Tryz.ntmps40
    go_wp2_with fail
    exact sP (v:=.agg #[.int .u32 0,.slice none 0 0]) (by simp[results,Tryz.results40,go_sem]) rfl ⟨⟨_,rfl,Sl.nil _ _,(by intro q hq;cases hq)⟩,Fb.blw⟩
  have hM:jD l pc=(pc,rowS l 16 pc):=by unfold jD;rw[if_neg hbig]
  rw[hM]
  clear hM
  dsimp only
  have HP:Hid (U32 pc):=lI hpc
  obtain⟨i0,hi,hi0,hi1,hi2⟩:=info_parts info_insb
  go_enter Tryz.func40,Tryz.ntmps40
  go_upto_region 3 with(fail)
  go_upto_region 4 with(fail)
  obtain⟨w0,hw0⟩:∃w0,w0=(w.alloc (.cells #[.int .u32 0,.slice none 0 0] 65)).alloc (.cells #[.int .u32 pc,.slice none 0 0] 65):=⟨_,rfl⟩
  rw[←hw0]
  have hs0:w0.heap.size=w.heap.size+2:=by rw[hw0];simp
  have hb0:Below w.heap.size w w0:=by rw[hw0];exact Fb.blw
  have HB0:Hid (BlkW (w.heap.size+1) 82 w0 pc []):=lI (by have:=BlkW.init (w.alloc (.cells #[.int .u32 0,.slice none 0 0] 65)) 82 65 pc;rw[hw0];simpa using this)
  have HR:Hid (w0.cell? ⟨w.heap.size,0,none⟩=some (.int .u32 0)∧w0.cell? ⟨w.heap.size,1,none⟩=some (.slice none 0 0)∧w0.frozen? ⟨w.heap.size,0,none⟩=false∧w0.frozen? ⟨w.heap.size,1,none⟩=false):=lI (by
    rw[hw0]
    exact⟨by go_cell,by go_cell,(jd _ zG).trans (by unfold World.frozen?;rw[sQ];simp),(jd _ zG).trans (by unfold World.frozen?;rw[sQ];simp)⟩)
  clear hw0
  go_wp2_with fail
  go_loopw [14,1] (fun i p wr=>∃(k:Nat) (q:Int) (pre:List InsD),i=.int .i64 k∧p=.int .u32 q∧U32 q∧k≤16∧pre.length=k∧Hid (pre++rowS l (16-k) q=rowS l 16 pc)∧Hid (BlkW (w.heap.size+1) 82 wr pc pre∧Grew (w.heap.size+1) 82 w0 wr)) (fun i _ _=>16-(intOf i).toNat)
  case atStart=>exact⟨0,pc,[],rfl,rfl,HP.out,om,rfl,lI rfl,lI ⟨HB0.out,Grew.refl _ _ _⟩⟩
  case round=>
    obtain⟨k,q,pre,rfl,rfl,hq,hk,rfl,HE,HW⟩:=hrel
    have hgb:Below (w.heap.size+1) w0 wr:=HW.out.2.below om
    have hbr:Below w.heap.size w wr:=hb0.trans (hgb.mono om)
    by_cases hlt:pre.length<16
    · have HS:=row_step l (15-pre.length) q
      rw[show 15-pre.length+1=16-pre.length from by omega]at HS
      rw[HS]at HE
      clear HS
      have HCF:=lI (HF.out q wr hq (HV.out.below hbr))
      generalize (qm l q).2=cc at *
      generalize (qm l q).1=ii at *
      go_wp2_with fail
      refine(HCF.out).mono ?_
      rintro e w1 ⟨rfl,hb1⟩
      obtain⟨q1,q2,q3,q4,q5⟩:=ii
      simp only[ql]
      have HW1:Hid (BlkW (w.heap.size+1) 82 w1 pc pre∧Grew (w.heap.size+1) 82 w0 w1):=lI ⟨HW.out.1.below hb1,HW.out.2.trans (.of_below hb1)⟩
      clear HW HCF hb1 hgb hbr
      by_cases hcc:cc=0
      · subst hcc
        rw[if_pos rfl]at HE
        obtain⟨c0,v,c1,c2,c3⟩:=HW1.out.1
        have hz1:=qH c0
        have HOWN:=lI c3
        have hsh:=qb c3
        have hfar:Hid (v.ownBlock≠some (w.heap.size+1)):=lI (fun e=>by have:=(c3.lt _ e).1;omega)
        have hfar2:Hid (∀k,v.ownBlock=some k→k<w1.heap.size):=lI (fun k e=>(c3.lt k e).2)
        clear c3
        obtain⟨w2,hw2⟩:∃w2,w2=w1.alloc (.cells #[.int .i64 q1,.int .i64 q2,.int .i64 q3,.int .i64 q4,.int .i32 q5] 82):=⟨_,rfl⟩
        have hz2:w1.heap.size<w2.heap.size:=by rw[hw2];simp
        have d0:w2.cell? ⟨w.heap.size+1,0,none⟩=some (.int .u32 pc):=by rw[hw2];exact(sI _ _ ⟨w.heap.size+1,0,none⟩ hz1).trans c0
        have d1:w2.cell? ⟨w.heap.size+1,1,none⟩=some v:=by rw[hw2];exact(sI _ _ ⟨w.heap.size+1,1,none⟩ hz1).trans c1
        have d2:w2.frozen? ⟨w.heap.size+1,1,none⟩=false:=by rw[hw2];exact(jd (p:=⟨w.heap.size+1,1,none⟩) _ hz1).trans c2
        have k0:(w2).cell? ⟨w1.heap.size,0,none⟩=some (.int .i64 q1):=zE
        have k1:(w2).cell? ⟨w1.heap.size,1,none⟩=some (.int .i64 q2):=zE
        have k2:(w2).cell? ⟨w1.heap.size,2,none⟩=some (.int .i64 q3):=zE
        have k3:(w2).cell? ⟨w1.heap.size,3,none⟩=some (.int .i64 q4):=zE
        have k4:(w2).cell? ⟨w1.heap.size,4,none⟩=some (.int .i32 q5):=zE
        have HOWN2:Hid (w2.ownsRow (w.heap.size+1+1) 82 5 v pre.length (pre.flatMap jO)):=lI (by rw[hw2];exact HOWN.out.alloc _)
        have HW2:=lI hw2
        clear hw2 c0 c1 c2
        obtain⟨ao2,cp2,rfl⟩:=hsh
        go_upto_region 7 with(fail)
        rw[←HW2.out]
        go_upto_region 9 with(at_builtin;refine jv rfl _ _ 63 rfl (w.heap.size+1+1) 82 i0 _ 5 40 Tryz.underlying63 hi hi0 hi1 hi2 rfl zL _ pre.length (pre.flatMap jO) rfl ?h1 _ 1 (jO ⟨q1,q2,q3,q4,q5⟩) rfl ?h2 (ilist_one _) ?h3 ?h4 ?h5 ?h6)
        case h1=>exact HOWN2.out.alloc _
        case h2=>exact Sl.mk (Qf w2 (jO ⟨q1,q2,q3,q4,q5⟩) _ _) rfl om zL
        case h3=>omega
        case h4=>unfold maxLen;omega
        case h5=>first|omega|(rw[World.size_alloc];omega)
        case h6=>
        intro v' w3 hown hgrow
        have hz3:w2.heap.size+1≤w3.heap.size:=by have:=hgrow.size;simpa using this
        have e0:w3.cell? ⟨w.heap.size+1,0,none⟩=some (.int .u32 pc):=((hgrow.cell_far ⟨w.heap.size+1,0,none⟩ zB (fun e=>hfar.out e.symm)).trans (sI _ _ ⟨w.heap.size+1,0,none⟩ yJ)).trans d0
        have e1:w3.cell? ⟨w.heap.size+1,1,none⟩=some (.slice ao2 pre.length cp2):=((hgrow.cell_far ⟨w.heap.size+1,1,none⟩ zB (fun e=>hfar.out e.symm)).trans (sI _ _ ⟨w.heap.size+1,1,none⟩ yJ)).trans d1
        have e2:w3.frozen? ⟨w.heap.size+1,1,none⟩=false:=((hgrow.frozen_far ⟨w.heap.size+1,1,none⟩ zB (fun e=>hfar.out e.symm)).trans (jd (p:=⟨w.heap.size+1,1,none⟩) _ yJ)).trans d2
        have m0:w3.cell? ⟨w1.heap.size,0,none⟩=some (.int .i64 q1):=((hgrow.cell_far ⟨w1.heap.size,0,none⟩ zB (fun e=>by have h9:=hfar2.out _ e.symm;simp at h9)).trans (sI _ _ ⟨w1.heap.size,0,none⟩ (by show w1.heap.size<_;omega))).trans k0
        have hsh2:=qb hown
        have HW4:Hid (BlkW (w.heap.size+1) 82 (w3.setCell ⟨w.heap.size+1,1,none⟩ v') pc (pre++[⟨q1,q2,q3,q4,q5⟩])∧Grew (w.heap.size+1) 82 w0 (w3.setCell ⟨w.heap.size+1,1,none⟩ v')):=
          lI ⟨BlkW.next e0 hown e1 e2,((HW1.out.2.trans ((by rw[HW2.out];exact Grew.alloc _ _ _ _:Grew (w.heap.size+1) 82 w1 w2).trans (Grew.alloc _ _ _ _))).put (HOWN2.out.alloc _) hgrow)⟩
        clear hown hgrow d0 d1 d2 k0 k1 k2 k3 k4 HOWN HOWN2 HW1 hfar hfar2 HW2
        obtain⟨ao3,cp3,rfl⟩:=hsh2
        have m1:(w3.setCell ⟨w.heap.size+1,1,none⟩ (.slice ao3 (pre.length+1) cp3)).cell? ⟨w1.heap.size,0,none⟩=some (.int .i64 q1):=(sJ _ _ _ _ (by intro hh;injection hh with h1 h2;omega)).trans m0
        go_upto_region 9 with(fail)
        clear m0 e0 e1 e2
        obtain⟨w5,hw5⟩:∃w5,w5=w3.setCell ⟨w.heap.size+1,1,none⟩ (.slice ao3 (pre.length+1) cp3):=⟨_,rfl⟩
        rw[←hw5]at m1 HW4 ⊢
        clear hw5 hz1 hz2 hz3
        have hbq:Below w.heap.size w w5:=hb0.trans ((HW4.out.2.below om).mono om)
        have HR5:Hid (w5.cell? ⟨w.heap.size,0,none⟩=some (.int .u32 0)∧w5.cell? ⟨w.heap.size,1,none⟩=some (.slice none 0 0)∧w5.frozen? ⟨w.heap.size,0,none⟩=false∧w5.frozen? ⟨w.heap.size,1,none⟩=false):=lI (by
          have hq:=HW4.out.2.below om
          exact⟨(hq.cell zG).trans HR.out.1,(hq.cell zG).trans HR.out.2.1,(World.frozen?_of_block (hq.block _ zG)).trans HR.out.2.2.1,(World.frozen?_of_block (hq.block _ zG)).trans HR.out.2.2.2⟩)
        cases hlb:lastB q1 with
        | true =>
          rw[hlb,if_pos rfl]at HE
          go_upto_region 12 with(go_at_call 62;refine(ends_any _ _).mono ?_;rintro e w6 ⟨rfl,rfl⟩;rw[hlb])
          obtain⟨n0,u,n1,n2,n3⟩:=HW4.out.1
          have el:(pre++[(⟨q1,q2,q3,q4,q5⟩:InsD)]).length=pre.length+1:=zG
          rw[el]at n3
          obtain⟨r0,r1,r2,r3⟩:=HR5.out
          obtain⟨ao4,cp4,rfl⟩:=qb n3
          have HN3:=lI n3
          clear n3
          go_wp2_with fail
          obtain⟨y0,y1⟩:=out2 (x0:=.int .u32 pc) (x1:=.slice ao4 (pre.length+1) cp4) r0 r1
          exact sP (v:=.agg #[.int .u32 pc,.slice ao4 (pre.length+1) cp4]) (by simp[results,Tryz.results40,go_sem,y0,y1]) rfl ⟨⟨_,rfl,by rw[←HE.out];unfold jV;rw[el];exact Qs (ownsRow_setCell_below (ownsRow_setCell_below HN3.out zB _) zB _),fun q hq=>by have:=(HN3.out.lt q hq).1;omega⟩,(hbq.setCell zG _).setCell zG _⟩
        | false =>
          rw[hlb,if_neg zG]at HE
          go_wp2_with (go_at_call 62;refine(ends_any _ _).mono ?_;rintro e w6 ⟨rfl,rfl⟩;rw[hlb])
          go_roundw
          case rel=>exact⟨pre.length+1,(q+4)%4294967296,pre++[⟨q1,q2,q3,q4,q5⟩],by go_num,by go_num,by unfold U32;omega,om,by simp,lI (by rw[←HE.out,List.append_assoc,show 16-(pre.length+1)=15-pre.length from by omega];rfl),HW4⟩
          case measure=>simp[intOf];omega
      · rw[if_neg hcc,List.append_nil]at HE
        obtain⟨w2,hw2⟩:∃w2,w2=w1.alloc (.cells #[.int .i64 q1,.int .i64 q2,.int .i64 q3,.int .i64 q4,.int .i32 q5] 82):=⟨_,rfl⟩
        have HW3:Hid (BlkW (w.heap.size+1) 82 w2 pc pre∧Grew (w.heap.size+1) 82 w0 w2):=lI (by rw[hw2];exact⟨HW1.out.1.below (Below.alloc br (sO _) _),HW1.out.2.trans (Grew.alloc _ _ _ _)⟩)
        have hq2:=HW3.out.2.below om
        have hbq:Below w.heap.size w w2:=hb0.trans (hq2.mono om)
        have HR5:Hid (w2.cell? ⟨w.heap.size,0,none⟩=some (.int .u32 0)∧w2.cell? ⟨w.heap.size,1,none⟩=some (.slice none 0 0)∧w2.frozen? ⟨w.heap.size,0,none⟩=false∧w2.frozen? ⟨w.heap.size,1,none⟩=false):=lI
          ⟨(hq2.cell zG).trans HR.out.1,(hq2.cell zG).trans HR.out.2.1,(World.frozen?_of_block (hq2.block _ zG)).trans HR.out.2.2.1,(World.frozen?_of_block (hq2.block _ zG)).trans HR.out.2.2.2⟩
        have HW2:=lI hw2
        clear hw2 HW1
        go_upto_region 7 with(fail)
        rw[←HW2.out]
        clear HW2
        go_upto_region 12 with(fail)
        obtain⟨n0,u,n1,n2,n3⟩:=HW3.out.1
        obtain⟨r0,r1,r2,r3⟩:=HR5.out
        obtain⟨ao4,cp4,rfl⟩:=qb n3
        have HN3:=lI n3
        clear n3
        go_wp2_with fail
        obtain⟨y0,y1⟩:=out2 (x0:=.int .u32 pc) (x1:=.slice ao4 pre.length cp4) r0 r1
        exact sP (v:=.agg #[.int .u32 pc,.slice ao4 pre.length cp4]) (by simp[results,Tryz.results40,go_sem,y0,y1]) rfl ⟨⟨_,rfl,by rw[←HE.out];exact Qs (ownsRow_setCell_below (ownsRow_setCell_below HN3.out zB _) zB _),fun q hq=>by have:=(HN3.out.lt q hq).1;omega⟩,(hbq.setCell zG _).setCell zG _⟩
    · have hk16:pre.length=16:=om
      rw[hk16,show rowS l (16-16) q=[]from rfl,List.append_nil]at HE
      have hq2:=HW.out.2.below om
      have hbq:Below w.heap.size w wr:=hb0.trans (hq2.mono om)
      have HR5:Hid (wr.cell? ⟨w.heap.size,0,none⟩=some (.int .u32 0)∧wr.cell? ⟨w.heap.size,1,none⟩=some (.slice none 0 0)∧wr.frozen? ⟨w.heap.size,0,none⟩=false∧wr.frozen? ⟨w.heap.size,1,none⟩=false):=lI
        ⟨(hq2.cell zG).trans HR.out.1,(hq2.cell zG).trans HR.out.2.1,(World.frozen?_of_block (hq2.block _ zG)).trans HR.out.2.2.1,(World.frozen?_of_block (hq2.block _ zG)).trans HR.out.2.2.2⟩
      go_upto_region 12 with(fail)
      obtain⟨n0,u,n1,n2,n3⟩:=HW.out.1
      rw[hk16]at n3
      obtain⟨r0,r1,r2,r3⟩:=HR5.out
      obtain⟨ao4,cp4,rfl⟩:=qb n3
      have HN3:=lI n3
      clear n3
      go_wp2_with fail
      obtain⟨y0,y1⟩:=out2 (x0:=.int .u32 pc) (x1:=.slice ao4 16 cp4) r0 r1
      exact sP (v:=.agg #[.int .u32 pc,.slice ao4 16 cp4]) (by simp[results,Tryz.results40,go_sem,y0,y1]) rfl ⟨⟨_,rfl,by rw[←HE.out];unfold jV;rw[hk16];exact Qs (ownsRow_setCell_below (ownsRow_setCell_below HN3.out zB _) zB _),fun q hq=>by have:=(HN3.out.lt q hq).1;omega⟩,(hbq.setCell zG _).setCell zG _⟩
theorem efind_yes{A:Nat→Prop}{ep mp bp:Nat}{w:World}{room pu st:Int}{v:Value}{zs:List BlkD}{n:Nat}(hA:∀q,A q→ep<q)(hN:∀q,w.heap.size≤q→A q)(hB:EnB A 56 65 82 ep mp bp w room pu st v zs)(hC:EnC A Tryz.prog 43 144 ep mp w zs n)(pc:Int)(hpc:U32 pc)(hlt:jC zs pc<zs.length):
    Calls Tryz.prog 24 #[.pointer (some ⟨ep,0,none⟩),.int .u32 pc] w fun e w'=>(∃vi vc l,⟨pc,vi,l⟩∈zs∧e=.returned (.tuple #[.agg #[.int .u32 pc,vi],vc])∧jV w' vi l∧Sl w' vc 5 (mkM pc l).length ((mkM pc l).flatMap JC)∧∀q,vc.ownBlock=some q→A q∧∃cs f,w'.heap[q]? =some (.cells cs 144 f))∧Below w.heap.size w w':=by
  have hep:=hB.lt
  clear hA hN
  have HFX:Hid (∀x∈zs,∀q,x.vi.ownBlock=some q→q<w.heap.size):=lI (fun x hx q e=>by obtain⟨cs,f,h⟩:=hB.typ.2 x hx q e;exact QV h)
  obtain⟨av,cv,rfl,hcv,hmv,-,-⟩:=hB.blks.1.open (fun _ _=>rfl) om
  unfold maxLen at hmv
  obtain⟨w1,hw1⟩:∃w1,w1=(w.alloc (.cells #[.int .u32 pc] 43)).alloc (.cells #[.int .u32 0,.slice none 0 0] 65):=⟨_,rfl⟩
  have hb1:Below w.heap.size w w1:=zK
  have hs1:w1.heap.size=w.heap.size+2:=yD
  have hp1:w1.cell? ⟨w.heap.size,0,none⟩=some (.int .u32 pc):=zA
  have hZ:w1.heap[w.heap.size+1]? =some (.cells #[.int .u32 0,.slice none 0 0] 65 (0,0)):=by
    have:=sQ (w.alloc (.cells #[.int .u32 pc] 43)) (.cells #[.int .u32 0,.slice none 0 0] 65)
    rw[World.size_alloc]at this
    rw[hw1];exact this
  have B1:=hB.below hb1
  have e2:=B1.at_.get (j:=2) rfl
  simp only[sM]at e2
  have HIX:=lI (eindexOf_any (.slice av zs.length cv) zs pc w.heap.size w1 B1.blks hp1)
  have hk0:QE zs pc=(jC zs pc:Int):=by unfold QE;rw[if_pos hlt]
  have hpk:zs[jC zs pc].pc=pc:=by
    have:(zs[jC zs pc].pc==pc)=true:=List.findIdx_getElem (p:=fun x:BlkD=>x.pc==pc) (xs:=zs) (w:=hlt)
    simpa using this
  obtain⟨k,hk⟩:∃k,k=jC zs pc:=⟨_,rfl⟩
  rw[hk0,←hk]at HIX
  have hlt':k<zs.length:=om
  obtain⟨x,hx⟩:∃x,x=zs[k]:=⟨_,rfl⟩
  have hxm:x∈zs:=by rw[hx];exact sU hlt'
  have hxp:x.pc=pc:=by rw[hx];subst hk;exact hpk
  have HB1:=lI B1
  have HC1:=lI (hC.below hb1)
  have HBW1:=lI hb1
  have HW1:=lI hw1
  have HX:=lI hx
  have HXM:=lI hxm
  have HXP:=lI hxp
  have HZ:=lI hZ
  have HPC:=lI hpc
  clear hB hb1 hw1 hZ hlt hk0 hpk hk hx hxm hxp hpc B1
  have h0k:(0:Int)≤(k:Int):=om
  go_enter Tryz.func24,Tryz.ntmps24
  go_upto_region 1 with(fail)
  rw[←HW1.out]
  go_wp2_with fail
  refine HIX.out.mono ?_
  rintro e w2 ⟨rfl,hb2⟩
  have hs2:=hb2.size
  have B2:=HB1.out.below hb2
  have C2:=HC1.out.below hb2
  have e2:=B2.at_.get (j:=2) rfl
  have e5:=B2.at_.get (j:=5) rfl
  have p2:=(hb2.cell (p:=⟨w.heap.size,0,none⟩) (show w.heap.size<w1.heap.size by omega)).trans hp1
  have z2:=(hb2.block (w.heap.size+1) om).trans HZ.out
  simp only[sM]at e2 e5
  obtain⟨_,_,_,_,_,-,ho⟩:=B2.blks.1.open (fun _ _=>rfl) om
  obtain⟨b,off,rfl,hbl,hel⟩:=ho (by intro e;rw[e]at hlt';simp at hlt')
  have hat:=hel k hlt'
  rw[←HX.out]at hat
  obtain⟨ax,cx,hvi,-⟩:=(B2.blks.2 x HXM.out).at_.open (fun _ _=>rfl) om
  have c0:=hat.get (j:=0) (v:=.int .u32 x.pc) rfl
  have c1:=hat.get (j:=1) (v:=x.vi) rfl
  rw[hvi]at c1
  rw[HXP.out]at c0
  simp only[sN]at c0
  have HVI:=lI hvi
  obtain⟨vc,hlk,hsl,hty⟩:=C2.look (T:=54) (E:=77) rfl rfl (fun _=>rfl) HXM.out (by rw[HXP.out];exact HPC.out)
  rw[HXP.out]at hlk hsl
  obtain⟨ac,cc,rfl,-⟩:=hsl.open (fun _ _=>rfl) om
  have HSL:=lI hsl
  have HTY:=lI hty
  have HAT:=lI (B2.blks.2 x HXM.out).at_
  have HB2:=lI (HBW1.out.trans (hb2.mono om))
  have ht2:w2.there (w.heap.size+1) 0 2:=Qd z2 rfl
  have z0:w2.cell? ⟨w.heap.size+1,0,none⟩=some (.int .u32 0):=by simp[World.cell?,z2]
  have z1:w2.cell? ⟨w.heap.size+1,1,none⟩=some (.slice none 0 0):=by simp[World.cell?,z2]
  have zf:∀o,w2.frozen? ⟨w.heap.size+1,o,none⟩=false:=fun o=>by simp[World.frozen?,z2]
  have f0:=zf 0
  have f1:=zf 1
  have hk1:(k:Int)<(zs.length:Int):=om
  have HZ2:=lI z2
  clear B2 hel hat hsl hty hvi zf z2 hb2 HC1 HB1 ho
  have hmp:mp<w2.heap.size:=C2.lt
  have hmz:mp≠w.heap.size+1:=by have:=hC.lt;omega
  have l0:=hlk w2.drew rfl
  have l1:=hlk ((w2.setCell ⟨w.heap.size+1,0,none⟩ (.int .u32 pc)).setCell ⟨w.heap.size+1,1,none⟩ (.slice ax x.ins.length cx)).drew ((sY _ _ _ _ hmz).trans (sY _ _ _ _ hmz))
  have HLK:=lI hlk
  clear hlk
  go_wp2_with fail
  go_region
  go_wp2_with fail
  have hsz:(Tryz.prog.info? 65).map (·.size)=some (#[.int .u32 pc,.slice ax x.ins.length cx]:Array Value).size:=xX
  have hld:=qQ (P:=Tryz.prog) (w:=w2.drew) (cs:=#[.int .u32 pc,.slice ax x.ins.length cx]) (show w2.drew.there (w.heap.size+1) 0 2 from ht2) Tryz.underlying65 rfl hsz
  have hb3:Below w2.heap.size w2 w2.drew:=Below.drew br
  have hb9:Below (w.heap.size+1) w2 (w2.drew.setCells (w.heap.size+1) 0 [.int .u32 pc,.slice ax x.ins.length cx]):=qB (sO _) _ _ _ (hb3.mono om)
  have HQ:∀j,j<w2.heap.size→j≠w.heap.size+1→(w2.drew.setCells (w.heap.size+1) 0 [.int .u32 pc,.slice ax x.ins.length cx]).heap[j]? =w2.heap[j]? :=fun j h1 h2=>(sY _ _ _ _ (by show j≠_;exact h2)).trans (sY _ _ _ _ (by show j≠_;exact h2))
  refine sP (QK zP _ zP hld) rfl ⟨⟨.slice ax x.ins.length cx,.slice ac (mkM pc x.ins).length cc,x.ins, ?_,rfl, ?_, ?_, ?_⟩,HB2.out.trans (hb9.mono om)⟩
  · have hm:=HXM.out
    obtain⟨xp,xv,xi⟩:=x
    have h1:=HXP.out
    have h2:=HVI.out
    dsimp only at h1 h2 hm ⊢
    subst h1
    rw[←h2];exact hm
  · have hat:=HAT.out
    rw[HVI.out]at hat
    exact jL hat (fun g hg=>HQ g (by have:=HFX.out x HXM.out g (by rw[HVI.out];exact hg);omega) (by have:=HFX.out x HXM.out g (by rw[HVI.out];exact hg);omega))
  · exact jL HSL.out (fun g hg=>by
      obtain⟨h1,cs,f,h2⟩:=HTY.out g hg
      exact HQ g (QV h2) (fun e=>by rw[e,HZ2.out]at h2;cases h2))
  · intro q hq
    obtain⟨h1,cs,f,h2⟩:=HTY.out q hq
    exact⟨h1,cs,f,(HQ q (QV h2) (fun e=>by rw[e,HZ2.out]at h2;cases h2)).trans h2⟩
end Go.Proofs.YtlfnddmncbkjaacGreat.W
namespace Go.Proofs.YtlfnddmncbkjaacGreat.Fb
open Go.RowKit
theorem jk.abs{m:List Int}{room:Int}{l l':List BlkD}(h:jk m room l)(e:l'.map BlkD.abs=l.map BlkD.abs):jk m room l':=by
  have hl:=len_abs e
  refine⟨h.room0,h.room1,by rw[hl];exact h.len,by rw[pcs_abs e];exact h.nodup,fun x hx=> ?_⟩
  obtain⟨y,hy,e2⟩:=List.mem_map.1 (show x.abs∈l.map BlkD.abs by rw[←e];exact List.mem_map_of_mem hx)
  have e3:y.pc=x.pc∧y.ins=x.ins:=wP
  rw[←e3.1,←e3.2];exact h.kept y hy
theorem placeI_none{zs:List BlkD}{pc:Int}(h:¬jC zs pc<zs.length):QE zs pc= -1∧∀x∈zs,x.pc≠pc:=by
  refine⟨by unfold QE;rw[if_neg h],fun x hx e=>h (List.findIdx_lt_length_of_exists ⟨x,hx,by simpa using e⟩)⟩
theorem put_tot{room pu st:Int}{zs:List BlkD}{y:BlkD}{n:Nat}(h:QE zs y.pc= -1)(ht:(zs.length:Int)+pu+st=n∧0≤pu∧0≤st)(hn:n≤1000000):
    ((putL room zs y).length:Int)+putP room pu zs y+st=(n+1:Nat)∧0≤putP room pu zs y∧0≤st:=by
  have hd:dq (QE zs y.pc) zs=zs:=by rw[h];rfl
  have hw:wrap64 (pu+1)=pu+1:=yH
  unfold putL putP
  rw[hd]
  split
  · rw[hw]
    simp only[List.length_drop,List.length_append,List.length_cons,List.length_nil]
    omega
  · simp only[List.length_append,List.length_cons,List.length_nil]
    omega
theorem put_code{room:Int}{zs zs':List BlkD}{y:BlkD}(hy:U32 y.pc)(hu:∀x∈zs,U32 x.pc)(hn:∀x∈zs,x.pc≠y.pc)(e:zs'.map BlkD.abs=(putL room zs y).map BlkD.abs):
    ∀x∈zs',U32 x.pc∧((x.pc=y.pc∧x.ins=y.ins)∨(x.pc≠y.pc∧∃z∈zs,x.pc=z.pc∧x.ins=z.ins)):=fun x hx=>by
  obtain⟨u,hu',e2⟩:=List.mem_map.1 (show x.abs∈(putL room zs y).map BlkD.abs by rw[←e];exact List.mem_map_of_mem hx)
  have e3:u.pc=x.pc∧u.ins=x.ins:=wP
  rw[←e3.1,←e3.2]
  rcases putL_mem hu' with h|h
  · exact⟨hu u h,.inr ⟨hn u h,u,h,rfl,rfl⟩⟩
  · rw[h];exact⟨hy,.inl ⟨rfl,rfl⟩⟩
theorem sl_block'{w w':World}{v:Value}{s n:Nat}{xs:List Value}(h:Sl w v s n xs)(hb:xs≠[]→∀g,v.ownBlock=some g→w'.heap[g]? =w.heap[g]?):Sl w' v s n xs:=by
  obtain⟨h1,ao,cap,h2,h3,h4,h5,h6⟩:=h
  refine⟨h1,ao,cap,h2,h3,h4,h5,fun a ha hx=>⟨(h6 a ha hx).1, ?_⟩⟩
  obtain⟨b,off,sp⟩:=a
  have h7:=h6 _ ha hx
  have hs:=h7.1
  simp only at hs
  subst hs
  intro j hj
  exact(qE (hb hx b (by rw[h2,ha];rfl)) _).trans (h7.2 j hj)
theorem make_pc{mem:List Int}(hm:mem.length≤4096)(pc:Int):(jD mem pc).1=pc:=by unfold jD;rw[if_neg om]
def FindPost(A:Nat→Prop)(P:Program)(K TE TB TI TM:TypeId)(ep mp bp:Nat)(w:World)(room st:Int)(mem:List Int)(pc:Int)(n:Nat)(e:Ending)(w':World):Prop:=
  ∃vi vc l,e=.returned (.tuple #[.agg #[.int .u32 pc,vi],vc])∧jV w' vi l∧Fr (fun j=>j=ep∨j=mp) w w'∧
    ((l = [] ∧ (jD mem pc).2 = [] ∧ Below w.heap.size w w') ∨
     (Kept mem pc l ∧ Sl w' vc 5 (mkM pc l).length ((mkM pc l).flatMap JC) ∧ (∀ q, vc.ownBlock = some q → A q ∧ ∃ cs f, w'.heap[q]? = some (.cells cs TM f)) ∧
      ∃v' zs' pu' n',EnB A TE TB TI ep mp bp w' room pu' st v' zs'∧EnC A P K TM ep mp w' zs' n'∧((zs'.length:Int)+pu'+st=(n':Nat)∧0≤pu'∧0≤st)∧jk mem room zs'∧n≤n'∧n'≤n+1∧1≤n'))
end Go.Proofs.YtlfnddmncbkjaacGreat.Fb
