import Derived.Test.YtlfnddmncbkjaacGreatZGL
import Derived.Test.YtlfnddmncbkjaacGreatZFbEnc
set_option linter.unusedVariables false
set_option linter.unusedSimpArgs false
set_option maxRecDepth 100000
set_option maxHeartbeats 4000000
namespace Go.Proofs.YtlfnddmncbkjaacGreat.W
open Go.RowKit Fb
theorem signed_12(n:Int)(w:World)(h:0≤n∧n<4096):Calls Tryz.prog 112 #[.int .u32 n,.int .i64 12] w fun e w'=>e=.returned (.int .i32 (sgn 2048 n))∧w=w':=by
  have HE:=lI (sgn_shift n 2048 1048576 om om h.1 om)
  obtain⟨h0,h1⟩:=h
  go_enter Tryz.func112,Tryz.ntmps112
  go_wp2
  go_ret
  exact⟨qR wN,rfl⟩
theorem signed_13(n:Int)(w:World)(h:0≤n∧n<8192):Calls Tryz.prog 112 #[.int .u32 n,.int .i64 13] w fun e w'=>e=.returned (.int .i32 (sgn 4096 n))∧w=w':=by
  have HE:=lI (sgn_shift n 4096 524288 om om h.1 om)
  obtain⟨h0,h1⟩:=h
  go_enter Tryz.func112,Tryz.ntmps112
  go_wp2
  go_ret
  exact⟨qR wN,rfl⟩
theorem signed_21(n:Int)(w:World)(h:0≤n∧n<2097152):Calls Tryz.prog 112 #[.int .u32 n,.int .i64 21] w fun e w'=>e=.returned (.int .i32 (sgn 1048576 n))∧w=w':=by
  have HE:=lI (sgn_shift n 1048576 2048 om om h.1 om)
  obtain⟨h0,h1⟩:=h
  go_enter Tryz.func112,Tryz.ntmps112
  go_wp2
  go_ret
  exact⟨qR wN,rfl⟩
theorem read_0(op x:Int)(w:World)(hx:U32 x):
    Calls Tryz.prog 95 #[.int .i64 op,.int .i64 0,.int .u32 x] w fun e w'=>e=.returned (.agg (ql (QZ op 0 x)))∧Below w.heap.size w w':=by
  have HX:=lI hx
  have hN:=Qc x hx
  obtain⟨hx0,hx1⟩:=hx
  go_enter Tryz.func95,Tryz.ntmps95
  go_wp2_with (first|(go_at_call 86;first|((with_reducible refine(Ja _ _ HX.out).mono ?_);rintro e w' ⟨rfl,nn,rfl⟩)|((with_reducible refine(JA _ _ HX.out).mono ?_);rintro e w' ⟨rfl,nn,rfl⟩)|((with_reducible refine(jY _ _ HX.out).mono ?_);rintro e w' ⟨rfl,nn,rfl⟩)))
  exact sP (v:=.agg #[.int .i64 op,.int .i64 (x / 128%32),.int .i64 (0),.int .i64 (0),.int .i32 (wrap32 (x-x%4096))]) yQ rfl ⟨rfl,Fb.blw⟩
theorem read_1(op x:Int)(w:World)(hx:U32 x):
    Calls Tryz.prog 95 #[.int .i64 op,.int .i64 1,.int .u32 x] w fun e w'=>e=.returned (.agg (ql (QZ op 1 x)))∧Below w.heap.size w w':=by
  have HX:=lI hx
  have o1:bits .or .u32 (x / 2147483648%2*1048576) (x / 4096%256*4096)=x / 2147483648%2*1048576+x / 4096%256*4096:=by
    have h:=or_lo (x / 2147483648%2) (x / 4096%256*4096) 20 om om om om om
    rw[show(x / 2147483648%2)*2 ^ 20=x / 2147483648%2*1048576 from by omega]at h
    exact h
  have o2:bits .or .u32 (x / 2147483648%2*1048576+x / 4096%256*4096) (x / 1048576%2*2048)=x / 2147483648%2*1048576+x / 4096%256*4096+x / 1048576%2*2048:=by
    have h:=or_lo (x / 2147483648%2*256+x / 4096%256) (x / 1048576%2*2048) 12 om om om om om
    rw[show(x / 2147483648%2*256+x / 4096%256)*2 ^ 12=x / 2147483648%2*1048576+x / 4096%256*4096 from by omega]at h
    exact h
  have o3:bits .or .u32 (x / 2147483648%2*1048576+x / 4096%256*4096+x / 1048576%2*2048) (x / 2097152%1024*2)=x / 2147483648%2*1048576+x / 4096%256*4096+x / 1048576%2*2048+x / 2097152%1024*2:=by
    have h:=or_lo (x / 2147483648%2*512+x / 4096%256*2+x / 1048576%2) (x / 2097152%1024*2) 11 om om om om om
    rw[show(x / 2147483648%2*512+x / 4096%256*2+x / 1048576%2)*2 ^ 11=x / 2147483648%2*1048576+x / 4096%256*4096+x / 1048576%2*2048 from by omega]at h
    exact h
  obtain⟨hx0,hx1⟩:=hx
  go_enter Tryz.func95,Tryz.ntmps95
  go_wp2_with (first|(go_at_call 86;first|((with_reducible refine(Ja _ _ HX.out).mono ?_);rintro e w' ⟨rfl,nn,rfl⟩)|((with_reducible refine(JA _ _ HX.out).mono ?_);rintro e w' ⟨rfl,nn,rfl⟩)|((with_reducible refine(jY _ _ HX.out).mono ?_);rintro e w' ⟨rfl,nn,rfl⟩)|((with_reducible refine(cut_31_31 _ _ HX.out).mono ?_);rintro e w' ⟨rfl,nn,rfl⟩)|((with_reducible refine(Jm _ _ HX.out).mono ?_);rintro e w' ⟨rfl,nn,rfl⟩)|((with_reducible refine(Jl _ _ HX.out).mono ?_);rintro e w' ⟨rfl,nn,rfl⟩)|((with_reducible refine(cut_21_30 _ _ HX.out).mono ?_);rintro e w' ⟨rfl,nn,rfl⟩))|(go_at_call 112;refine(signed_21 _ _ ?_).mono ?_;omega;rintro e w' ⟨rfl,rfl⟩))
  exact sP (v:=.agg #[.int .i64 op,.int .i64 (x / 128%32),.int .i64 (0),.int .i64 (0),.int .i32 (sgn 1048576 (x / 2147483648%2*1048576+x / 4096%256*4096+x / 1048576%2*2048+x / 2097152%1024*2))]) yQ rfl ⟨rfl,Fb.blw⟩
theorem read_2(op x:Int)(w:World)(hx:U32 x):
    Calls Tryz.prog 95 #[.int .i64 op,.int .i64 2,.int .u32 x] w fun e w'=>e=.returned (.agg (ql (QZ op 2 x)))∧Below w.heap.size w w':=by
  have HX:=lI hx
  obtain⟨hx0,hx1⟩:=hx
  go_enter Tryz.func95,Tryz.ntmps95
  go_wp2_with (first|(go_at_call 86;first|((with_reducible refine(Ja _ _ HX.out).mono ?_);rintro e w' ⟨rfl,nn,rfl⟩)|((with_reducible refine(JA _ _ HX.out).mono ?_);rintro e w' ⟨rfl,nn,rfl⟩)|((with_reducible refine(jY _ _ HX.out).mono ?_);rintro e w' ⟨rfl,nn,rfl⟩)|((with_reducible refine(cut_20_31 _ _ HX.out).mono ?_);rintro e w' ⟨rfl,nn,rfl⟩))|(go_at_call 112;refine(signed_12 _ _ ?_).mono ?_;omega;rintro e w' ⟨rfl,rfl⟩))
  exact sP (v:=.agg #[.int .i64 op,.int .i64 (x / 128%32),.int .i64 (x / 32768%32),.int .i64 (0),.int .i32 (sgn 2048 (x / 1048576%4096))]) yQ rfl ⟨rfl,Fb.blw⟩
theorem read_3(op x:Int)(w:World)(hx:U32 x):
    Calls Tryz.prog 95 #[.int .i64 op,.int .i64 3,.int .u32 x] w fun e w'=>e=.returned (.agg (ql (QZ op 3 x)))∧Below w.heap.size w w':=by
  have HX:=lI hx
  obtain⟨hx0,hx1⟩:=hx
  go_enter Tryz.func95,Tryz.ntmps95
  go_wp2_with (first|(go_at_call 86;first|((with_reducible refine(Ja _ _ HX.out).mono ?_);rintro e w' ⟨rfl,nn,rfl⟩)|((with_reducible refine(JA _ _ HX.out).mono ?_);rintro e w' ⟨rfl,nn,rfl⟩)|((with_reducible refine(jY _ _ HX.out).mono ?_);rintro e w' ⟨rfl,nn,rfl⟩)))
  exact sP (v:=.agg #[.int .i64 op,.int .i64 (x / 128%32),.int .i64 (x / 32768%32),.int .i64 (0),.int .i32 (x / 1048576%32)]) yQ rfl ⟨rfl,Fb.blw⟩
theorem read_4(op x:Int)(w:World)(hx:U32 x):
    Calls Tryz.prog 95 #[.int .i64 op,.int .i64 4,.int .u32 x] w fun e w'=>e=.returned (.agg (ql (QZ op 4 x)))∧Below w.heap.size w w':=by
  have HX:=lI hx
  have o1:bits .or .u32 (x / 2147483648%2*4096) (x / 128%2*2048)=x / 2147483648%2*4096+x / 128%2*2048:=by
    have h:=or_lo (x / 2147483648%2) (x / 128%2*2048) 12 om om om om om
    rw[show(x / 2147483648%2)*2 ^ 12=x / 2147483648%2*4096 from by omega]at h
    exact h
  have o2:bits .or .u32 (x / 2147483648%2*4096+x / 128%2*2048) (x / 33554432%64*32)=x / 2147483648%2*4096+x / 128%2*2048+x / 33554432%64*32:=by
    have h:=or_lo (x / 2147483648%2*2+x / 128%2) (x / 33554432%64*32) 11 om om om om om
    rw[show(x / 2147483648%2*2+x / 128%2)*2 ^ 11=x / 2147483648%2*4096+x / 128%2*2048 from by omega]at h
    exact h
  have o3:bits .or .u32 (x / 2147483648%2*4096+x / 128%2*2048+x / 33554432%64*32) (x / 256%16*2)=x / 2147483648%2*4096+x / 128%2*2048+x / 33554432%64*32+x / 256%16*2:=by
    have h:=or_lo (x / 2147483648%2*128+x / 128%2*64+x / 33554432%64) (x / 256%16*2) 5 om om om om om
    rw[show(x / 2147483648%2*128+x / 128%2*64+x / 33554432%64)*2 ^ 5=x / 2147483648%2*4096+x / 128%2*2048+x / 33554432%64*32 from by omega]at h
    exact h
  obtain⟨hx0,hx1⟩:=hx
  go_enter Tryz.func95,Tryz.ntmps95
  go_wp2_with (first|(go_at_call 86;first|((with_reducible refine(Ja _ _ HX.out).mono ?_);rintro e w' ⟨rfl,nn,rfl⟩)|((with_reducible refine(JA _ _ HX.out).mono ?_);rintro e w' ⟨rfl,nn,rfl⟩)|((with_reducible refine(jY _ _ HX.out).mono ?_);rintro e w' ⟨rfl,nn,rfl⟩)|((with_reducible refine(cut_31_31 _ _ HX.out).mono ?_);rintro e w' ⟨rfl,nn,rfl⟩)|((with_reducible refine(cut_7_7 _ _ HX.out).mono ?_);rintro e w' ⟨rfl,nn,rfl⟩)|((with_reducible refine(cut_25_30 _ _ HX.out).mono ?_);rintro e w' ⟨rfl,nn,rfl⟩)|((with_reducible refine(cut_8_11 _ _ HX.out).mono ?_);rintro e w' ⟨rfl,nn,rfl⟩))|(go_at_call 112;refine(signed_13 _ _ ?_).mono ?_;omega;rintro e w' ⟨rfl,rfl⟩))
  exact sP (v:=.agg #[.int .i64 op,.int .i64 (0),.int .i64 (x / 32768%32),.int .i64 (x / 1048576%32),.int .i32 (sgn 4096 (x / 2147483648%2*4096+x / 128%2*2048+x / 33554432%64*32+x / 256%16*2))]) yQ rfl ⟨rfl,Fb.blw⟩
theorem read_5(op x:Int)(w:World)(hx:U32 x):
    Calls Tryz.prog 95 #[.int .i64 op,.int .i64 5,.int .u32 x] w fun e w'=>e=.returned (.agg (ql (QZ op 5 x)))∧Below w.heap.size w w':=by
  have HX:=lI hx
  have o1:bits .or .u32 (x / 33554432%128*32) (x / 128%32)=x / 33554432%128*32+x / 128%32:=by
    have h:=or_lo (x / 33554432%128) (x / 128%32) 5 om om om om om
    rw[show(x / 33554432%128)*2 ^ 5=x / 33554432%128*32 from by omega]at h
    exact h
  obtain⟨hx0,hx1⟩:=hx
  go_enter Tryz.func95,Tryz.ntmps95
  go_wp2_with (first|(go_at_call 86;first|((with_reducible refine(Ja _ _ HX.out).mono ?_);rintro e w' ⟨rfl,nn,rfl⟩)|((with_reducible refine(JA _ _ HX.out).mono ?_);rintro e w' ⟨rfl,nn,rfl⟩)|((with_reducible refine(jY _ _ HX.out).mono ?_);rintro e w' ⟨rfl,nn,rfl⟩)|((with_reducible refine(cut_25_31 _ _ HX.out).mono ?_);rintro e w' ⟨rfl,nn,rfl⟩))|(go_at_call 112;refine(signed_12 _ _ ?_).mono ?_;omega;rintro e w' ⟨rfl,rfl⟩))
  exact sP (v:=.agg #[.int .i64 op,.int .i64 (0),.int .i64 (x / 32768%32),.int .i64 (x / 1048576%32),.int .i32 (sgn 2048 (x / 33554432%128*32+x / 128%32))]) yQ rfl ⟨rfl,Fb.blw⟩
theorem read_6(op x:Int)(w:World)(hx:U32 x):
    Calls Tryz.prog 95 #[.int .i64 op,.int .i64 6,.int .u32 x] w fun e w'=>e=.returned (.agg (ql (QZ op 6 x)))∧Below w.heap.size w w':=by
  have HX:=lI hx
  obtain⟨hx0,hx1⟩:=hx
  go_enter Tryz.func95,Tryz.ntmps95
  go_wp2_with (first|(go_at_call 86;first|((with_reducible refine(Ja _ _ HX.out).mono ?_);rintro e w' ⟨rfl,nn,rfl⟩)|((with_reducible refine(JA _ _ HX.out).mono ?_);rintro e w' ⟨rfl,nn,rfl⟩)|((with_reducible refine(jY _ _ HX.out).mono ?_);rintro e w' ⟨rfl,nn,rfl⟩)))
  exact sP (v:=.agg #[.int .i64 op,.int .i64 (x / 128%32),.int .i64 (x / 32768%32),.int .i64 (x / 1048576%32),.int .i32 (0)]) yQ rfl ⟨rfl,Fb.blw⟩
theorem read_7(op x:Int)(w:World)(hx:U32 x):
    Calls Tryz.prog 95 #[.int .i64 op,.int .i64 7,.int .u32 x] w fun e w'=>e=.returned (.agg (ql (QZ op 7 x)))∧Below w.heap.size w w':=by
  have HX:=lI hx
  obtain⟨hx0,hx1⟩:=hx
  go_enter Tryz.func95,Tryz.ntmps95
  go_wp2_with (first|(go_at_call 86;first|((with_reducible refine(Ja _ _ HX.out).mono ?_);rintro e w' ⟨rfl,nn,rfl⟩)|((with_reducible refine(JA _ _ HX.out).mono ?_);rintro e w' ⟨rfl,nn,rfl⟩)|((with_reducible refine(jY _ _ HX.out).mono ?_);rintro e w' ⟨rfl,nn,rfl⟩)|((with_reducible refine(cut_25_26 _ _ HX.out).mono ?_);rintro e w' ⟨rfl,nn,rfl⟩)))
  exact sP (v:=.agg #[.int .i64 op,.int .i64 (x / 128%32),.int .i64 (x / 32768%32),.int .i64 (x / 1048576%32),.int .i32 (x / 33554432%4)]) yQ rfl ⟨rfl,Fb.blw⟩
theorem read_8(op x:Int)(w:World)(hx:U32 x):
    Calls Tryz.prog 95 #[.int .i64 op,.int .i64 8,.int .u32 x] w fun e w'=>e=.returned (.agg (ql (QZ op 8 x)))∧Below w.heap.size w w':=by
  have HX:=lI hx
  obtain⟨hx0,hx1⟩:=hx
  go_enter Tryz.func95,Tryz.ntmps95
  go_wp2_with (first|(go_at_call 86;first|((with_reducible refine(Ja _ _ HX.out).mono ?_);rintro e w' ⟨rfl,nn,rfl⟩)|((with_reducible refine(JA _ _ HX.out).mono ?_);rintro e w' ⟨rfl,nn,rfl⟩)|((with_reducible refine(jY _ _ HX.out).mono ?_);rintro e w' ⟨rfl,nn,rfl⟩)))
  exact sP (v:=.agg #[.int .i64 op,.int .i64 (0),.int .i64 (0),.int .i64 (0),.int .i32 (0)]) yQ rfl ⟨rfl,Fb.blw⟩
theorem read_any(op f x:Int)(w:World)(hx:U32 x)(hf:0≤f∧f≤8):
    Calls Tryz.prog 95 #[.int .i64 op,.int .i64 f,.int .u32 x] w fun e w'=>e=.returned (.agg (ql (QZ op f x)))∧Below w.heap.size w w':=by
  have hc:f=0∨f=1∨f=2∨f=3∨f=4∨f=5∨f=6∨f=7∨f=8:=om
  rcases hc with rfl|rfl|rfl|rfl|rfl|rfl|rfl|rfl|rfl
  · exact read_0 op x w hx
  · exact read_1 op x w hx
  · exact read_2 op x w hx
  · exact read_3 op x w hx
  · exact read_4 op x w hx
  · exact read_5 op x w hx
  · exact read_6 op x w hx
  · exact read_7 op x w hx
  · exact read_8 op x w hx
theorem kind_bounds(op:Int)(h:1≤op∧op≤59):(0≤(qF op).form∧(qF op).form≤8)∧(0≤(qF op).low∧(qF op).low<128)∧(0≤(qF op).mid∧(qF op).mid<8)∧(0≤(qF op).up∧(qF op).up<128):=by
  have hk:∀k∈kinds,(0≤k.form∧k.form≤8)∧(0≤k.low∧k.low<128)∧(0≤k.mid∧k.mid<8)∧(0≤k.up∧k.up<128):=zL
  have e:qF op=kinds.getD (op-1).toNat ⟨0,0,0,0⟩:=by unfold qF QI;rw[if_pos (by simpa using h)]
  have hl:(op-1).toNat<kinds.length:=by have:kinds.length=59:=rfl;omega
  rw[e,List.getD,sZ hl]
  exact hk _ (sU hl)
theorem JY{w:World}{b:Nat}{cs:Array Value}{t:TypeId}(h:w.heap[b]? =some (.cells cs t (0,0)))(o:Nat):w.frozen? ⟨b,o,none⟩=false:=by
  simp[World.frozen?,h]
theorem qS{w:World}{b o:Nat}{cs:Array Value}{t:TypeId}{v:Value}(h:w.heap[b]? =some (.cells cs t (0,0)))(hv:cs[o]? =some v):w.cell? ⟨b,o,none⟩=some v:=by
  simp[World.cell?,h,hv]
theorem read_keep(op f x:Int)(w0 W:World)(hx:U32 x)(hf:0≤f∧f≤8)(hb:Below w0.heap.size w0 W):
    Calls Tryz.prog 95 #[.int .i64 op,.int .i64 f,.int .u32 x] W fun e w'=>e=.returned (.agg (ql (QZ op f x)))∧Below w0.heap.size w0 w':=
  (read_any op f x W hx hf).mono fun _ _ ⟨h1,h2⟩=>⟨h1,hb.trans (h2.mono hb.size)⟩
theorem decode_any(x:Int)(w:World)(hx:U32 x):
    Calls Tryz.prog 70 #[.int .u32 x] w fun e w'=>e=.returned (.tuple #[.agg (ql ((dec x).getD i0)),.bool (dec x).isSome])∧Below w.heap.size w w':=by
  have HX:=lI hx
  obtain⟨hx0,hx1⟩:=hx
  go_enter Tryz.func70,Tryz.ntmps70
  go_wp2_with fail
  have hb0:Below w.heap.size w (w.alloc (.cells #[.int .i64 0,.int .i64 0,.int .i64 0,.int .i64 0,.int .i32 0] 82)):=by go_grown
  have hz0:(w.alloc (.cells #[.int .i64 0,.int .i64 0,.int .i64 0,.int .i64 0,.int .i32 0] 82)).heap.size=w.heap.size+1:=zG
  have hblk:(w.alloc (.cells #[.int .i64 0,.int .i64 0,.int .i64 0,.int .i64 0,.int .i32 0] 82)).heap[w.heap.size]? =some (.cells #[.int .i64 0,.int .i64 0,.int .i64 0,.int .i64 0,.int .i32 0] 82 (0,0)):=sQ w _
  generalize w.alloc (.cells #[.int .i64 0,.int .i64 0,.int .i64 0,.int .i64 0,.int .i32 0] 82)=w1 at *
  go_loopw [4] (fun i wr=>∃k:Nat,i=.int .i64 (k+1:Int)∧k≤59∧Hid (∀j:Nat,j<k→qK ((j:Int)+1) x=false)∧∃w2,wr=w2∧Below w1.heap.size w1 w2) (fun i _=>60-(intOf i).toNat)
  case atStart=>exact⟨0,rfl,om,lI (by intro j hj;omega),_,rfl,Below.refl _ _⟩
  case round=>
    obtain⟨k,rfl,hk,HN,w2,hw2,hb⟩:=hrel
    subst hw2
    have hblk2:wr.heap[w.heap.size]? =some (.cells #[.int .i64 0,.int .i64 0,.int .i64 0,.int .i64 0,.int .i32 0] 82 (0,0)):=(hb.block w.heap.size om).trans hblk
    have hb1:=hb0.trans (hb.mono om)
    have hsz:=hb.size
    have HBLK:=lI hblk
    clear hblk
    by_cases hlt:k<59
    · have HK:=kind_bounds ((k:Int)+1) om
      have hkn:QI ((k:Int)+1)=true:=by unfold QI;simp;omega
      have HMB:Hid (qK ((k:Int)+1) x=(qf (qF ((k:Int)+1)) x&&((((k:Int)+1) !=46)||(x / 1048576%32==0)))):=lI rfl
      have HD:Hid (qK ((k:Int)+1) x=true→dec x=some (QZ ((k:Int)+1) (qF ((k:Int)+1)).form x)):=lI (fun h=>by
        unfold dec;rw[decOp_at x k hlt h HN.out];rfl)
      have HMB0:=HMB
      have HN2:Hid (qK ((k:Int)+1) x=false→∀j:Nat,j<k+1→qK ((j:Int)+1) x=false):=lI (fun h j hj=>if e:j=k then by subst e;exact h else HN.out j om)
      go_wp2_with fail
      refine(of_any _ _).mono ?_
      rintro e w3 ⟨rfl,hb3⟩
      have hblk3:=(hb3.block w.heap.size om).trans hblk2
      have hb4:=hb1.trans (hb3.mono om)
      have hb5:=hb.trans (hb3.mono om)
      have hsz3:=hb3.size
      rw[hkn]
      generalize qF ((k:Int)+1)=kd at *
      obtain⟨f,l,m,u⟩:=kd
      simp only[qg]at HK HD HMB HMB0 ⊢
      obtain⟨⟨f0,f1⟩,hl,hm,hu⟩:=HK
      have HL:=lI hl
      have HM:=lI hm
      have HU:=lI hu
      generalize qK ((k:Int)+1) x=mb at *
      have hf3:∀o,w3.frozen? ⟨w.heap.size,o,none⟩=false:=fun o=>JY hblk3 o
      clear hkn HN hblk2 hl hm hu hb3 hb1
      go_wp2_with fail
      refine(tells_any f l m u x _ HX.out HL.out HM.out HU.out).mono ?_
      rintro e w4 ⟨rfl,hb6⟩
      have hz6:w3.heap.size+1≤w4.heap.size:=by have:=hb6.size;simpa using this
      have hblk4:=(hb6.block w.heap.size zB).trans ((sR w3 _ om).trans hblk3)
      have hfm:w4.cell? ⟨w3.heap.size,0,none⟩=some (.int .i64 f):=(hb6.cell (p:=⟨w3.heap.size,0,none⟩) zG).trans yN
      have hb7:Below w.heap.size w w4:=hb4.trans (Below.trans (Below.alloc br om _) (hb6.mono zB))
      have hb8:Below w1.heap.size w1 w4:=hb5.trans (Below.trans (Below.alloc br om _) (hb6.mono zB))
      clear hb6 hb4 hb5 hblk3
      cases ht:qf ⟨f,l,m,u⟩ x with
      | false =>
        have hmf:mb=false:=by rw[HMB.out,ht];rfl
        have HN3:=lI (HN2.out hmf)
        clear ht hmf HMB HMB0 HD HN2
        go_wp2
        go_roundw
        case rel=>exact⟨k+1,by go_num,om,HN3,_,rfl,hb8⟩
        case measure=>simp[intOf];omega
      | true =>
        have ho1:w4.cell? ⟨w.heap.size,0,none⟩=some (.int .i64 0):=qS hblk4 rfl
        have ho2:w4.cell? ⟨w.heap.size,1,none⟩=some (.int .i64 0):=qS hblk4 rfl
        have ho3:w4.cell? ⟨w.heap.size,2,none⟩=some (.int .i64 0):=qS hblk4 rfl
        have ho4:w4.cell? ⟨w.heap.size,3,none⟩=some (.int .i64 0):=qS hblk4 rfl
        have ho5:w4.cell? ⟨w.heap.size,4,none⟩=some (.int .i32 0):=qS hblk4 rfl
        have hfz:=JY hblk4
        have HF:=lI (And.intro f0 f1)
        have HREAD:=fun(W:World) (hW:Below w4.heap.size w4 W)=>read_keep ((k:Int)+1) f x w4 W HX.out HF.out hW
        have HR:=lI HREAD
        clear HREAD hblk4 HL HM HU HMB
        by_cases h46:k=45
        · subst h46
          by_cases hc:x / 1048576%32=0
          · have e1:(((45:Nat):Int)+1==46)=true:=rfl
            have hc1:(x / 1048576%32==0)=true:=by simpa using hc
            have hmt:mb=true:=by rw[HMB0.out,ht,hc1];rfl
            have HDx:=lI (HD.out hmt)
            clear hmt HMB0 HD HN2 ht hc
            go_wp2_with fail
            refine(jY _ _ HX.out).mono ?_
            rintro e w' ⟨rfl,nd,rfl⟩
            go_wp2_with fail
            refine(HR.out _ (qC br _)).mono ?_
            rintro e w5 ⟨rfl,hb9⟩
            generalize QZ (((45:Nat):Int)+1) f x=r at *
            obtain⟨q1,q2,q3,q4,q5⟩:=r
            simp only[ql]
            have hlt4:w.heap.size<w4.heap.size:=om
            have go1:=(hb9.cell (p:=⟨w.heap.size,0,none⟩) hlt4).trans ho1
            have go2:=(hb9.cell (p:=⟨w.heap.size,1,none⟩) hlt4).trans ho2
            have go3:=(hb9.cell (p:=⟨w.heap.size,2,none⟩) hlt4).trans ho3
            have go4:=(hb9.cell (p:=⟨w.heap.size,3,none⟩) hlt4).trans ho4
            have go5:=(hb9.cell (p:=⟨w.heap.size,4,none⟩) hlt4).trans ho5
            have gof:=fun o=>(hb9.frozen (p:=⟨w.heap.size,o,none⟩) hlt4).trans (hfz o)
            have hb10:=hb7.trans (hb9.mono om)
            clear ho1 ho2 ho3 ho4 ho5 hfz hb9 hfm
            go_wp2_with fail
            exact sP (v:=.tuple #[.agg #[.int .i64 q1,.int .i64 q2,.int .i64 q3,.int .i64 q4,.int .i32 q5],.bool true]) (by simp[results,Tryz.results70,go_sem,go1,go2,go3,go4,go5]) rfl ⟨by rw[HDx.out];rfl,hb10.trans Fb.blw⟩
          · have hc1:(x / 1048576%32==0)=false:=by simpa using hc
            have hmf:mb=false:=by rw[HMB0.out,ht,hc1];rfl
            have HN3:=lI (HN2.out hmf)
            clear hmf HMB0 HD HN2 ht hc
            go_wp2_with fail
            refine(jY _ _ HX.out).mono ?_
            rintro e w' ⟨rfl,nd,rfl⟩
            go_wp2
            go_roundw
            case rel=>exact⟨45+1,by go_num,om,HN3,_,rfl,qC hb8 _⟩
            case measure=>simp[intOf]
        · have e1:(((k:Int)+1)==46)=false:=sH.2 om
          have e2:(((k:Int)+1) !=46)=true:=by simpa using (by omega:((k:Int)+1)≠46)
          have hmt:mb=true:=by rw[HMB0.out,ht,e2];rfl
          have HDx:=lI (HD.out hmt)
          clear hmt HMB0 HD HN2 ht e2
          go_wp2_with fail
          refine(HR.out _ br).mono ?_
          rintro e w5 ⟨rfl,hb9⟩
          generalize QZ ((k:Int)+1) f x=r at *
          obtain⟨q1,q2,q3,q4,q5⟩:=r
          simp only[ql]
          have hlt4:w.heap.size<w4.heap.size:=om
          have go1:=(hb9.cell (p:=⟨w.heap.size,0,none⟩) hlt4).trans ho1
          have go2:=(hb9.cell (p:=⟨w.heap.size,1,none⟩) hlt4).trans ho2
          have go3:=(hb9.cell (p:=⟨w.heap.size,2,none⟩) hlt4).trans ho3
          have go4:=(hb9.cell (p:=⟨w.heap.size,3,none⟩) hlt4).trans ho4
          have go5:=(hb9.cell (p:=⟨w.heap.size,4,none⟩) hlt4).trans ho5
          have gof:=fun o=>(hb9.frozen (p:=⟨w.heap.size,o,none⟩) hlt4).trans (hfz o)
          have hb10:=hb7.trans (hb9.mono om)
          clear ho1 ho2 ho3 ho4 ho5 hfz hb9 hfm
          go_wp2_with fail
          exact sP (v:=.tuple #[.agg #[.int .i64 q1,.int .i64 q2,.int .i64 q3,.int .i64 q4,.int .i32 q5],.bool true]) (by simp[results,Tryz.results70,go_sem,go1,go2,go3,go4,go5]) rfl ⟨by rw[HDx.out];rfl,hb10.trans Fb.blw⟩
    · obtain rfl:k=59:=om
      have HDN:Hid (dec x=none):=lI (by unfold dec;rw[decOp_none x HN.out];rfl)
      have ho1:wr.cell? ⟨w.heap.size,0,none⟩=some (.int .i64 0):=qS hblk2 rfl
      have ho2:wr.cell? ⟨w.heap.size,1,none⟩=some (.int .i64 0):=qS hblk2 rfl
      have ho3:wr.cell? ⟨w.heap.size,2,none⟩=some (.int .i64 0):=qS hblk2 rfl
      have ho4:wr.cell? ⟨w.heap.size,3,none⟩=some (.int .i64 0):=qS hblk2 rfl
      have ho5:wr.cell? ⟨w.heap.size,4,none⟩=some (.int .i32 0):=qS hblk2 rfl
      have hfz:=JY hblk2
      clear hblk2 HN
      go_wp2
      exact sP (v:=.tuple #[.agg #[.int .i64 0,.int .i64 0,.int .i64 0,.int .i64 0,.int .i32 0],.bool false]) (by simp[results,Tryz.results70,go_sem,ho1,ho2,ho3,ho4,ho5]) rfl ⟨by rw[HDN.out];rfl,hb1.trans Fb.blw⟩
theorem encode_no(op rd rs1 rs2 imm:Int)(w:World)(h:¬(1≤op∧op≤59∧0≤rd∧rd<32∧0≤rs1∧rs1<32∧0≤rs2∧rs2<32)):
    Calls Tryz.prog 63 #[.agg #[.int .i64 op,.int .i64 rd,.int .i64 rs1,.int .i64 rs2,.int .i32 imm]] w fun e w'=>e=.returned (.tuple #[.int .u32 0,.int .i64 2])∧Below w.heap.size w w':=by
  have hc:QI op=false∨(QI op=true∧rd<0)∨(QI op=true∧0≤rd∧32≤rd)∨(QI op=true∧0≤rd∧rd<32∧rs1<0)∨(QI op=true∧0≤rd∧rd<32∧0≤rs1∧32≤rs1)∨(QI op=true∧0≤rd∧rd<32∧0≤rs1∧rs1<32∧rs2<0)∨(QI op=true∧0≤rd∧rd<32∧0≤rs1∧rs1<32∧0≤rs2∧32≤rs2):=by
    unfold QI
    simp only[decide_eq_true_eq,decide_eq_false_iff_not]
    omega
  clear h
  have HOF:=lI (fun W=>of_any op W)
  generalize QI op=kn at *
  generalize qF op=kd at *
  obtain⟨f,l,m,u⟩:=kd
  simp only[qg]at HOF
  have ix0:∀W,(Instr.index 157 (.agg #[.int .i64 rd,.int .i64 rs1,.int .i64 rs2]) (.int .i64 0)).run Tryz.prog W=.ok (.int .i64 rd) W:=fun _=>by kernel_rfl
  have ix1:∀W,(Instr.index 157 (.agg #[.int .i64 rd,.int .i64 rs1,.int .i64 rs2]) (.int .i64 1)).run Tryz.prog W=.ok (.int .i64 rs1) W:=fun _=>by kernel_rfl
  have ix2:∀W,(Instr.index 157 (.agg #[.int .i64 rd,.int .i64 rs1,.int .i64 rs2]) (.int .i64 2)).run Tryz.prog W=.ok (.int .i64 rs2) W:=fun _=>by kernel_rfl
  rcases hc with rfl|⟨rfl,h2⟩|⟨rfl,h2,h3⟩|⟨rfl,h2,h3,h4⟩|⟨rfl,h2,h3,h4,h5⟩|⟨rfl,h2,h3,h4,h5,h6⟩|⟨rfl,h2,h3,h4,h5,h6,h7⟩
  all_goals
    (try have z1:decide (rd<32)=false:=decide_eq_false om)
    (try have z2:decide (rs1<32)=false:=decide_eq_false om)
    (try have z3:decide (rs2<32)=false:=decide_eq_false om)
    go_enter Tryz.func63,Tryz.ntmps63
    go_wp2_with fail
    refine(HOF.out _).mono ?_
    rintro e w1 ⟨rfl,hb1⟩
    have hblk:=(hb1.block w.heap.size zG).trans (sQ w (.cells #[.int .i64 op,.int .i64 rd,.int .i64 rs1,.int .i64 rs2,.int .i32 imm] 82))
    have c1:w1.cell? ⟨w.heap.size,1,none⟩=some (.int .i64 rd):=qS hblk rfl
    have c2:w1.cell? ⟨w.heap.size,2,none⟩=some (.int .i64 rs1):=qS hblk rfl
    have c3:w1.cell? ⟨w.heap.size,3,none⟩=some (.int .i64 rs2):=qS hblk rfl
    have hlt1:w.heap.size<w1.heap.size:=yM
    have d1:=(sI w1 (.cells #[.int .i64 f,.int .u32 l,.int .u32 m,.int .u32 u] 154) ⟨w.heap.size,1,none⟩ hlt1).trans c1
    have d2:=(sI w1 (.cells #[.int .i64 f,.int .u32 l,.int .u32 m,.int .u32 u] 154) ⟨w.heap.size,2,none⟩ hlt1).trans c2
    have d3:=(sI w1 (.cells #[.int .i64 f,.int .u32 l,.int .u32 m,.int .u32 u] 154) ⟨w.heap.size,3,none⟩ hlt1).trans c3
    have hb2:Below w.heap.size w w1:=Below.trans (Below.alloc br (sO _) _) (hb1.mono zG)
    have hz:=Nat.le_of_lt hlt1
    clear hblk c1 c2 c3 hb1 hlt1
    go_wp2_with fail
    go_rounds 4
    all_goals go_ret2
    all_goals exact⟨rfl,hb2.trans (Below.alloc br hz _)⟩
theorem je(w0 W:World)(x c:Int)(hb:Below w0.heap.size w0 W)(h:x=c)(hu:U32 c):
    Calls Tryz.prog 70 #[.int .u32 x] W fun e w'=>e=.returned (.tuple #[.agg (ql ((dec c).getD i0)),.bool (dec c).isSome])∧Below w0.heap.size w0 w':=by
  subst h;exact(decode_any x W hu).mono fun _ _ ⟨h1,h2⟩=>⟨h1,hb.trans (h2.mono hb.size)⟩
end Go.Proofs.YtlfnddmncbkjaacGreat.W
