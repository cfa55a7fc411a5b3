import Derived.Test.YtlfnddmncbkjaabGreatDoorZGC
import Derived.Test.YtlfnddmncbkjaabGreatDoorZFbEnc
set_option linter.unusedVariables false
set_option linter.unusedSimpArgs false
set_option maxRecDepth 100000
set_option maxHeartbeats 4000000
namespace Go.Proofs.YtlfnddmncbkjaabGreatDoor.W
open Go.RowKit Fb
theorem cS{p:Prop}(h:p:=by
 obtain⟨h0,h1⟩:=h
 go_enter Tryz.func92,Tryz.ntmps92
 go_wp2
 go_ret
 exact⟨qs xR,rfl⟩):p:=h
theorem signed_12(n:Int)(w:World)(h:0≤n∧n<4096):Calls Tryz.prog 92 #[.int .u32 n,.int .i64 12] w fun e w'=>e=.returned (.int .i32 (sgn 2048 n))∧w=w':=by
  have HE:=lI (sgn_shift n 2048 1048576 om om h.1 om)
  exact cS
theorem signed_13(n:Int)(w:World)(h:0≤n∧n<8192):Calls Tryz.prog 92 #[.int .u32 n,.int .i64 13] w fun e w'=>e=.returned (.int .i32 (sgn 4096 n))∧w=w':=by
  have HE:=lI (sgn_shift n 4096 524288 om om h.1 om)
  exact cS
theorem signed_21(n:Int)(w:World)(h:0≤n∧n<2097152):Calls Tryz.prog 92 #[.int .u32 n,.int .i64 21] w fun e w'=>e=.returned (.int .i32 (sgn 1048576 n))∧w=w':=by
  have HE:=lI (sgn_shift n 1048576 2048 om om h.1 om)
  exact cS
theorem read_0(op x:Int)(w:World)(hx:U32 x):
    Calls Tryz.prog 58 #[.int .i64 op,.int .i64 0,.int .u32 x] w fun e w'=>e=.returned (.agg (qr (QR op 0 x)))∧Below w.heap.size w w':=by
  have HX:=lI hx
  have hN:=QV x hx
  obtain⟨hx0,hx1⟩:=hx
  go_enter Tryz.func58,Tryz.ntmps58
  go_wp2_with (first|(go_at_call 57;first|((with_reducible refine(JK _ _ HX.out).mono ?_);rintro e w' ⟨rfl,nn,rfl⟩)|((with_reducible refine(jm _ _ HX.out).mono ?_);rintro e w' ⟨rfl,nn,rfl⟩)|((with_reducible refine(jL _ _ HX.out).mono ?_);rintro e w' ⟨rfl,nn,rfl⟩)))
  exact sO (v:=.agg #[.int .i64 op,.int .i64 (x / 128%32),.int .i64 (0),.int .i64 (0),.int .i32 (wrap32 (x-x%4096))]) yE rfl ⟨rfl,Fb.blw⟩
theorem read_1(op x:Int)(w:World)(hx:U32 x):
    Calls Tryz.prog 58 #[.int .i64 op,.int .i64 1,.int .u32 x] w fun e w'=>e=.returned (.agg (qr (QR op 1 x)))∧Below w.heap.size w w':=by
  have HX:=lI hx
  have o1:bits .or .u32 (x / 2147483648%2*1048576) (x / 4096%256*4096)=x / 2147483648%2*1048576+x / 4096%256*4096:=by
    have h:=or_lo (x / 2147483648%2) (x / 4096%256*4096) 20 om om om om om
    rw[show(x / 2147483648%2)*2 ^ 20=x / 2147483648%2*1048576 from by omega]at h
    exact h
  have o2:bits .or .u32 (x / 2147483648%2*1048576+x / 4096%256*4096) (x / 1048576%2*2048)=x / 2147483648%2*1048576+x / 4096%256*4096+x / 1048576%2*2048:=by
    have h:=or_lo (x / 2147483648%2*256+x / 4096%256) (x / 1048576%2*2048) 12 om om om om om
    rw[show(x / 2147483648%2*256+x / 4096%256)*2 ^ 12=x / 2147483648%2*1048576+x / 4096%256*4096 from by omega]at h
    exact h
  have o3:bits .or .u32 (x / 2147483648%2*1048576+x / 4096%256*4096+x / 1048576%2*2048) (x / 2097152%1024*2)=x / 2147483648%2*1048576+x / 4096%256*4096+x / 1048576%2*2048+x / 2097152%1024*2:=by
    have h:=or_lo (x / 2147483648%2*512+x / 4096%256*2+x / 1048576%2) (x / 2097152%1024*2) 11 om om om om om
    rw[show(x / 2147483648%2*512+x / 4096%256*2+x / 1048576%2)*2 ^ 11=x / 2147483648%2*1048576+x / 4096%256*4096+x / 1048576%2*2048 from by omega]at h
    exact h
  obtain⟨hx0,hx1⟩:=hx
  go_enter Tryz.func58,Tryz.ntmps58
  go_wp2_with (first|(go_at_call 57;first|((with_reducible refine(JK _ _ HX.out).mono ?_);rintro e w' ⟨rfl,nn,rfl⟩)|((with_reducible refine(jm _ _ HX.out).mono ?_);rintro e w' ⟨rfl,nn,rfl⟩)|((with_reducible refine(jL _ _ HX.out).mono ?_);rintro e w' ⟨rfl,nn,rfl⟩)|((with_reducible refine(cut_31_31 _ _ HX.out).mono ?_);rintro e w' ⟨rfl,nn,rfl⟩)|((with_reducible refine(JT _ _ HX.out).mono ?_);rintro e w' ⟨rfl,nn,rfl⟩)|((with_reducible refine(JS _ _ HX.out).mono ?_);rintro e w' ⟨rfl,nn,rfl⟩)|((with_reducible refine(cut_21_30 _ _ HX.out).mono ?_);rintro e w' ⟨rfl,nn,rfl⟩))|(go_at_call 92;refine(signed_21 _ _ ?_).mono ?_;omega;rintro e w' ⟨rfl,rfl⟩))
  exact sO (v:=.agg #[.int .i64 op,.int .i64 (x / 128%32),.int .i64 (0),.int .i64 (0),.int .i32 (sgn 1048576 (x / 2147483648%2*1048576+x / 4096%256*4096+x / 1048576%2*2048+x / 2097152%1024*2))]) yE rfl ⟨rfl,Fb.blw⟩
theorem read_2(op x:Int)(w:World)(hx:U32 x):
    Calls Tryz.prog 58 #[.int .i64 op,.int .i64 2,.int .u32 x] w fun e w'=>e=.returned (.agg (qr (QR op 2 x)))∧Below w.heap.size w w':=by
  have HX:=lI hx
  obtain⟨hx0,hx1⟩:=hx
  go_enter Tryz.func58,Tryz.ntmps58
  go_wp2_with (first|(go_at_call 57;first|((with_reducible refine(JK _ _ HX.out).mono ?_);rintro e w' ⟨rfl,nn,rfl⟩)|((with_reducible refine(jm _ _ HX.out).mono ?_);rintro e w' ⟨rfl,nn,rfl⟩)|((with_reducible refine(jL _ _ HX.out).mono ?_);rintro e w' ⟨rfl,nn,rfl⟩)|((with_reducible refine(cut_20_31 _ _ HX.out).mono ?_);rintro e w' ⟨rfl,nn,rfl⟩))|(go_at_call 92;refine(signed_12 _ _ ?_).mono ?_;omega;rintro e w' ⟨rfl,rfl⟩))
  exact sO (v:=.agg #[.int .i64 op,.int .i64 (x / 128%32),.int .i64 (x / 32768%32),.int .i64 (0),.int .i32 (sgn 2048 (x / 1048576%4096))]) yE rfl ⟨rfl,Fb.blw⟩
theorem read_3(op x:Int)(w:World)(hx:U32 x):
    Calls Tryz.prog 58 #[.int .i64 op,.int .i64 3,.int .u32 x] w fun e w'=>e=.returned (.agg (qr (QR op 3 x)))∧Below w.heap.size w w':=by
  have HX:=lI hx
  obtain⟨hx0,hx1⟩:=hx
  go_enter Tryz.func58,Tryz.ntmps58
  go_wp2_with (first|(go_at_call 57;first|((with_reducible refine(JK _ _ HX.out).mono ?_);rintro e w' ⟨rfl,nn,rfl⟩)|((with_reducible refine(jm _ _ HX.out).mono ?_);rintro e w' ⟨rfl,nn,rfl⟩)|((with_reducible refine(jL _ _ HX.out).mono ?_);rintro e w' ⟨rfl,nn,rfl⟩)))
  exact sO (v:=.agg #[.int .i64 op,.int .i64 (x / 128%32),.int .i64 (x / 32768%32),.int .i64 (0),.int .i32 (x / 1048576%32)]) yE rfl ⟨rfl,Fb.blw⟩
theorem read_4(op x:Int)(w:World)(hx:U32 x):
    Calls Tryz.prog 58 #[.int .i64 op,.int .i64 4,.int .u32 x] w fun e w'=>e=.returned (.agg (qr (QR op 4 x)))∧Below w.heap.size w w':=by
  have HX:=lI hx
  have o1:bits .or .u32 (x / 2147483648%2*4096) (x / 128%2*2048)=x / 2147483648%2*4096+x / 128%2*2048:=by
    have h:=or_lo (x / 2147483648%2) (x / 128%2*2048) 12 om om om om om
    rw[show(x / 2147483648%2)*2 ^ 12=x / 2147483648%2*4096 from by omega]at h
    exact h
  have o2:bits .or .u32 (x / 2147483648%2*4096+x / 128%2*2048) (x / 33554432%64*32)=x / 2147483648%2*4096+x / 128%2*2048+x / 33554432%64*32:=by
    have h:=or_lo (x / 2147483648%2*2+x / 128%2) (x / 33554432%64*32) 11 om om om om om
    rw[show(x / 2147483648%2*2+x / 128%2)*2 ^ 11=x / 2147483648%2*4096+x / 128%2*2048 from by omega]at h
    exact h
  have o3:bits .or .u32 (x / 2147483648%2*4096+x / 128%2*2048+x / 33554432%64*32) (x / 256%16*2)=x / 2147483648%2*4096+x / 128%2*2048+x / 33554432%64*32+x / 256%16*2:=by
    have h:=or_lo (x / 2147483648%2*128+x / 128%2*64+x / 33554432%64) (x / 256%16*2) 5 om om om om om
    rw[show(x / 2147483648%2*128+x / 128%2*64+x / 33554432%64)*2 ^ 5=x / 2147483648%2*4096+x / 128%2*2048+x / 33554432%64*32 from by omega]at h
    exact h
  obtain⟨hx0,hx1⟩:=hx
  go_enter Tryz.func58,Tryz.ntmps58
  go_wp2_with (first|(go_at_call 57;first|((with_reducible refine(JK _ _ HX.out).mono ?_);rintro e w' ⟨rfl,nn,rfl⟩)|((with_reducible refine(jm _ _ HX.out).mono ?_);rintro e w' ⟨rfl,nn,rfl⟩)|((with_reducible refine(jL _ _ HX.out).mono ?_);rintro e w' ⟨rfl,nn,rfl⟩)|((with_reducible refine(cut_31_31 _ _ HX.out).mono ?_);rintro e w' ⟨rfl,nn,rfl⟩)|((with_reducible refine(cut_7_7 _ _ HX.out).mono ?_);rintro e w' ⟨rfl,nn,rfl⟩)|((with_reducible refine(cut_25_30 _ _ HX.out).mono ?_);rintro e w' ⟨rfl,nn,rfl⟩)|((with_reducible refine(cut_8_11 _ _ HX.out).mono ?_);rintro e w' ⟨rfl,nn,rfl⟩))|(go_at_call 92;refine(signed_13 _ _ ?_).mono ?_;omega;rintro e w' ⟨rfl,rfl⟩))
  exact sO (v:=.agg #[.int .i64 op,.int .i64 (0),.int .i64 (x / 32768%32),.int .i64 (x / 1048576%32),.int .i32 (sgn 4096 (x / 2147483648%2*4096+x / 128%2*2048+x / 33554432%64*32+x / 256%16*2))]) yE rfl ⟨rfl,Fb.blw⟩
theorem read_5(op x:Int)(w:World)(hx:U32 x):
    Calls Tryz.prog 58 #[.int .i64 op,.int .i64 5,.int .u32 x] w fun e w'=>e=.returned (.agg (qr (QR op 5 x)))∧Below w.heap.size w w':=by
  have HX:=lI hx
  have o1:bits .or .u32 (x / 33554432%128*32) (x / 128%32)=x / 33554432%128*32+x / 128%32:=by
    have h:=or_lo (x / 33554432%128) (x / 128%32) 5 om om om om om
    rw[show(x / 33554432%128)*2 ^ 5=x / 33554432%128*32 from by omega]at h
    exact h
  obtain⟨hx0,hx1⟩:=hx
  go_enter Tryz.func58,Tryz.ntmps58
  go_wp2_with (first|(go_at_call 57;first|((with_reducible refine(JK _ _ HX.out).mono ?_);rintro e w' ⟨rfl,nn,rfl⟩)|((with_reducible refine(jm _ _ HX.out).mono ?_);rintro e w' ⟨rfl,nn,rfl⟩)|((with_reducible refine(jL _ _ HX.out).mono ?_);rintro e w' ⟨rfl,nn,rfl⟩)|((with_reducible refine(cut_25_31 _ _ HX.out).mono ?_);rintro e w' ⟨rfl,nn,rfl⟩))|(go_at_call 92;refine(signed_12 _ _ ?_).mono ?_;omega;rintro e w' ⟨rfl,rfl⟩))
  exact sO (v:=.agg #[.int .i64 op,.int .i64 (0),.int .i64 (x / 32768%32),.int .i64 (x / 1048576%32),.int .i32 (sgn 2048 (x / 33554432%128*32+x / 128%32))]) yE rfl ⟨rfl,Fb.blw⟩
theorem read_6(op x:Int)(w:World)(hx:U32 x):
    Calls Tryz.prog 58 #[.int .i64 op,.int .i64 6,.int .u32 x] w fun e w'=>e=.returned (.agg (qr (QR op 6 x)))∧Below w.heap.size w w':=by
  have HX:=lI hx
  obtain⟨hx0,hx1⟩:=hx
  go_enter Tryz.func58,Tryz.ntmps58
  go_wp2_with (first|(go_at_call 57;first|((with_reducible refine(JK _ _ HX.out).mono ?_);rintro e w' ⟨rfl,nn,rfl⟩)|((with_reducible refine(jm _ _ HX.out).mono ?_);rintro e w' ⟨rfl,nn,rfl⟩)|((with_reducible refine(jL _ _ HX.out).mono ?_);rintro e w' ⟨rfl,nn,rfl⟩)))
  exact sO (v:=.agg #[.int .i64 op,.int .i64 (x / 128%32),.int .i64 (x / 32768%32),.int .i64 (x / 1048576%32),.int .i32 (0)]) yE rfl ⟨rfl,Fb.blw⟩
theorem read_7(op x:Int)(w:World)(hx:U32 x):
    Calls Tryz.prog 58 #[.int .i64 op,.int .i64 7,.int .u32 x] w fun e w'=>e=.returned (.agg (qr (QR op 7 x)))∧Below w.heap.size w w':=by
  have HX:=lI hx
  obtain⟨hx0,hx1⟩:=hx
  go_enter Tryz.func58,Tryz.ntmps58
  go_wp2_with (first|(go_at_call 57;first|((with_reducible refine(JK _ _ HX.out).mono ?_);rintro e w' ⟨rfl,nn,rfl⟩)|((with_reducible refine(jm _ _ HX.out).mono ?_);rintro e w' ⟨rfl,nn,rfl⟩)|((with_reducible refine(jL _ _ HX.out).mono ?_);rintro e w' ⟨rfl,nn,rfl⟩)|((with_reducible refine(cut_25_26 _ _ HX.out).mono ?_);rintro e w' ⟨rfl,nn,rfl⟩)))
  exact sO (v:=.agg #[.int .i64 op,.int .i64 (x / 128%32),.int .i64 (x / 32768%32),.int .i64 (x / 1048576%32),.int .i32 (x / 33554432%4)]) yE rfl ⟨rfl,Fb.blw⟩
theorem read_8(op x:Int)(w:World)(hx:U32 x):
    Calls Tryz.prog 58 #[.int .i64 op,.int .i64 8,.int .u32 x] w fun e w'=>e=.returned (.agg (qr (QR op 8 x)))∧Below w.heap.size w w':=by
  have HX:=lI hx
  obtain⟨hx0,hx1⟩:=hx
  go_enter Tryz.func58,Tryz.ntmps58
  go_wp2_with (first|(go_at_call 57;first|((with_reducible refine(JK _ _ HX.out).mono ?_);rintro e w' ⟨rfl,nn,rfl⟩)|((with_reducible refine(jm _ _ HX.out).mono ?_);rintro e w' ⟨rfl,nn,rfl⟩)|((with_reducible refine(jL _ _ HX.out).mono ?_);rintro e w' ⟨rfl,nn,rfl⟩)))
  exact sO (v:=.agg #[.int .i64 op,.int .i64 (0),.int .i64 (0),.int .i64 (0),.int .i32 (0)]) yE rfl ⟨rfl,Fb.blw⟩
theorem read_any(op f x:Int)(w:World)(hx:U32 x)(hf:0≤f∧f≤8):
    Calls Tryz.prog 58 #[.int .i64 op,.int .i64 f,.int .u32 x] w fun e w'=>e=.returned (.agg (qr (QR op f x)))∧Below w.heap.size w w':=by
  have hc:f=0∨f=1∨f=2∨f=3∨f=4∨f=5∨f=6∨f=7∨f=8:=om
  rcases hc with rfl|rfl|rfl|rfl|rfl|rfl|rfl|rfl|rfl
  · exact read_0 op x w hx
  · exact read_1 op x w hx
  · exact read_2 op x w hx
  · exact read_3 op x w hx
  · exact read_4 op x w hx
  · exact read_5 op x w hx
  · exact read_6 op x w hx
  · exact read_7 op x w hx
  · exact read_8 op x w hx
theorem kind_bounds(op:Int)(h:1≤op∧op≤59):(0≤(qC op).form∧(qC op).form≤8)∧(0≤(qC op).low∧(qC op).low<128)∧(0≤(qC op).mid∧(qC op).mid<8)∧(0≤(qC op).up∧(qC op).up<128):=by
  have hk:∀k∈kinds,(0≤k.form∧k.form≤8)∧(0≤k.low∧k.low<128)∧(0≤k.mid∧k.mid<8)∧(0≤k.up∧k.up<128):=zF
  have e:qC op=kinds.getD (op-1).toNat ⟨0,0,0,0⟩:=by unfold qC qy;rw[if_pos (by simpa using h)]
  have hl:(op-1).toNat<kinds.length:=by have:kinds.length=59:=rfl;omega
  rw[e,List.getD,sU hl]
  exact hk _ (sR hl)
theorem JI{w:World}{b:Nat}{cs:Array Value}{t:TypeId}(h:w.heap[b]? =some (.cells cs t (0,0)))(o:Nat):w.frozen? ⟨b,o,none⟩=false:=by
  simp[World.frozen?,h]
theorem qM{w:World}{b o:Nat}{cs:Array Value}{t:TypeId}{v:Value}(h:w.heap[b]? =some (.cells cs t (0,0)))(hv:cs[o]? =some v):w.cell? ⟨b,o,none⟩=some v:=by
  simp[World.cell?,h,hv]
theorem read_keep(op f x:Int)(w0 W:World)(hx:U32 x)(hf:0≤f∧f≤8)(hb:Below w0.heap.size w0 W):
    Calls Tryz.prog 58 #[.int .i64 op,.int .i64 f,.int .u32 x] W fun e w'=>e=.returned (.agg (qr (QR op f x)))∧Below w0.heap.size w0 w':=
  (read_any op f x W hx hf).mono fun _ _ ⟨h1,h2⟩=>⟨h1,hb.trans (h2.mono hb.size)⟩
theorem cR{p:Prop}(h:p:=by
 obtain⟨q1,q2,q3,q4,q5⟩:=r
 simp only[qr]
 have hlt4:w.heap.size<w4.heap.size:=om
 have go1:=(hb9.cell (p:=⟨w.heap.size,0,none⟩) hlt4).trans ho1
 have go2:=(hb9.cell (p:=⟨w.heap.size,1,none⟩) hlt4).trans ho2
 have go3:=(hb9.cell (p:=⟨w.heap.size,2,none⟩) hlt4).trans ho3
 have go4:=(hb9.cell (p:=⟨w.heap.size,3,none⟩) hlt4).trans ho4
 have go5:=(hb9.cell (p:=⟨w.heap.size,4,none⟩) hlt4).trans ho5
 have gof:=fun o=>(hb9.frozen (p:=⟨w.heap.size,o,none⟩) hlt4).trans (hfz o)
 have hb10:=hb7.trans (hb9.mono om)
 clear ho1 ho2 ho3 ho4 ho5 hfz hb9 hfm
 go_wp2_with fail
 exact sO (v:=.tuple #[.agg #[.int .i64 q1,.int .i64 q2,.int .i64 q3,.int .i64 q4,.int .i32 q5],.bool true]) (by simp[results,Tryz.results33,go_sem,go1,go2,go3,go4,go5]) rfl ⟨by rw[HDx.out];rfl,hb10.trans Fb.blw⟩):p:=h
theorem decode_any(x:Int)(w:World)(hx:U32 x):
    Calls Tryz.prog 33 #[.int .u32 x] w fun e w'=>e=.returned (.tuple #[.agg (qr ((dec x).getD i0)),.bool (dec x).isSome])∧Below w.heap.size w w':=by
  have HX:=lI hx
  obtain⟨hx0,hx1⟩:=hx
  go_enter Tryz.func33,Tryz.ntmps33
  go_wp2_with fail
  have hb0:Below w.heap.size w (w.alloc (.cells #[.int .i64 0,.int .i64 0,.int .i64 0,.int .i64 0,.int .i32 0] 91)):=by go_grown
  have hz0:(w.alloc (.cells #[.int .i64 0,.int .i64 0,.int .i64 0,.int .i64 0,.int .i32 0] 91)).heap.size=w.heap.size+1:=zC
  have hblk:(w.alloc (.cells #[.int .i64 0,.int .i64 0,.int .i64 0,.int .i64 0,.int .i32 0] 91)).heap[w.heap.size]? =some (.cells #[.int .i64 0,.int .i64 0,.int .i64 0,.int .i64 0,.int .i32 0] 91 (0,0)):=sP w _
  generalize w.alloc (.cells #[.int .i64 0,.int .i64 0,.int .i64 0,.int .i64 0,.int .i32 0] 91)=w1 at *
  go_loopw [4] (fun i wr=>∃k:Nat,i=.int .i64 (k+1:Int)∧k≤59∧Hid (∀j:Nat,j<k→qH ((j:Int)+1) x=false)∧∃w2,wr=w2∧Below w1.heap.size w1 w2) (fun i _=>60-(intOf i).toNat)
  case atStart=>exact⟨0,rfl,om,lI (by intro j hj;omega),_,rfl,Below.refl _ _⟩
  case round=>
    obtain⟨k,rfl,hk,HN,w2,hw2,hb⟩:=hrel
    subst hw2
    have hblk2:wr.heap[w.heap.size]? =some (.cells #[.int .i64 0,.int .i64 0,.int .i64 0,.int .i64 0,.int .i32 0] 91 (0,0)):=(hb.block w.heap.size om).trans hblk
    have hb1:=hb0.trans (hb.mono om)
    have hsz:=hb.size
    have HBLK:=lI hblk
    clear hblk
    by_cases hlt:k<59
    · have HK:=kind_bounds ((k:Int)+1) om
      have hkn:qy ((k:Int)+1)=true:=by unfold qy;simp;omega
      have HMB:Hid (qH ((k:Int)+1) x=(qV (qC ((k:Int)+1)) x&&((((k:Int)+1) !=46)||(x / 1048576%32==0)))):=lI rfl
      have HD:Hid (qH ((k:Int)+1) x=true→dec x=some (QR ((k:Int)+1) (qC ((k:Int)+1)).form x)):=lI (fun h=>by
        unfold dec;rw[decOp_at x k hlt h HN.out];rfl)
      have HMB0:=HMB
      have HN2:Hid (qH ((k:Int)+1) x=false→∀j:Nat,j<k+1→qH ((j:Int)+1) x=false):=lI (fun h j hj=>if e:j=k then by subst e;exact h else HN.out j om)
      go_wp2_with fail
      refine(of_any _ _).mono ?_
      rintro e w3 ⟨rfl,hb3⟩
      have hblk3:=(hb3.block w.heap.size om).trans hblk2
      have hb4:=hb1.trans (hb3.mono om)
      have hb5:=hb.trans (hb3.mono om)
      have hsz3:=hb3.size
      rw[hkn]
      generalize qC ((k:Int)+1)=kd at *
      obtain⟨f,l,m,u⟩:=kd
      simp only[qW]at HK HD HMB HMB0 ⊢
      obtain⟨⟨f0,f1⟩,hl,hm,hu⟩:=HK
      have HL:=lI hl
      have HM:=lI hm
      have HU:=lI hu
      generalize qH ((k:Int)+1) x=mb at *
      have hf3:∀o,w3.frozen? ⟨w.heap.size,o,none⟩=false:=fun o=>JI hblk3 o
      clear hkn HN hblk2 hl hm hu hb3 hb1
      go_wp2_with fail
      refine(tells_any f l m u x _ HX.out HL.out HM.out HU.out).mono ?_
      rintro e w4 ⟨rfl,hb6⟩
      have hz6:w3.heap.size+1≤w4.heap.size:=by have:=hb6.size;simpa using this
      have hblk4:=(hb6.block w.heap.size zL).trans ((heap_alloc_old w3 _ om).trans hblk3)
      have hfm:w4.cell? ⟨w3.heap.size,0,none⟩=some (.int .i64 f):=(hb6.cell (p:=⟨w3.heap.size,0,none⟩) zC).trans (by go_cell)
      have hb7:Below w.heap.size w w4:=hb4.trans (Below.trans (Below.alloc br om _) (hb6.mono zL))
      have hb8:Below w1.heap.size w1 w4:=hb5.trans (Below.trans (Below.alloc br om _) (hb6.mono zL))
      clear hb6 hb4 hb5 hblk3
      cases ht:qV ⟨f,l,m,u⟩ x with
      | false =>
        have hmf:mb=false:=by rw[HMB.out,ht];rfl
        have HN3:=lI (HN2.out hmf)
        clear ht hmf HMB HMB0 HD HN2
        go_wp2
        go_roundw
        case rel=>exact⟨k+1,by go_num,om,HN3,_,rfl,hb8⟩
        case measure=>simp[intOf];omega
      | true =>
        have ho1:w4.cell? ⟨w.heap.size,0,none⟩=some (.int .i64 0):=qM hblk4 rfl
        have ho2:w4.cell? ⟨w.heap.size,1,none⟩=some (.int .i64 0):=qM hblk4 rfl
        have ho3:w4.cell? ⟨w.heap.size,2,none⟩=some (.int .i64 0):=qM hblk4 rfl
        have ho4:w4.cell? ⟨w.heap.size,3,none⟩=some (.int .i64 0):=qM hblk4 rfl
        have ho5:w4.cell? ⟨w.heap.size,4,none⟩=some (.int .i32 0):=qM hblk4 rfl
        have hfz:=JI hblk4
        have HF:=lI (And.intro f0 f1)
        have HREAD:=fun(W:World) (hW:Below w4.heap.size w4 W)=>read_keep ((k:Int)+1) f x w4 W HX.out HF.out hW
        have HR:=lI HREAD
        clear HREAD hblk4 HL HM HU HMB
        by_cases h46:k=45
        · subst h46
          by_cases hc:x / 1048576%32=0
          · have e1:(((45:Nat):Int)+1==46)=true:=rfl
            have hc1:(x / 1048576%32==0)=true:=by simpa using hc
            have hmt:mb=true:=by rw[HMB0.out,ht,hc1];rfl
            have HDx:=lI (HD.out hmt)
            clear hmt HMB0 HD HN2 ht hc
            go_wp2_with fail
            refine(jL _ _ HX.out).mono ?_
            rintro e w' ⟨rfl,nd,rfl⟩
            go_wp2_with fail
            refine(HR.out _ (qB br _)).mono ?_
            rintro e w5 ⟨rfl,hb9⟩
            generalize QR (((45:Nat):Int)+1) f x=r at *
            exact cR
          · have hc1:(x / 1048576%32==0)=false:=by simpa using hc
            have hmf:mb=false:=by rw[HMB0.out,ht,hc1];rfl
            have HN3:=lI (HN2.out hmf)
            clear hmf HMB0 HD HN2 ht hc
            go_wp2_with fail
            refine(jL _ _ HX.out).mono ?_
            rintro e w' ⟨rfl,nd,rfl⟩
            go_wp2
            go_roundw
            case rel=>exact⟨45+1,by go_num,om,HN3,_,rfl,qB hb8 _⟩
            case measure=>simp[intOf]
        · have e1:(((k:Int)+1)==46)=false:=sH.2 om
          have e2:(((k:Int)+1) !=46)=true:=by simpa using (by omega:((k:Int)+1)≠46)
          have hmt:mb=true:=by rw[HMB0.out,ht,e2];rfl
          have HDx:=lI (HD.out hmt)
          clear hmt HMB0 HD HN2 ht e2
          go_wp2_with fail
          refine(HR.out _ br).mono ?_
          rintro e w5 ⟨rfl,hb9⟩
          generalize QR ((k:Int)+1) f x=r at *
          exact cR
    · obtain rfl:k=59:=om
      have HDN:Hid (dec x=none):=lI (by unfold dec;rw[decOp_none x HN.out];rfl)
      have ho1:wr.cell? ⟨w.heap.size,0,none⟩=some (.int .i64 0):=qM hblk2 rfl
      have ho2:wr.cell? ⟨w.heap.size,1,none⟩=some (.int .i64 0):=qM hblk2 rfl
      have ho3:wr.cell? ⟨w.heap.size,2,none⟩=some (.int .i64 0):=qM hblk2 rfl
      have ho4:wr.cell? ⟨w.heap.size,3,none⟩=some (.int .i64 0):=qM hblk2 rfl
      have ho5:wr.cell? ⟨w.heap.size,4,none⟩=some (.int .i32 0):=qM hblk2 rfl
      have hfz:=JI hblk2
      clear hblk2 HN
      go_wp2
      exact sO (v:=.tuple #[.agg #[.int .i64 0,.int .i64 0,.int .i64 0,.int .i64 0,.int .i32 0],.bool false]) (by simp[results,Tryz.results33,go_sem,ho1,ho2,ho3,ho4,ho5]) rfl ⟨by rw[HDN.out];rfl,hb1.trans Fb.blw⟩
theorem encode_no(op rd rs1 rs2 imm:Int)(w:World)(h:¬(1≤op∧op≤59∧0≤rd∧rd<32∧0≤rs1∧rs1<32∧0≤rs2∧rs2<32)):
    Calls Tryz.prog 60 #[.agg #[.int .i64 op,.int .i64 rd,.int .i64 rs1,.int .i64 rs2,.int .i32 imm]] w fun e w'=>e=.returned (.tuple #[.int .u32 0,.int .i64 2])∧Below w.heap.size w w':=by
  have hc:qy op=false∨(qy op=true∧rd<0)∨(qy op=true∧0≤rd∧32≤rd)∨(qy op=true∧0≤rd∧rd<32∧rs1<0)∨(qy op=true∧0≤rd∧rd<32∧0≤rs1∧32≤rs1)∨(qy op=true∧0≤rd∧rd<32∧0≤rs1∧rs1<32∧rs2<0)∨(qy op=true∧0≤rd∧rd<32∧0≤rs1∧rs1<32∧0≤rs2∧32≤rs2):=by
    unfold qy
    simp only[decide_eq_true_eq,decide_eq_false_iff_not]
    omega
  clear h
  have HOF:=lI (fun W=>of_any op W)
  generalize qy op=kn at *
  generalize qC op=kd at *
  obtain⟨f,l,m,u⟩:=kd
  simp only[qW]at HOF
  have ix0:∀W,(Instr.index 180 (.agg #[.int .i64 rd,.int .i64 rs1,.int .i64 rs2]) (.int .i64 0)).run Tryz.prog W=.ok (.int .i64 rd) W:=fun _=>by kernel_rfl
  have ix1:∀W,(Instr.index 180 (.agg #[.int .i64 rd,.int .i64 rs1,.int .i64 rs2]) (.int .i64 1)).run Tryz.prog W=.ok (.int .i64 rs1) W:=fun _=>by kernel_rfl
  have ix2:∀W,(Instr.index 180 (.agg #[.int .i64 rd,.int .i64 rs1,.int .i64 rs2]) (.int .i64 2)).run Tryz.prog W=.ok (.int .i64 rs2) W:=fun _=>by kernel_rfl
  rcases hc with rfl|⟨rfl,h2⟩|⟨rfl,h2,h3⟩|⟨rfl,h2,h3,h4⟩|⟨rfl,h2,h3,h4,h5⟩|⟨rfl,h2,h3,h4,h5,h6⟩|⟨rfl,h2,h3,h4,h5,h6,h7⟩
  all_goals
    (try have z1:decide (rd<32)=false:=decide_eq_false om)
    (try have z2:decide (rs1<32)=false:=decide_eq_false om)
    (try have z3:decide (rs2<32)=false:=decide_eq_false om)
    go_enter Tryz.func60,Tryz.ntmps60
    go_wp2_with fail
    refine(HOF.out _).mono ?_
    rintro e w1 ⟨rfl,hb1⟩
    have hblk:=(hb1.block w.heap.size zC).trans (sP w (.cells #[.int .i64 op,.int .i64 rd,.int .i64 rs1,.int .i64 rs2,.int .i32 imm] 91))
    have c1:w1.cell? ⟨w.heap.size,1,none⟩=some (.int .i64 rd):=qM hblk rfl
    have c2:w1.cell? ⟨w.heap.size,2,none⟩=some (.int .i64 rs1):=qM hblk rfl
    have c3:w1.cell? ⟨w.heap.size,3,none⟩=some (.int .i64 rs2):=qM hblk rfl
    have hlt1:w.heap.size<w1.heap.size:=yB
    have d1:=(sI w1 (.cells #[.int .i64 f,.int .u32 l,.int .u32 m,.int .u32 u] 123) ⟨w.heap.size,1,none⟩ hlt1).trans c1
    have d2:=(sI w1 (.cells #[.int .i64 f,.int .u32 l,.int .u32 m,.int .u32 u] 123) ⟨w.heap.size,2,none⟩ hlt1).trans c2
    have d3:=(sI w1 (.cells #[.int .i64 f,.int .u32 l,.int .u32 m,.int .u32 u] 123) ⟨w.heap.size,3,none⟩ hlt1).trans c3
    have hb2:Below w.heap.size w w1:=Below.trans (Below.alloc br (sN _) _) (hb1.mono zC)
    have hz:=Nat.le_of_lt hlt1
    clear hblk c1 c2 c3 hb1 hlt1
    go_wp2_with fail
    go_rounds 4
    all_goals go_ret2
    all_goals exact⟨rfl,hb2.trans (Below.alloc br hz _)⟩
theorem jR(w0 W:World)(x c:Int)(hb:Below w0.heap.size w0 W)(h:x=c)(hu:U32 c):
    Calls Tryz.prog 33 #[.int .u32 x] W fun e w'=>e=.returned (.tuple #[.agg (qr ((dec c).getD i0)),.bool (dec c).isSome])∧Below w0.heap.size w0 w':=by
  subst h;exact(decode_any x W hu).mono fun _ _ ⟨h1,h2⟩=>⟨h1,hb.trans (h2.mono hb.size)⟩
theorem cP{p:Prop}(h:p:=by
 refine(jR w2 _ _ c ?hb ?he HUC.out).mono ?_
 case hb=>first|exact Below.refl _ _|exact qB br _|exact qB (qB br _) _
 case he=>first|exact HC.out|(rw[←HC.out];rfl)|(rw[←HC.out,QV _ HN.out];rfl)|(rw[←HC.out];simp[encK,Qy,orw])
 rintro e w3 ⟨rfl,hb3⟩
 have g0:=(hb3.cell (p:=⟨w.heap.size,0,none⟩) HLT.out).trans k0
 have g1:=(hb3.cell (p:=⟨w.heap.size,1,none⟩) HLT.out).trans k1
 have g2:=(hb3.cell (p:=⟨w.heap.size,2,none⟩) HLT.out).trans k2
 have g3:=(hb3.cell (p:=⟨w.heap.size,3,none⟩) HLT.out).trans k3
 have g4:=(hb3.cell (p:=⟨w.heap.size,4,none⟩) HLT.out).trans k4
 have hb4:Below w.heap.size w w3:=HB2.out.trans (hb3.mono (Nat.le_of_lt HLT.out))
 have hlt3:w.heap.size<w3.heap.size:=Nat.lt_of_lt_of_le HLT.out hb3.size
 clear k0 k1 k2 k3 k4 n0 n1 n2 n3 hb3
 obtain⟨j,hj⟩:∃j,j=(dec c).getD i0:=⟨_,rfl⟩
 have HJ:Hid (rc=(if((dec c).isSome&&decide (j=⟨op,rd,rs1,rs2,imm⟩))=true then c else 0)∧re=(if((dec c).isSome&&decide (j=⟨op,rd,rs1,rs2,imm⟩))=true then 0 else 2)):=lI (by
   rw[HR.out.1,HR.out.2]
   subst hj
   cases dec c with
   |none=>simp
   |some x=>simp)
 rw[←hj]
 clear hj HR HUC
 generalize (dec c).isSome=ok at *
 obtain⟨q1,q2,q3,q4,q5⟩:=j
 simp only[qr]
 obtain⟨w4,hw4⟩:∃w4,w4=w3.alloc (.cells #[.int .i64 q1,.int .i64 q2,.int .i64 q3,.int .i64 q4,.int .i32 q5] 91):=⟨_,rfl⟩
 have p0:w4.cell? ⟨w.heap.size,0,none⟩=some (.int .i64 op):=by rw[hw4];exact(sI w3 _ _ hlt3).trans g0
 have p1:w4.cell? ⟨w.heap.size,1,none⟩=some (.int .i64 rd):=by rw[hw4];exact(sI w3 _ _ hlt3).trans g1
 have p2:w4.cell? ⟨w.heap.size,2,none⟩=some (.int .i64 rs1):=by rw[hw4];exact(sI w3 _ _ hlt3).trans g2
 have p3:w4.cell? ⟨w.heap.size,3,none⟩=some (.int .i64 rs2):=by rw[hw4];exact(sI w3 _ _ hlt3).trans g3
 have p4:w4.cell? ⟨w.heap.size,4,none⟩=some (.int .i32 imm):=by rw[hw4];exact(sI w3 _ _ hlt3).trans g4
 have r0:w4.cell? ⟨w3.heap.size,0,none⟩=some (.int .i64 q1):=zJ
 have r1:w4.cell? ⟨w3.heap.size,1,none⟩=some (.int .i64 q2):=zJ
 have r2:w4.cell? ⟨w3.heap.size,2,none⟩=some (.int .i64 q3):=zJ
 have r3:w4.cell? ⟨w3.heap.size,3,none⟩=some (.int .i64 q4):=zJ
 have r4:w4.cell? ⟨w3.heap.size,4,none⟩=some (.int .i32 q5):=zJ
 have hb5:Below w.heap.size w w4:=zP
 have hg:Tryz.prog.eqGuardType Tryz.prog.depth 91=false:=zE
 have HW4:=lI hw4
 clear hw4 g0 g1 g2 g3 g4 hb4 hlt3
 go_upto_region 31 with(fail)
 rw[←HW4.out]
 cases ok with
 | false =>
   go_wp2_with fail
   go_ret2
   exact⟨by rw[HJ.out.1,HJ.out.2];rfl,hb5⟩
 | true =>
   go_wp2_with fail
   all_goals go_ret2
   all_goals refine⟨?_,hb5⟩
   all_goals clear p0 p1 p2 p3 p4 r0 r1 r2 r3 r4 hb5 hg ix0 ix1 ix2 HW4 HW2 HB2 HLT
   all_goals first
     | (have e1 : rc = c := by rw [HJ.out.1, if_pos zY]
        have e2:re=0:=yI
        rw[e1,e2,←HC.out]
        first|rfl|(rw[QV _ HN.out];rfl)|(simp[encK,Qy,orw];done))
     | (have e1 : rc = 0 := by rw [HJ.out.1, if_neg zY]
        have e2:re=2:=yJ
        rw[e1,e2]
        rfl)):p:=h
theorem cQ{p:Prop}(h:p:=by
 have n1:w2.cell? ⟨w1.heap.size,1,none⟩=some (.int .u32 l):=zM
 have n2:w2.cell? ⟨w1.heap.size,2,none⟩=some (.int .u32 m):=zM
 have n3:w2.cell? ⟨w1.heap.size,3,none⟩=some (.int .u32 u):=zM
 have hb2:Below w.heap.size w w2:=zH
 have hlt2:w.heap.size<w2.heap.size:=yW
 have HB2:=lI hb2
 have HLT:=lI hlt2
 have HW2:=lI hw2
 clear hblk hb1 hlt1 hb2 hlt2 hw2 HOF
 go_upto_region 2 with(fail)
 rw[←HW2.out]
 go_wp2_with fail
 (refine wp_loop_rounds 4 ?_;repeat any_goals(rw[rounds_succ];go_wp2_with (go_at_call 57;first|((with_reducible refine(JS _ _ HN.out).mono ?_);rintro e w' ⟨rfl,nn,rfl⟩)|((with_reducible refine(JT _ _ HN.out).mono ?_);rintro e w' ⟨rfl,nn,rfl⟩)|((with_reducible refine(Ji _ _ HN.out).mono ?_);rintro e w' ⟨rfl,nn,rfl⟩)|((with_reducible refine(ut _ _ HN.out).mono ?_);rintro e w' ⟨rfl,nn,rfl⟩)|((with_reducible refine(uu _ _ HN.out).mono ?_);rintro e w' ⟨rfl,nn,rfl⟩)|((with_reducible refine(UY _ _ HN.out).mono ?_);rintro e w' ⟨rfl,nn,rfl⟩)|((with_reducible refine(Jh _ _ HN.out).mono ?_);rintro e w' ⟨rfl,nn,rfl⟩)|((with_reducible refine(ur _ _ HN.out).mono ?_);rintro e w' ⟨rfl,nn,rfl⟩)|((with_reducible refine(cut_1_4 _ _ HN.out).mono ?_);rintro e w' ⟨rfl,nn,rfl⟩)|((with_reducible refine(uq _ _ HN.out).mono ?_);rintro e w' ⟨rfl,nn,rfl⟩)|((with_reducible refine(UZ _ _ HN.out).mono ?_);rintro e w' ⟨rfl,nn,rfl⟩))))
 exact cP):p:=h
theorem gpencode_01:(∀(op l m u rd rs1 rs2 imm c:Int) (w:World) (hop:1≤op∧op≤59) (hrd:0≤rd∧rd<32) (hr1:0≤rs1∧rs1<32) (hr2:0≤rs2∧rs2<32) (hl:0≤l∧l<128) (hm:0≤m∧m<8) (hup:0≤u∧u<32+1) (HK:Hid (qC op=⟨0,l,m,u⟩)) (HC:Hid (encK ⟨0,l,m,u⟩ rd rs1 rs2 (imm%4294967296)=c)),Calls Tryz.prog 60 #[.agg #[.int .i64 op,.int .i64 rd,.int .i64 rs1,.int .i64 rs2,.int .i32 imm]] w fun e w'=>e=.returned (.tuple #[.int .u32 (if dec c=some ⟨op,rd,rs1,rs2,imm⟩then c else 0),.int .i64 (if dec c=some ⟨op,rd,rs1,rs2,imm⟩then 0 else 2)])∧Below w.heap.size w w')∧(∀(op l m u rd rs1 rs2 imm c:Int) (w:World) (hop:1≤op∧op≤59) (hrd:0≤rd∧rd<32) (hr1:0≤rs1∧rs1<32) (hr2:0≤rs2∧rs2<32) (hl:0≤l∧l<128) (hm:0≤m∧m<8) (hup:0≤u∧u<32+1) (HK:Hid (qC op=⟨1,l,m,u⟩)) (HC:Hid (encK ⟨1,l,m,u⟩ rd rs1 rs2 (imm%4294967296)=c)),Calls Tryz.prog 60 #[.agg #[.int .i64 op,.int .i64 rd,.int .i64 rs1,.int .i64 rs2,.int .i32 imm]] w fun e w'=>e=.returned (.tuple #[.int .u32 (if dec c=some ⟨op,rd,rs1,rs2,imm⟩then c else 0),.int .i64 (if dec c=some ⟨op,rd,rs1,rs2,imm⟩then 0 else 2)])∧Below w.heap.size w w')∧(∀(op l m u rd rs1 rs2 imm c:Int) (w:World) (hop:1≤op∧op≤59) (hrd:0≤rd∧rd<32) (hr1:0≤rs1∧rs1<32) (hr2:0≤rs2∧rs2<32) (hl:0≤l∧l<128) (hm:0≤m∧m<8) (hup:0≤u∧u<32+1) (HK:Hid (qC op=⟨2,l,m,u⟩)) (HC:Hid (encK ⟨2,l,m,u⟩ rd rs1 rs2 (imm%4294967296)=c)),Calls Tryz.prog 60 #[.agg #[.int .i64 op,.int .i64 rd,.int .i64 rs1,.int .i64 rs2,.int .i32 imm]] w fun e w'=>e=.returned (.tuple #[.int .u32 (if dec c=some ⟨op,rd,rs1,rs2,imm⟩then c else 0),.int .i64 (if dec c=some ⟨op,rd,rs1,rs2,imm⟩then 0 else 2)])∧Below w.heap.size w w'):=by
 refine⟨fun op l m u rd rs1 rs2 imm c w hop hrd hr1 hr2 hl hm hup HK HC=> ?_,fun op l m u rd rs1 rs2 imm c w hop hrd hr1 hr2 hl hm hup HK HC=> ?_,fun op l m u rd rs1 rs2 imm c w hop hrd hr1 hr2 hl hm hup HK HC=> ?_⟩
 all_goals
  obtain⟨rc,hrc⟩:∃x,x=(if dec c=some ⟨op,rd,rs1,rs2,imm⟩then c else 0):=⟨_,rfl⟩
  obtain⟨re,hre⟩:∃x:Int,x=(if dec c=some ⟨op,rd,rs1,rs2,imm⟩then 0 else 2):=⟨_,rfl⟩
  rw[←hrc,←hre]
  have HR:=lI (And.intro hrc hre)
  clear hrc hre
  have HUC:Hid (U32 c):=lI yF
  have HN:Hid (U32 (imm%4294967296)):=lI (QE _)
  have HOF:=lI (fun W=>of_any op W)
  rw[HK.out]at HOF
  rw[show qy op=true from by unfold qy;simp;omega]at HOF
  simp only[qW]at HOF
  obtain⟨d0,d1⟩:=hrd
  obtain⟨a0,a1⟩:=hr1
  obtain⟨b0,b1⟩:=hr2
  obtain⟨l0,l1⟩:=hl
  obtain⟨m0,m1⟩:=hm
  obtain⟨u0,u1⟩:=hup
  clear hop
  have ix0:∀W,(Instr.index 180 (.agg #[.int .i64 rd,.int .i64 rs1,.int .i64 rs2]) (.int .i64 0)).run Tryz.prog W=.ok (.int .i64 rd) W:=fun _=>by kernel_rfl
  have ix1:∀W,(Instr.index 180 (.agg #[.int .i64 rd,.int .i64 rs1,.int .i64 rs2]) (.int .i64 1)).run Tryz.prog W=.ok (.int .i64 rs1) W:=fun _=>by kernel_rfl
  have ix2:∀W,(Instr.index 180 (.agg #[.int .i64 rd,.int .i64 rs1,.int .i64 rs2]) (.int .i64 2)).run Tryz.prog W=.ok (.int .i64 rs2) W:=fun _=>by kernel_rfl
  go_enter Tryz.func60,Tryz.ntmps60
  go_wp2_with fail
  refine(HOF.out _).mono ?_
  rintro e w1 ⟨rfl,hb1⟩
  have hblk:=(hb1.block w.heap.size zC).trans (sP w (.cells #[.int .i64 op,.int .i64 rd,.int .i64 rs1,.int .i64 rs2,.int .i32 imm] 91))
 · have hlt1:w.heap.size<w1.heap.size:=yB
   obtain⟨w2,hw2⟩:∃w2,w2=w1.alloc (.cells #[.int .i64 0,.int .u32 l,.int .u32 m,.int .u32 u] 123):=⟨_,rfl⟩
   have k0:w2.cell? ⟨w.heap.size,0,none⟩=some (.int .i64 op):=by rw[hw2];exact(sI w1 _ _ hlt1).trans (qM hblk rfl)
   have k1:w2.cell? ⟨w.heap.size,1,none⟩=some (.int .i64 rd):=by rw[hw2];exact(sI w1 _ _ hlt1).trans (qM hblk rfl)
   have k2:w2.cell? ⟨w.heap.size,2,none⟩=some (.int .i64 rs1):=by rw[hw2];exact(sI w1 _ _ hlt1).trans (qM hblk rfl)
   have k3:w2.cell? ⟨w.heap.size,3,none⟩=some (.int .i64 rs2):=by rw[hw2];exact(sI w1 _ _ hlt1).trans (qM hblk rfl)
   have k4:w2.cell? ⟨w.heap.size,4,none⟩=some (.int .i32 imm):=by rw[hw2];exact(sI w1 _ _ hlt1).trans (qM hblk rfl)
   have n0:w2.cell? ⟨w1.heap.size,0,none⟩=some (.int .i64 0):=zM
   have n1:w2.cell? ⟨w1.heap.size,1,none⟩=some (.int .u32 l):=zM
   have n2:w2.cell? ⟨w1.heap.size,2,none⟩=some (.int .u32 m):=zM
   have n3:w2.cell? ⟨w1.heap.size,3,none⟩=some (.int .u32 u):=zM
   have hb2:Below w.heap.size w w2:=zH
   have hlt2:w.heap.size<w2.heap.size:=yW
   have HB2:=lI hb2
   have HLT:=lI hlt2
   have HW2:=lI hw2
   clear hblk hb1 hlt1 hb2 hlt2 hw2 HOF
   go_upto_region 2 with(fail)
   rw[←HW2.out]
   go_wp2_with fail
   (refine wp_loop_rounds 4 ?_;repeat any_goals(rw[rounds_succ];go_wp2_with (fail)))
   exact cP
 · have hlt1:w.heap.size<w1.heap.size:=yB
   obtain⟨w2,hw2⟩:∃w2,w2=w1.alloc (.cells #[.int .i64 1,.int .u32 l,.int .u32 m,.int .u32 u] 123):=⟨_,rfl⟩
   have k0:w2.cell? ⟨w.heap.size,0,none⟩=some (.int .i64 op):=by rw[hw2];exact(sI w1 _ _ hlt1).trans (qM hblk rfl)
   have k1:w2.cell? ⟨w.heap.size,1,none⟩=some (.int .i64 rd):=by rw[hw2];exact(sI w1 _ _ hlt1).trans (qM hblk rfl)
   have k2:w2.cell? ⟨w.heap.size,2,none⟩=some (.int .i64 rs1):=by rw[hw2];exact(sI w1 _ _ hlt1).trans (qM hblk rfl)
   have k3:w2.cell? ⟨w.heap.size,3,none⟩=some (.int .i64 rs2):=by rw[hw2];exact(sI w1 _ _ hlt1).trans (qM hblk rfl)
   have k4:w2.cell? ⟨w.heap.size,4,none⟩=some (.int .i32 imm):=by rw[hw2];exact(sI w1 _ _ hlt1).trans (qM hblk rfl)
   have n0:w2.cell? ⟨w1.heap.size,0,none⟩=some (.int .i64 1):=zM
   exact cQ
 · have hlt1:w.heap.size<w1.heap.size:=yB
   obtain⟨w2,hw2⟩:∃w2,w2=w1.alloc (.cells #[.int .i64 2,.int .u32 l,.int .u32 m,.int .u32 u] 123):=⟨_,rfl⟩
   have k0:w2.cell? ⟨w.heap.size,0,none⟩=some (.int .i64 op):=by rw[hw2];exact(sI w1 _ _ hlt1).trans (qM hblk rfl)
   have k1:w2.cell? ⟨w.heap.size,1,none⟩=some (.int .i64 rd):=by rw[hw2];exact(sI w1 _ _ hlt1).trans (qM hblk rfl)
   have k2:w2.cell? ⟨w.heap.size,2,none⟩=some (.int .i64 rs1):=by rw[hw2];exact(sI w1 _ _ hlt1).trans (qM hblk rfl)
   have k3:w2.cell? ⟨w.heap.size,3,none⟩=some (.int .i64 rs2):=by rw[hw2];exact(sI w1 _ _ hlt1).trans (qM hblk rfl)
   have k4:w2.cell? ⟨w.heap.size,4,none⟩=some (.int .i32 imm):=by rw[hw2];exact(sI w1 _ _ hlt1).trans (qM hblk rfl)
   have n0:w2.cell? ⟨w1.heap.size,0,none⟩=some (.int .i64 2):=zM
   exact cQ
abbrev encode_0:=gpencode_01.1
abbrev encode_1:=gpencode_01.2.1
abbrev encode_2:=gpencode_01.2.2
end Go.Proofs.YtlfnddmncbkjaabGreatDoor.W
