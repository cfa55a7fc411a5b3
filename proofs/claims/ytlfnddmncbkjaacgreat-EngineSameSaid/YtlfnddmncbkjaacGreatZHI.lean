import Derived.Test.YtlfnddmncbkjaacGreatZGB
import Derived.Test.YtlfnddmncbkjaacGreatZHC
set_option linter.unusedVariables false
set_option linter.unusedSimpArgs false
set_option maxRecDepth 100000
set_option maxHeartbeats 4000000
namespace Go.Proofs.YtlfnddmncbkjaacGreat.W
open Go.RowKit Fb
theorem QX(x:Int)(w:World)(hx:U32 x):Calls Tryz.prog 52 #[.int .u32 x,.int .i64 0,.int .i64 6] w fun e w'=>e=.returned (.int .i64 (x%128))∧w=w':=by
  obtain⟨h0,h1⟩:=hx
  have P0:Hid ((0:Int)≤0∧(0:Int)≤32∧(1:Int)=((2 ^ (0:Int).toNat:Nat):Int)):=lI ⟨om,om,rfl⟩
  have P7:Hid ((0:Int)≤7∧(7:Int)≤32∧(128:Int)=((2 ^ (7:Int).toNat:Nat):Int)):=lI ⟨om,om,rfl⟩
  go_enter Tryz.func52,Tryz.ntmps52
  go_wp2_with (go_at_call 57;first|((with_reducible refine(qr 0 1 _ P0).mono ?_);rintro e w' ⟨rfl,rfl⟩)|((with_reducible refine(qr 7 128 _ P7).mono ?_);rintro e w' ⟨rfl,rfl⟩))
  go_ret
  exact⟨qR zQ,rfl⟩
theorem QH(x:Int)(w:World)(hx:U32 x):Calls Tryz.prog 52 #[.int .u32 x,.int .i64 12,.int .i64 14] w fun e w'=>e=.returned (.int .i64 (x / 4096%8))∧w=w':=by
  obtain⟨h0,h1⟩:=hx
  have P3:Hid ((0:Int)≤3∧(3:Int)≤32∧(8:Int)=((2 ^ (3:Int).toNat:Nat):Int)):=lI ⟨om,om,rfl⟩
  have P12:Hid ((0:Int)≤12∧(12:Int)≤32∧(4096:Int)=((2 ^ (12:Int).toNat:Nat):Int)):=lI ⟨om,om,rfl⟩
  go_enter Tryz.func52,Tryz.ntmps52
  go_wp2_with (go_at_call 57;first|((with_reducible refine(qr 3 8 _ P3).mono ?_);rintro e w' ⟨rfl,rfl⟩)|((with_reducible refine(qr 12 4096 _ P12).mono ?_);rintro e w' ⟨rfl,rfl⟩))
  go_ret
  exact⟨qR zQ,rfl⟩
theorem QD(x:Int)(w:World)(hx:U32 x):Calls Tryz.prog 52 #[.int .u32 x,.int .i64 25,.int .i64 31] w fun e w'=>e=.returned (.int .i64 (x / 33554432%128))∧w=w':=by
  obtain⟨h0,h1⟩:=hx
  have P25:Hid ((0:Int)≤25∧(25:Int)≤32∧(33554432:Int)=((2 ^ (25:Int).toNat:Nat):Int)):=lI ⟨om,om,rfl⟩
  go_enter Tryz.func52,Tryz.ntmps52
  go_wp2_with (go_at_call 57;first|((with_reducible refine(qr 25 33554432 _ P25).mono ?_);rintro e w' ⟨rfl,rfl⟩))
  go_ret
  exact⟨qR zQ,rfl⟩
theorem US(x:Int)(w:World)(hx:U32 x):Calls Tryz.prog 52 #[.int .u32 x,.int .i64 27,.int .i64 31] w fun e w'=>e=.returned (.int .i64 (x / 134217728%32))∧w=w':=by
  obtain⟨h0,h1⟩:=hx
  have P27:Hid ((0:Int)≤27∧(27:Int)≤32∧(134217728:Int)=((2 ^ (27:Int).toNat:Nat):Int)):=lI ⟨om,om,rfl⟩
  go_enter Tryz.func52,Tryz.ntmps52
  go_wp2_with (go_at_call 57;first|((with_reducible refine(qr 27 134217728 _ P27).mono ?_);rintro e w' ⟨rfl,rfl⟩))
  go_ret
  exact⟨qR zQ,rfl⟩
theorem Qj(x:Int)(w:World)(hx:U32 x):Calls Tryz.prog 52 #[.int .u32 x,.int .i64 20,.int .i64 24] w fun e w'=>e=.returned (.int .i64 (x / 1048576%32))∧w=w':=by
  obtain⟨h0,h1⟩:=hx
  have P5:Hid ((0:Int)≤5∧(5:Int)≤32∧(32:Int)=((2 ^ (5:Int).toNat:Nat):Int)):=lI ⟨om,om,rfl⟩
  have P20:Hid ((0:Int)≤20∧(20:Int)≤32∧(1048576:Int)=((2 ^ (20:Int).toNat:Nat):Int)):=lI ⟨om,om,rfl⟩
  go_enter Tryz.func52,Tryz.ntmps52
  go_wp2_with (go_at_call 57;first|((with_reducible refine(qr 5 32 _ P5).mono ?_);rintro e w' ⟨rfl,rfl⟩)|((with_reducible refine(qr 20 1048576 _ P20).mono ?_);rintro e w' ⟨rfl,rfl⟩))
  go_ret
  exact⟨qR zQ,rfl⟩
theorem JB(x:Int)(w:World)(hx:U32 x):Calls Tryz.prog 52 #[.int .u32 x,.int .i64 7,.int .i64 11] w fun e w'=>e=.returned (.int .i64 (x / 128%32))∧w=w':=by
  obtain⟨h0,h1⟩:=hx
  have P5:Hid ((0:Int)≤5∧(5:Int)≤32∧(32:Int)=((2 ^ (5:Int).toNat:Nat):Int)):=lI ⟨om,om,rfl⟩
  have P7:Hid ((0:Int)≤7∧(7:Int)≤32∧(128:Int)=((2 ^ (7:Int).toNat:Nat):Int)):=lI ⟨om,om,rfl⟩
  go_enter Tryz.func52,Tryz.ntmps52
  go_wp2_with (go_at_call 57;first|((with_reducible refine(qr 5 32 _ P5).mono ?_);rintro e w' ⟨rfl,rfl⟩)|((with_reducible refine(qr 7 128 _ P7).mono ?_);rintro e w' ⟨rfl,rfl⟩))
  go_ret
  exact⟨qR zQ,rfl⟩
theorem jg(x:Int)(w:World)(hx:U32 x):Calls Tryz.prog 52 #[.int .u32 x,.int .i64 15,.int .i64 19] w fun e w'=>e=.returned (.int .i64 (x / 32768%32))∧w=w':=by
  obtain⟨h0,h1⟩:=hx
  have P5:Hid ((0:Int)≤5∧(5:Int)≤32∧(32:Int)=((2 ^ (5:Int).toNat:Nat):Int)):=lI ⟨om,om,rfl⟩
  have P15:Hid ((0:Int)≤15∧(15:Int)≤32∧(32768:Int)=((2 ^ (15:Int).toNat:Nat):Int)):=lI ⟨om,om,rfl⟩
  go_enter Tryz.func52,Tryz.ntmps52
  go_wp2_with (go_at_call 57;first|((with_reducible refine(qr 5 32 _ P5).mono ?_);rintro e w' ⟨rfl,rfl⟩)|((with_reducible refine(qr 15 32768 _ P15).mono ?_);rintro e w' ⟨rfl,rfl⟩))
  go_ret
  exact⟨qR zQ,rfl⟩
theorem jf(x:Int)(w:World)(hx:U32 x):Calls Tryz.prog 52 #[.int .u32 x,.int .i64 31,.int .i64 31] w fun e w'=>e=.returned (.int .i64 (x / 2147483648%2))∧w=w':=by
  obtain⟨h0,h1⟩:=hx
  have P31:Hid ((0:Int)≤31∧(31:Int)≤32∧(2147483648:Int)=((2 ^ (31:Int).toNat:Nat):Int)):=lI ⟨om,om,rfl⟩
  go_enter Tryz.func52,Tryz.ntmps52
  go_wp2_with (go_at_call 57;first|((with_reducible refine(qr 31 2147483648 _ P31).mono ?_);rintro e w' ⟨rfl,rfl⟩))
  go_ret
  exact⟨qR zQ,rfl⟩
theorem cut2_0_11(x:Int)(w:World)(hx:U32 x):Calls Tryz.prog 52 #[.int .u32 x,.int .i64 0,.int .i64 11] w fun e w'=>e=.returned (.int .i64 (x%4096))∧w=w':=by
  obtain⟨h0,h1⟩:=hx
  have P0:Hid ((0:Int)≤0∧(0:Int)≤32∧(1:Int)=((2 ^ (0:Int).toNat:Nat):Int)):=lI ⟨om,om,rfl⟩
  have P12:Hid ((0:Int)≤12∧(12:Int)≤32∧(4096:Int)=((2 ^ (12:Int).toNat:Nat):Int)):=lI ⟨om,om,rfl⟩
  go_enter Tryz.func52,Tryz.ntmps52
  go_wp2_with (go_at_call 57;first|((with_reducible refine(qr 0 1 _ P0).mono ?_);rintro e w' ⟨rfl,rfl⟩)|((with_reducible refine(qr 12 4096 _ P12).mono ?_);rintro e w' ⟨rfl,rfl⟩))
  go_ret
  exact⟨qR zQ,rfl⟩
theorem cut2_12_19(x:Int)(w:World)(hx:U32 x):Calls Tryz.prog 52 #[.int .u32 x,.int .i64 12,.int .i64 19] w fun e w'=>e=.returned (.int .i64 (x / 4096%256))∧w=w':=by
  obtain⟨h0,h1⟩:=hx
  have P8:Hid ((0:Int)≤8∧(8:Int)≤32∧(256:Int)=((2 ^ (8:Int).toNat:Nat):Int)):=lI ⟨om,om,rfl⟩
  have P12:Hid ((0:Int)≤12∧(12:Int)≤32∧(4096:Int)=((2 ^ (12:Int).toNat:Nat):Int)):=lI ⟨om,om,rfl⟩
  go_enter Tryz.func52,Tryz.ntmps52
  go_wp2_with (go_at_call 57;first|((with_reducible refine(qr 8 256 _ P8).mono ?_);rintro e w' ⟨rfl,rfl⟩)|((with_reducible refine(qr 12 4096 _ P12).mono ?_);rintro e w' ⟨rfl,rfl⟩))
  go_ret
  exact⟨qR zQ,rfl⟩
theorem cut2_20_20(x:Int)(w:World)(hx:U32 x):Calls Tryz.prog 52 #[.int .u32 x,.int .i64 20,.int .i64 20] w fun e w'=>e=.returned (.int .i64 (x / 1048576%2))∧w=w':=by
  obtain⟨h0,h1⟩:=hx
  have P1:Hid ((0:Int)≤1∧(1:Int)≤32∧(2:Int)=((2 ^ (1:Int).toNat:Nat):Int)):=lI ⟨om,om,rfl⟩
  have P20:Hid ((0:Int)≤20∧(20:Int)≤32∧(1048576:Int)=((2 ^ (20:Int).toNat:Nat):Int)):=lI ⟨om,om,rfl⟩
  go_enter Tryz.func52,Tryz.ntmps52
  go_wp2_with (go_at_call 57;first|((with_reducible refine(qr 1 2 _ P1).mono ?_);rintro e w' ⟨rfl,rfl⟩)|((with_reducible refine(qr 20 1048576 _ P20).mono ?_);rintro e w' ⟨rfl,rfl⟩))
  go_ret
  exact⟨qR zQ,rfl⟩
theorem cut2_21_30(x:Int)(w:World)(hx:U32 x):Calls Tryz.prog 52 #[.int .u32 x,.int .i64 21,.int .i64 30] w fun e w'=>e=.returned (.int .i64 (x / 2097152%1024))∧w=w':=by
  obtain⟨h0,h1⟩:=hx
  have P10:Hid ((0:Int)≤10∧(10:Int)≤32∧(1024:Int)=((2 ^ (10:Int).toNat:Nat):Int)):=lI ⟨om,om,rfl⟩
  have P21:Hid ((0:Int)≤21∧(21:Int)≤32∧(2097152:Int)=((2 ^ (21:Int).toNat:Nat):Int)):=lI ⟨om,om,rfl⟩
  go_enter Tryz.func52,Tryz.ntmps52
  go_wp2_with (go_at_call 57;first|((with_reducible refine(qr 10 1024 _ P10).mono ?_);rintro e w' ⟨rfl,rfl⟩)|((with_reducible refine(qr 21 2097152 _ P21).mono ?_);rintro e w' ⟨rfl,rfl⟩))
  go_ret
  exact⟨qR zQ,rfl⟩
theorem cut2_20_31(x:Int)(w:World)(hx:U32 x):Calls Tryz.prog 52 #[.int .u32 x,.int .i64 20,.int .i64 31] w fun e w'=>e=.returned (.int .i64 (x / 1048576%4096))∧w=w':=by
  obtain⟨h0,h1⟩:=hx
  have P20:Hid ((0:Int)≤20∧(20:Int)≤32∧(1048576:Int)=((2 ^ (20:Int).toNat:Nat):Int)):=lI ⟨om,om,rfl⟩
  go_enter Tryz.func52,Tryz.ntmps52
  go_wp2_with (go_at_call 57;first|((with_reducible refine(qr 20 1048576 _ P20).mono ?_);rintro e w' ⟨rfl,rfl⟩))
  go_ret
  exact⟨qR zQ,rfl⟩
theorem cut2_7_7(x:Int)(w:World)(hx:U32 x):Calls Tryz.prog 52 #[.int .u32 x,.int .i64 7,.int .i64 7] w fun e w'=>e=.returned (.int .i64 (x / 128%2))∧w=w':=by
  obtain⟨h0,h1⟩:=hx
  have P1:Hid ((0:Int)≤1∧(1:Int)≤32∧(2:Int)=((2 ^ (1:Int).toNat:Nat):Int)):=lI ⟨om,om,rfl⟩
  have P7:Hid ((0:Int)≤7∧(7:Int)≤32∧(128:Int)=((2 ^ (7:Int).toNat:Nat):Int)):=lI ⟨om,om,rfl⟩
  go_enter Tryz.func52,Tryz.ntmps52
  go_wp2_with (go_at_call 57;first|((with_reducible refine(qr 1 2 _ P1).mono ?_);rintro e w' ⟨rfl,rfl⟩)|((with_reducible refine(qr 7 128 _ P7).mono ?_);rintro e w' ⟨rfl,rfl⟩))
  go_ret
  exact⟨qR zQ,rfl⟩
theorem cut2_25_30(x:Int)(w:World)(hx:U32 x):Calls Tryz.prog 52 #[.int .u32 x,.int .i64 25,.int .i64 30] w fun e w'=>e=.returned (.int .i64 (x / 33554432%64))∧w=w':=by
  obtain⟨h0,h1⟩:=hx
  have P6:Hid ((0:Int)≤6∧(6:Int)≤32∧(64:Int)=((2 ^ (6:Int).toNat:Nat):Int)):=lI ⟨om,om,rfl⟩
  have P25:Hid ((0:Int)≤25∧(25:Int)≤32∧(33554432:Int)=((2 ^ (25:Int).toNat:Nat):Int)):=lI ⟨om,om,rfl⟩
  go_enter Tryz.func52,Tryz.ntmps52
  go_wp2_with (go_at_call 57;first|((with_reducible refine(qr 6 64 _ P6).mono ?_);rintro e w' ⟨rfl,rfl⟩)|((with_reducible refine(qr 25 33554432 _ P25).mono ?_);rintro e w' ⟨rfl,rfl⟩))
  go_ret
  exact⟨qR zQ,rfl⟩
theorem cut2_8_11(x:Int)(w:World)(hx:U32 x):Calls Tryz.prog 52 #[.int .u32 x,.int .i64 8,.int .i64 11] w fun e w'=>e=.returned (.int .i64 (x / 256%16))∧w=w':=by
  obtain⟨h0,h1⟩:=hx
  have P4:Hid ((0:Int)≤4∧(4:Int)≤32∧(16:Int)=((2 ^ (4:Int).toNat:Nat):Int)):=lI ⟨om,om,rfl⟩
  have P8:Hid ((0:Int)≤8∧(8:Int)≤32∧(256:Int)=((2 ^ (8:Int).toNat:Nat):Int)):=lI ⟨om,om,rfl⟩
  go_enter Tryz.func52,Tryz.ntmps52
  go_wp2_with (go_at_call 57;first|((with_reducible refine(qr 4 16 _ P4).mono ?_);rintro e w' ⟨rfl,rfl⟩)|((with_reducible refine(qr 8 256 _ P8).mono ?_);rintro e w' ⟨rfl,rfl⟩))
  go_ret
  exact⟨qR zQ,rfl⟩
theorem cut2_25_26(x:Int)(w:World)(hx:U32 x):Calls Tryz.prog 52 #[.int .u32 x,.int .i64 25,.int .i64 26] w fun e w'=>e=.returned (.int .i64 (x / 33554432%4))∧w=w':=by
  obtain⟨h0,h1⟩:=hx
  have P2:Hid ((0:Int)≤2∧(2:Int)≤32∧(4:Int)=((2 ^ (2:Int).toNat:Nat):Int)):=lI ⟨om,om,rfl⟩
  have P25:Hid ((0:Int)≤25∧(25:Int)≤32∧(33554432:Int)=((2 ^ (25:Int).toNat:Nat):Int)):=lI ⟨om,om,rfl⟩
  go_enter Tryz.func52,Tryz.ntmps52
  go_wp2_with (go_at_call 57;first|((with_reducible refine(qr 2 4 _ P2).mono ?_);rintro e w' ⟨rfl,rfl⟩)|((with_reducible refine(qr 25 33554432 _ P25).mono ?_);rintro e w' ⟨rfl,rfl⟩))
  go_ret
  exact⟨qR zQ,rfl⟩
theorem signed2_12(n:Int)(w:World)(h:0≤n∧n<4096):Calls Tryz.prog 54 #[.int .i64 n,.int .i64 12] w fun e w'=>e=.returned (.int .i32 (sgn 2048 n))∧w=w':=by
  obtain⟨h0,h1⟩:=h
  have P:Hid ((0:Int)≤11∧(11:Int)≤32∧(2048:Int)=((2 ^ (11:Int).toNat:Nat):Int)):=lI ⟨om,om,rfl⟩
  go_enter Tryz.func54,Tryz.ntmps54
  go_wp2_with (go_at_call 57;((with_reducible refine(qr 11 2048 _ P).mono ?_);rintro e w' ⟨rfl,rfl⟩))
  all_goals go_ret
  all_goals refine⟨qR ?_,rfl⟩
  all_goals unfold sgn
  all_goals first|(rw[if_pos om];done)|(rw[if_neg om];done)|(split<;>omega)|(split<;>(unfold wrap32;omega))
theorem signed2_13(n:Int)(w:World)(h:0≤n∧n<8192):Calls Tryz.prog 54 #[.int .i64 n,.int .i64 13] w fun e w'=>e=.returned (.int .i32 (sgn 4096 n))∧w=w':=by
  obtain⟨h0,h1⟩:=h
  have P:Hid ((0:Int)≤12∧(12:Int)≤32∧(4096:Int)=((2 ^ (12:Int).toNat:Nat):Int)):=lI ⟨om,om,rfl⟩
  go_enter Tryz.func54,Tryz.ntmps54
  go_wp2_with (go_at_call 57;((with_reducible refine(qr 12 4096 _ P).mono ?_);rintro e w' ⟨rfl,rfl⟩))
  all_goals go_ret
  all_goals refine⟨qR ?_,rfl⟩
  all_goals unfold sgn
  all_goals first|(rw[if_pos om];done)|(rw[if_neg om];done)|(split<;>omega)|(split<;>(unfold wrap32;omega))
theorem signed2_21(n:Int)(w:World)(h:0≤n∧n<2097152):Calls Tryz.prog 54 #[.int .i64 n,.int .i64 21] w fun e w'=>e=.returned (.int .i32 (sgn 1048576 n))∧w=w':=by
  obtain⟨h0,h1⟩:=h
  have P:Hid ((0:Int)≤20∧(20:Int)≤32∧(1048576:Int)=((2 ^ (20:Int).toNat:Nat):Int)):=lI ⟨om,om,rfl⟩
  go_enter Tryz.func54,Tryz.ntmps54
  go_wp2_with (go_at_call 57;((with_reducible refine(qr 20 1048576 _ P).mono ?_);rintro e w' ⟨rfl,rfl⟩))
  all_goals go_ret
  all_goals refine⟨qR ?_,rfl⟩
  all_goals unfold sgn
  all_goals first|(rw[if_pos om];done)|(rw[if_neg om];done)|(split<;>omega)|(split<;>(unfold wrap32;omega))
theorem pickS_at(n:Int):∀(la lo:List Int) (k:Nat) (h:k<la.length) (h2:k<lo.length),la[k]=n→(∀j (hj:j<la.length),j<k→la[j]≠n)→QM n la lo=lo[k]
  |a::la,o::lo,0,_,_,h,_=>by simp only[sB]at h;simp[QM,h]
  | a :: la, o :: lo, k + 1, hk, hk2, h, hn => by
    have h0:=hn 0 zG om
    simp only[sB]at h0
    rw[QM,if_neg h0]
    exact pickS_at n la lo k (by simpa using hk) (by simpa using hk2) (by simpa using h) (fun j hj hjk=>by
      have:=hn (j+1) zB om
      simpa using this)
  |[],_,k,h,_,_,_=>by simp at h
  |_::_,[],k,_,h,_,_=>by simp at h
theorem pickS_no(n:Int):∀(la lo:List Int),(∀j (hj:j<la.length),la[j]≠n)→QM n la lo= -1
  | a :: la, o :: lo, hn => by
    have h0:=hn 0 zG
    simp only[sB]at h0
    rw[QM,if_neg h0]
    exact pickS_no n la lo (fun j hj=>by
      have:=hn (j+1) zB
      simpa using this)
  |[],_,_=>by simp[QM]
  |_::_,[],_=>by simp[QM]
theorem pick2_any(n:Int)(la lo:List Int)(va vo:Value)(w:World)(ha:Ints .i64 w va la)(ho:Ints .i64 w vo lo)(hl:la.length=lo.length):
    Calls Tryz.prog 84 #[.int .i64 n,va,vo] w fun e w'=>e=.returned (.int .i64 (QM n la lo))∧w=w':=by
  obtain⟨aa,capa,rfl,hca,hma,_,hoa⟩:=ha.open
  obtain⟨ao,capo,rfl,hco,hmo,_,hoo⟩:=ho.open
  unfold maxLen at hma hmo
  have hle:la.length≤lo.length:=om
  clear hl
  have HA:=lI hoa
  have HO:=lI hoo
  clear hoa hoo ha ho
  go_enter Tryz.func84,Tryz.ntmps84
  go_wp2
  go_loop [7] (fun i=>∃k:Nat,i=.int .i64 k∧k≤la.length∧Hid (∀j (hj:j<la.length),j<k→la[j]≠n)) (fun i=>la.length-(intOf i).toNat)
  case atStart=>exact⟨0,rfl,om,lI (by intro j hj h;omega)⟩
  case round=>
    obtain⟨k,rfl,hk,HN⟩:=hrel
    by_cases hlt:k<la.length
    · obtain⟨b,off,rfl,_,hcell⟩:=HA.out zR
      obtain⟨b',off',rfl,_,hcell'⟩:=HO.out (by intro e;rw[e]at hle;simp at hle;rw[hle]at hlt;simp at hlt)
      have c1:=hcell k hlt
      have c2:=hcell' k om
      have e1:la.getD k 0=la[k]:=by rw[List.getD,sZ hlt];rfl
      have e2:lo.getD k 0=lo[k]'om:=by rw[List.getD,sZ om];rfl
      rw[e1]at c1
      rw[e2]at c2
      have HP:Hid (la[k]=n→QM n la lo=lo[k]'om):=lI (fun h=>pickS_at n la lo k hlt om h HN.out)
      have HN2:Hid (la[k]≠n→∀j (hj:j<la.length),j<k+1→la[j]≠n):=lI (fun h j hj h2=>if e:j=k then by subst e;exact h else HN.out j hj om)
      clear hcell hcell' e1 e2 HN
      generalize la[k]=y at *
      generalize lo[k]'om=z at *
      by_cases hy:y=n
      · have hP:=lI (HP.out hy)
        have g:(y==n)=true:=by simpa using hy
        clear HP HN2 hy
        go_wp2
        go_ret
        exact⟨qR hP.out.symm,rfl⟩
      · have hN:=lI (HN2.out hy)
        have g:(y==n)=false:=by simpa using hy
        clear HP HN2 hy
        go_wp2
        go_round
        case rel=>exact⟨k+1,by go_num,om,hN⟩
        case measure=>simp[intOf];omega
    · have hP:Hid (QM n la lo= -1):=lI (pickS_no n la lo (fun j hj=>HN.out j hj om))
      clear HN
      go_wp2
      go_ret
      exact⟨qR hP.out.symm,rfl⟩
theorem wrong_any(vm vh vs:Value)(m:Mach)(wf:m.Wf)(script:List (Int × Int))(w:World)(hm:jp w vm vh m)(hs:Picks w vs script)(hp:∀p∈script,QW p.1∧QW p.2):
    Calls Tryz.prog 4 #[.agg #[vm,vh],vs] w fun e w'=>e=.returned (.int .i64 (QQ m script))∧Below w.heap.size w w':=by
  obtain⟨aom,capm,rfl,hcm,hmm,_,_⟩:=hm.1.open
  obtain⟨aoh,caph,rfl,hch,hmh,_,hoh⟩:=hm.2.open (fun h hh=>qO (wf.harts h hh)) om
  obtain⟨aos,caps,rfl,hcs,hms,_,hos⟩:=hs.open (fun _ _=>rfl) om
  unfold maxLen at hmm hmh hms
  by_cases c1:4096<m.mem.length
  · have W:QQ m script=2:=by simp[QQ,c1]
    go_enter Tryz.func4,Tryz.ntmps4
    go_wp2
    all_goals go_ret
    all_goals exact⟨by first|rfl|(rw[W];rfl),by go_grown⟩
  by_cases c2:m.harts.length<1
  · have W:QQ m script=2:=by simp[QQ,c2]
    go_enter Tryz.func4,Tryz.ntmps4
    go_wp2
    all_goals go_ret
    all_goals exact⟨by first|rfl|(rw[W];rfl),by go_grown⟩
  by_cases c3:4<m.harts.length
  · have W:QQ m script=2:=by simp[QQ,c3]
    go_enter Tryz.func4,Tryz.ntmps4
    go_wp2
    all_goals go_ret
    all_goals exact⟨by first|rfl|(rw[W];rfl),by go_grown⟩
  go_enter Tryz.func4,Tryz.ntmps4
  go_wp2_with fail
  have hc0:(w.alloc (.cells #[.slice aom m.mem.length capm,.slice aoh m.harts.length caph] 25)).cell? ⟨w.heap.size,1,none⟩=some (.slice aoh m.harts.length caph):=yN
  have hb0:Below w.heap.size w (w.alloc (.cells #[.slice aom m.mem.length capm,.slice aoh m.harts.length caph] 25)):=by go_grown
  have hs0:(w.alloc (.cells #[.slice aom m.mem.length capm,.slice aoh m.harts.length caph] 25)).heap.size=w.heap.size+1:=zG
  generalize w.alloc (.cells #[.slice aom m.mem.length capm,.slice aoh m.harts.length caph] 25)=w1 at *
  have HO:=lI hoh
  have HS:=lI hos
  clear hoh hos
  go_loopw [5] (fun i wr=>∃k:Nat,i=.int .i64 k∧k≤m.harts.length∧Hid (∀j (h:j<m.harts.length),j<k→m.harts[j].ok=true)∧∃w2,wr=w2∧Below w1.heap.size w1 w2) (fun i _=>m.harts.length-(intOf i).toNat)
  case atStart=>exact⟨0,rfl,om,lI (by intro j h hj;omega),_,rfl,Below.refl _ _⟩
  case round=>
    obtain⟨k,rfl,hk,hok,w2,hw2,hbr⟩:=hrel
    subst hw2
    have hb2:=hb0.trans (hbr.mono om)
    have hcw:=(hbr.cell (p:=⟨w.heap.size,1,none⟩) zT).trans hc0
    clear hc0
    by_cases hlt:k<m.harts.length
    · obtain⟨b,off,rfl,hbl,hel⟩:=HO.out zR
      have hat:At wr b (off+k*37) (qJ m.harts[k]):=(hel k hlt).below hb2
      clear hel
      have wfk:m.harts[k].Wf:=wf.harts _ (sU hlt)
      have hsz:(Tryz.prog.info? 46).map (·.size)=some (qL m.harts[k]).size:=by rw[jt wfk];kernel_rfl
      go_wp2_with (refine qI rfl 46 _ rfl b (off+k*37) rfl (qL m.harts[k]) _ hat Tryz.underlying46 rfl hsz ?_)
      refine(may4_any m.harts[k] wfk _).mono ?_
      rintro e w3 ⟨rfl,hb3⟩
      have hb4:Below w1.heap.size w1 w3:=hbr.trans (hb3.mono (by have:=hbr.size;omega))
      cases hko:m.harts[k].ok with
      | false =>
        have W:QQ m script=2:=by
          have:m.harts.any (fun h=> !h.ok)=true:=List.any_eq_true.2 ⟨m.harts[k],sU hlt,by simp[hko]⟩
          simp[QQ,c1,c2,c3,this]
        clear hok HO HS hat hsz hm hs
        go_wp2
        go_ret
        exact⟨by first|rfl|(rw[W];rfl),hb0.trans (hb4.mono om)⟩
      | true =>
        have hok2:Hid (∀j (h:j<m.harts.length),j<k+1→m.harts[j].ok=true):=lI (fun j h hj=>if e:j=k then by subst e;exact hko else hok.out j h om)
        clear hok HO HS hat hsz hm hs
        go_wp2
        go_roundw
        case rel=>exact⟨k+1,by go_num,om,hok2,_,rfl,hb4⟩
        case measure=>simp[intOf];omega
    · have hall:m.harts.any (fun h=> !h.ok)=false:=by
        rw[List.any_eq_false]
        intro h hh
        obtain⟨j,hj,rfl⟩:=List.getElem_of_mem hh
        simp[hok.out j hj om]
      have hkn:k=m.harts.length:=om
      subst hkn
      have hsz5:=hbr.size
      have hb5:=hb2
      clear hok HO hm hb2
      by_cases c4:300<script.length
      · have W:QQ m script=1:=by simp[QQ,c1,c2,c3,hall,c4]
        clear HS hs
        go_wp2
        go_ret
        exact⟨by first|rfl|(rw[W];rfl),hb5⟩
      go_wp2_with fail
      obtain⟨wo,rfl⟩:∃wo:World,wo=wr:=⟨_,rfl⟩
      have hlt5:w.heap.size<wo.heap.size:=om
      go_loopw [6] (fun i wx=>∃k:Nat,i=.int .i64 k∧k≤script.length∧Hid (∀j (h:j<script.length),j<k→Qp m.harts.length script[j]=false)∧∃w2,wx=w2∧Below wo.heap.size wo w2) (fun i _=>script.length-(intOf i).toNat)
      case atStart=>exact⟨0,rfl,om,lI (by intro j h hj;omega),_,rfl,Below.refl _ _⟩
      case round=>
        obtain⟨k,rfl,hk,hok,wq,hwq,hbq⟩:=hrel
        subst hwq
        have hcq:=(hbq.cell (p:=⟨w.heap.size,1,none⟩) hlt5).trans hcw
        have hb6:=hb5.trans (hbq.mono hb5.size)
        have hsz6:wo.heap.size≤wr.heap.size:=hbq.size
        have hlt6:w.heap.size<wr.heap.size:=om
        clear hcw
        by_cases hlt:k<script.length
        · obtain⟨b,off,rfl,hbl,hel⟩:=HS.out zR
          have hat:=(hel k hlt).below hb6
          have d0:=hat.get (j:=0) (v:=.int .i64 script[k].1) rfl
          have d1:=hat.get (j:=1) (v:=.int .i64 script[k].2) rfl
          simp only[sN]at d0
          obtain⟨⟨q1,q2⟩,q3,q4⟩:=hp _ (sU hlt)
          have HB:Hid (Qp m.harts.length script[k]=(decide (script[k].1<0)||decide ((m.harts.length:Int)≤script[k].1)||decide (script[k].2<0)||decide (400<script[k].2))):=lI rfl
          have hok2:Hid (Qp m.harts.length script[k]=false→∀j (h:j<script.length),j<k+1→Qp m.harts.length script[j]=false):=lI (fun hf j h hj=>if e:j=k then by subst e;exact hf else hok.out j h om)
          have W:Hid (Qp m.harts.length script[k]=true→QQ m script=3):=lI (fun hf=>by
            have:script.any (Qp m.harts.length)=true:=List.any_eq_true.2 ⟨script[k],sU hlt,hf⟩
            simp[QQ,c1,c2,c3,hall,c4,this])
          clear hel hok HS hs hp hat
          generalize Qp m.harts.length script[k]=bad at *
          generalize script[k].1=x at *
          generalize script[k].2=y at *
          by_cases e0:x<0
          · have hw:=W.out (by rw[HB.out];simp[*])
            clear HB W hok2
            have g0:decide (x<0)=true:=sW e0
            go_wp2
            go_quiet (fail)
            go_wp2
            go_ret
            exact⟨by first|rfl|(rw[hw];rfl),qC hb6 _⟩
          by_cases e1:(m.harts.length:Int)≤x
          · have hw:=W.out (by rw[HB.out];simp[*])
            clear HB W hok2
            have g0:decide (x<0)=false:=decide_eq_false e0
            have g1:decide ((m.harts.length:Int)≤x)=true:=sW e1
            go_wp2
            go_quiet (fail)
            go_wp2
            go_ret
            exact⟨by first|rfl|(rw[hw];rfl),qC hb6 _⟩
          by_cases e2:y<0
          · have hw:=W.out (by rw[HB.out];simp[*])
            clear HB W hok2
            have g0:decide (x<0)=false:=decide_eq_false e0
            have g1:decide ((m.harts.length:Int)≤x)=false:=decide_eq_false e1
            have g2:decide (y<0)=true:=sW e2
            go_wp2
            go_quiet (fail)
            go_wp2
            go_ret
            exact⟨by first|rfl|(rw[hw];rfl),qC hb6 _⟩
          by_cases e3:400<y
          · have hw:=W.out (by rw[HB.out];simp[*])
            clear HB W hok2
            have g0:decide (x<0)=false:=decide_eq_false e0
            have g1:decide ((m.harts.length:Int)≤x)=false:=decide_eq_false e1
            have g2:decide (y<0)=false:=decide_eq_false e2
            have g3:decide (400<y)=true:=sW e3
            go_wp2
            go_quiet (fail)
            go_wp2
            go_ret
            exact⟨by first|rfl|(rw[hw];rfl),qC hb6 _⟩
          have hbt:=hok2.out (by rw[HB.out];simp[*])
          have hbt2:=lI hbt
          clear HB W hok2 hbt
          have g0:decide (x<0)=false:=decide_eq_false e0
          have g1:decide ((m.harts.length:Int)≤x)=false:=decide_eq_false e1
          have g2:decide (y<0)=false:=decide_eq_false e2
          have g3:decide (400<y)=false:=decide_eq_false e3
          go_wp2
          go_quiet (fail)
          go_wp2
          go_roundw
          case rel=>exact⟨k+1,by go_num,om,hbt2,_,rfl,qC hbq _⟩
          case measure=>simp[intOf];omega
        · have hall2:script.any (Qp m.harts.length)=false:=by
            rw[List.any_eq_false]
            intro h hh
            obtain⟨j,hj,rfl⟩:=List.getElem_of_mem hh
            simp[hok.out j hj om]
          have W:QQ m script=0:=by simp[QQ,c1,c2,c3,hall,c4,hall2]
          clear hok HS hs
          go_wp2
          go_ret
          exact⟨by first|rfl|(rw[W];rfl),hb6⟩
theorem work_any(vs:Value)(l:List (Int × Int))(w:World)(hs:Picks w vs l):
    Calls Tryz.prog 5 #[vs] w fun e w'=>(∃n:Nat,e=.returned (.int .i64 n))∧w'=w:=by
  obtain⟨aos,caps,rfl,hcs,hms,-,hos⟩:=hs.open (fun _ _=>rfl) om
  unfold maxLen at hms
  have HOS:=lI hos
  clear hos hs
  go_enter Tryz.func5,Tryz.ntmps5
  go_wp2_with fail
  go_loopw [3,4] (fun x i wr=>∃n k:Nat,x=.int .i64 n∧i=.int .i64 k∧n≤6001∧k≤l.length∧wr=w) (fun _ i _=>l.length-(intOf i).toNat)
  case atStart=>exact⟨0,0,rfl,rfl,om,om,rfl⟩
  case round=>
    obtain⟨n,k,rfl,rfl,hn,hk,rfl⟩:=hrel
    by_cases hlt:k<l.length
    · obtain⟨b,off,rfl,hbl,hel⟩:=HOS.out zR
      have d1:=(hel k hlt).get (j:=1) (v:=.int .i64 l[k].2) rfl
      clear hel
      generalize l[k].2=y at *
      by_cases h3:n≤3000
      · by_cases hy:0<y
        · by_cases hy2:y≤3001
          · obtain⟨t,rfl⟩:=sS (Int.le_of_lt hy)
            have h4:t≤3001:=om
            have h5:0<t:=om
            have hmin:min (t:Int) 3001=(t:Int):=om
            go_wp2_with fail
            exact⟨⟨n+t,k+1,by simp,by simp,om,om,trivial⟩,by simp[intOf];omega⟩
          · have hmin:min y 3001=3001:=om
            go_wp2_with fail
            exact⟨⟨n+3001,k+1,by simp,by simp,om,om,trivial⟩,by simp[intOf];omega⟩
        · go_wp2_with fail
          exact⟨⟨n,k+1,by simp,by simp,om,om,trivial⟩,by simp[intOf];omega⟩
      · go_wp2_with fail
        go_ret
        exact⟨⟨n,rfl⟩,rfl⟩
    · obtain rfl:k=l.length:=om
      go_wp2_with fail
      go_ret
      exact⟨⟨n,rfl⟩,rfl⟩
end Go.Proofs.YtlfnddmncbkjaacGreat.W
