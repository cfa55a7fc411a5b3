import Derived.Test.YtlfnddmncbkjaabGreatDoorZFbForm
set_option linter.unusedVariables false
set_option linter.unusedSimpArgs false
set_option maxRecDepth 100000
set_option maxHeartbeats 4000000
namespace Go.Proofs.YtlfnddmncbkjaabGreatDoor.Fb
open Go.RowKit
abbrev orw (a b:Int):Int:=bits .or .u32 a b
def isS(i:InsD):Bool:=
  decide (1≤i.op∧i.op≤59∧0≤i.rd∧i.rd≤31∧0≤i.rs1∧i.rs1≤31∧0≤i.rs2∧i.rs2≤31)&&
  (if i.op ≤ 2 then decide (i.rs1 = 0 ∧ i.rs2 = 0 ∧ i.imm % 4096 = 0)
   else if i.op=3 then decide (i.rs1=0∧i.rs2=0∧ -1048576≤i.imm∧i.imm≤1048574∧i.imm%2=0)
   else if i.op=4∨(11≤i.op∧i.op≤15)∨(19≤i.op∧i.op≤24)∨i.op=57 then decide (i.rs2=0∧ -2048≤i.imm∧i.imm≤2047)
   else if 5≤i.op∧i.op≤10 then decide (i.rd=0∧ -4096≤i.imm∧i.imm≤4094∧i.imm%2=0)
   else if 16≤i.op∧i.op≤18 then decide (i.rd=0∧ -2048≤i.imm∧i.imm≤2047)
   else if 25≤i.op∧i.op≤27 then decide (i.rs2=0∧0≤i.imm∧i.imm≤31)
   else if 28≤i.op∧i.op≤45 then decide (i.imm=0)
   else if 46≤i.op∧i.op≤56 then decide (0≤i.imm∧i.imm≤3∧(i.op=46→i.rs2=0))
   else decide (i.rd=0∧i.rs1=0∧i.rs2=0∧i.imm=0))
def Qy(k:KindD)(rd rs1 rs2:Int):Int:=orw (orw (orw (orw k.low (rd*128)) (k.mid*4096)) (rs1*32768)) (rs2*1048576)
def encK(k:KindD)(rd rs1 rs2 n:Int):Int:=
  if(k.form==0)=true then orw (Qy k rd rs1 rs2) (n-n%4096)
  else if(k.form==1)=true then orw (Qy k rd rs1 rs2) (orw (orw (orw (n / 1048576%2*2147483648) (n / 4096%256*4096)) (n / 2048%2*1048576)) (n / 2%1024*2097152))
  else if(k.form==2)=true then orw (Qy k rd rs1 rs2) (n%4096*1048576)
  else if(k.form==3)=true then orw (Qy k rd rs1 rs2) (orw (n%32*1048576) (k.up*33554432))
  else if(k.form==4)=true then orw (Qy k rd rs1 rs2) (orw (orw (orw (n / 4096%2*2147483648) (n / 2048%2*128)) (n / 32%64*33554432)) (n / 2%16*256))
  else if(k.form==5)=true then orw (Qy k rd rs1 rs2) (orw (n / 32%128*33554432) (n%32*128))
  else if(k.form==6)=true then orw (Qy k rd rs1 rs2) (k.up*33554432)
  else if(k.form==7)=true then orw (Qy k rd rs1 rs2) (orw (k.up*134217728) (n%4*33554432))
  else orw (Qy k rd rs1 rs2) (k.up*1048576)
def encW(i:InsD):Int:=encK (qC i.op) i.rd i.rs1 i.rs2 (i.imm%4294967296)
def regsOk(i:InsD):Bool:=decide (0≤i.rd∧i.rd<32)&&decide (0≤i.rs1∧i.rs1<32)&&decide (0≤i.rs2∧i.rs2<32)
theorem orw_u(a b:Int):U32 (orw a b):=bits_lo _ _ _
theorem encK_u(k:KindD)(rd rs1 rs2 n:Int):U32 (encK k rd rs1 rs2 n):=by
  unfold encK;repeat' (first|exact orw_u _ _|refine UW ?_ ?_)
theorem uf(a b c:Int)(ha:U32 a)(hb:U32 b)(hc:U32 c):orw (orw a b) c=orw a (orw b c):=by
  have h1:=orw_u a b
  have h2:=orw_u b c
  unfold orw at *
  rw[or32 _ _ h1.1 h1.2 hc.1 hc.2,or32 a _ ha.1 ha.2 h2.1 h2.2,or32 a b ha.1 ha.2 hb.1 hb.2,or32 b c hb.1 hb.2 hc.1 hc.2,sV,sV,Nat.or_assoc]
theorem jP(a x:Int)(k:Nat)(K:Int)(hK:K=2 ^ k)(hk:k≤32)(ha:0≤a)(ha':a<K)(hx:0≤x)(h:x*K<4294967296):orw a (x*K)=a+x*K:=by
  subst hK;exact or_hi a x k hk ha ha' hx h
theorem uQ(x a:Int)(k:Nat)(K:Int)(hK:K=2 ^ k)(hk:k≤32)(ha:0≤a)(ha':a<K)(hx:0≤x)(h:x*K<4294967296):orw (x*K) a=x*K+a:=by
  subst hK;exact or_lo x a k hk ha ha' hx h
theorem orw_mid(A B C:Int)(m k:Nat)(M K:Int)(hM:M=2 ^ m)(hK:K=2 ^ k)(hm:m≤32)(hkm:k≤32)(hA:0≤A)(hAM:A*M<4294967296)(hB:0≤B)(hB':B<K)(hC:0≤C)(hC':C*K+K≤M)(hMM:M≤4294967296)(hK0:0<K):orw (A*M+B) (C*K)=A*M+(B+C*K):=by
  have hCK:0≤C*K:=Int.mul_nonneg hC (Int.le_of_lt hK0)
  have hAM0:0≤A*M:=Int.mul_nonneg hA om
  have e1:A*M+B=orw (A*M) B:=(uQ A B m M hM hm hB om hA hAM).symm
  have e2:orw B (C*K)=B+C*K:=jP B C k K hK hkm hB hB' hC om
  rw[e1,uf _ _ _ ⟨hAM0,hAM⟩ ⟨hB,om⟩ ⟨hCK,om⟩,e2]
  exact uQ A _ m M hM hm om om hA hAM
theorem Jg(k:KindD)(rd rs1 rs2:Int)(hl:0≤k.low∧k.low<128)(hm:0≤k.mid∧k.mid<8)(h1:0≤rd∧rd<32)(h2:0≤rs1∧rs1<32)(h3:0≤rs2∧rs2<32):
    Qy k rd rs1 rs2=k.low+rd*128+k.mid*4096+rs1*32768+rs2*1048576:=by
  unfold Qy
  rw[jP k.low rd 7 128 rfl om om om om om,jP _ k.mid 12 4096 rfl om om om om om,
    jP _ rs1 15 32768 rfl om om om om om,jP _ rs2 20 1048576 rfl om om om om om]
theorem dop{p:Prop}(h:p:=by(have nw:(w==115)=false:=sH.2 om);(have nv:(w==1048691)=false:=sH.2 om);unfold qd UU;(simp only[List.find?_cons,List.find?_nil,m_1,m_2,m_3,m_4,m_5,m_6,m_7,m_8,m_9,m_10,m_11,m_12,m_13,m_14,m_15,m_16,m_17,m_18,m_19,m_20,m_21,m_22,m_23,m_24,m_25,m_26,m_27,m_28,m_29,m_30,m_31,m_32,m_33,m_34,m_35,m_36,m_37,m_38,m_39,m_40,m_41,m_42,m_43,m_44,m_45,m_46,m_47,m_48,m_49,m_50,m_51,m_52,m_53,m_54,m_55,m_56,m_57,m_58,m_59, *]);first|rfl|simp):p:=h
theorem u_1(w:Int)(h:w%128=55):qd w=some 1:=dop
theorem u_2(w:Int)(h:w%128=23):qd w=some 2:=dop
theorem u_3(w:Int)(h:w%128=111):qd w=some 3:=dop
theorem u_4(w:Int)(h:w%128=103)(h2:w / 4096%8=0):qd w=some 4:=dop
theorem u_5(w:Int)(h:w%128=99)(h2:w / 4096%8=0):qd w=some 5:=dop
theorem u_6(w:Int)(h:w%128=99)(h2:w / 4096%8=1):qd w=some 6:=dop
theorem u_7(w:Int)(h:w%128=99)(h2:w / 4096%8=4):qd w=some 7:=dop
theorem u_8(w:Int)(h:w%128=99)(h2:w / 4096%8=5):qd w=some 8:=dop
theorem u_9(w:Int)(h:w%128=99)(h2:w / 4096%8=6):qd w=some 9:=dop
theorem u_10(w:Int)(h:w%128=99)(h2:w / 4096%8=7):qd w=some 10:=dop
theorem u_11(w:Int)(h:w%128=3)(h2:w / 4096%8=0):qd w=some 11:=dop
theorem u_12(w:Int)(h:w%128=3)(h2:w / 4096%8=1):qd w=some 12:=dop
theorem u_13(w:Int)(h:w%128=3)(h2:w / 4096%8=2):qd w=some 13:=dop
theorem u_14(w:Int)(h:w%128=3)(h2:w / 4096%8=4):qd w=some 14:=dop
theorem u_15(w:Int)(h:w%128=3)(h2:w / 4096%8=5):qd w=some 15:=dop
theorem u_16(w:Int)(h:w%128=35)(h2:w / 4096%8=0):qd w=some 16:=dop
theorem u_17(w:Int)(h:w%128=35)(h2:w / 4096%8=1):qd w=some 17:=dop
theorem u_18(w:Int)(h:w%128=35)(h2:w / 4096%8=2):qd w=some 18:=dop
theorem u_19(w:Int)(h:w%128=19)(h2:w / 4096%8=0):qd w=some 19:=dop
theorem u_20(w:Int)(h:w%128=19)(h2:w / 4096%8=2):qd w=some 20:=dop
theorem u_21(w:Int)(h:w%128=19)(h2:w / 4096%8=3):qd w=some 21:=dop
theorem u_22(w:Int)(h:w%128=19)(h2:w / 4096%8=4):qd w=some 22:=dop
theorem u_23(w:Int)(h:w%128=19)(h2:w / 4096%8=6):qd w=some 23:=dop
theorem u_24(w:Int)(h:w%128=19)(h2:w / 4096%8=7):qd w=some 24:=dop
theorem u_25(w:Int)(h:w%128=19)(h2:w / 4096%8=1)(h3:w / 33554432%128=0):qd w=some 25:=dop
theorem u_26(w:Int)(h:w%128=19)(h2:w / 4096%8=5)(h3:w / 33554432%128=0):qd w=some 26:=dop
theorem u_27(w:Int)(h:w%128=19)(h2:w / 4096%8=5)(h3:w / 33554432%128=32):qd w=some 27:=dop
theorem u_28(w:Int)(h:w%128=51)(h2:w / 4096%8=0)(h3:w / 33554432%128=0):qd w=some 28:=dop
theorem u_29(w:Int)(h:w%128=51)(h2:w / 4096%8=0)(h3:w / 33554432%128=32):qd w=some 29:=dop
theorem u_30(w:Int)(h:w%128=51)(h2:w / 4096%8=1)(h3:w / 33554432%128=0):qd w=some 30:=dop
theorem u_31(w:Int)(h:w%128=51)(h2:w / 4096%8=2)(h3:w / 33554432%128=0):qd w=some 31:=dop
theorem u_32(w:Int)(h:w%128=51)(h2:w / 4096%8=3)(h3:w / 33554432%128=0):qd w=some 32:=dop
theorem u_33(w:Int)(h:w%128=51)(h2:w / 4096%8=4)(h3:w / 33554432%128=0):qd w=some 33:=dop
theorem u_34(w:Int)(h:w%128=51)(h2:w / 4096%8=5)(h3:w / 33554432%128=0):qd w=some 34:=dop
theorem u_35(w:Int)(h:w%128=51)(h2:w / 4096%8=5)(h3:w / 33554432%128=32):qd w=some 35:=dop
theorem u_36(w:Int)(h:w%128=51)(h2:w / 4096%8=6)(h3:w / 33554432%128=0):qd w=some 36:=dop
theorem u_37(w:Int)(h:w%128=51)(h2:w / 4096%8=7)(h3:w / 33554432%128=0):qd w=some 37:=dop
theorem u_38(w:Int)(h:w%128=51)(h2:w / 4096%8=0)(h3:w / 33554432%128=1):qd w=some 38:=dop
theorem u_39(w:Int)(h:w%128=51)(h2:w / 4096%8=1)(h3:w / 33554432%128=1):qd w=some 39:=dop
theorem u_40(w:Int)(h:w%128=51)(h2:w / 4096%8=2)(h3:w / 33554432%128=1):qd w=some 40:=dop
theorem u_41(w:Int)(h:w%128=51)(h2:w / 4096%8=3)(h3:w / 33554432%128=1):qd w=some 41:=dop
theorem u_42(w:Int)(h:w%128=51)(h2:w / 4096%8=4)(h3:w / 33554432%128=1):qd w=some 42:=dop
theorem u_43(w:Int)(h:w%128=51)(h2:w / 4096%8=5)(h3:w / 33554432%128=1):qd w=some 43:=dop
theorem u_44(w:Int)(h:w%128=51)(h2:w / 4096%8=6)(h3:w / 33554432%128=1):qd w=some 44:=dop
theorem u_45(w:Int)(h:w%128=51)(h2:w / 4096%8=7)(h3:w / 33554432%128=1):qd w=some 45:=dop
theorem u_46(w:Int)(h:w%128=47)(h2:w / 4096%8=2)(h3:w / 134217728%32=2)(h4:w / 1048576%32=0):qd w=some 46:=dop
theorem u_47(w:Int)(h:w%128=47)(h2:w / 4096%8=2)(h3:w / 134217728%32=3):qd w=some 47:=dop
theorem u_48(w:Int)(h:w%128=47)(h2:w / 4096%8=2)(h3:w / 134217728%32=1):qd w=some 48:=dop
theorem u_49(w:Int)(h:w%128=47)(h2:w / 4096%8=2)(h3:w / 134217728%32=0):qd w=some 49:=dop
theorem u_50(w:Int)(h:w%128=47)(h2:w / 4096%8=2)(h3:w / 134217728%32=4):qd w=some 50:=dop
theorem u_51(w:Int)(h:w%128=47)(h2:w / 4096%8=2)(h3:w / 134217728%32=12):qd w=some 51:=dop
theorem u_52(w:Int)(h:w%128=47)(h2:w / 4096%8=2)(h3:w / 134217728%32=8):qd w=some 52:=dop
theorem u_53(w:Int)(h:w%128=47)(h2:w / 4096%8=2)(h3:w / 134217728%32=16):qd w=some 53:=dop
theorem u_54(w:Int)(h:w%128=47)(h2:w / 4096%8=2)(h3:w / 134217728%32=20):qd w=some 54:=dop
theorem u_55(w:Int)(h:w%128=47)(h2:w / 4096%8=2)(h3:w / 134217728%32=24):qd w=some 55:=dop
theorem u_56(w:Int)(h:w%128=47)(h2:w / 4096%8=2)(h3:w / 134217728%32=28):qd w=some 56:=dop
theorem u_57(w:Int)(h:w%128=15)(h2:w / 4096%8=0):qd w=some 57:=dop
theorem u_58(w:Int)(h:w=115):qd w=some 58:=by
  subst h;decide
theorem u_59(w:Int)(h:w=1048691):qd w=some 59:=by
  subst h;decide
end Go.Proofs.YtlfnddmncbkjaabGreatDoor.Fb
