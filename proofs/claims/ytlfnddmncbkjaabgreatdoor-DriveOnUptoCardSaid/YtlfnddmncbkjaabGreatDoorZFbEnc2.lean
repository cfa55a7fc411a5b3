import Derived.Test.YtlfnddmncbkjaabGreatDoorZFbEnc
set_option linter.unusedVariables false
set_option linter.unusedSimpArgs false
set_option maxRecDepth 100000
set_option maxHeartbeats 4000000
namespace Go.Proofs.YtlfnddmncbkjaabGreatDoor.Fb
open Go.RowKit
theorem dig(W lo x K m hi:Int)(h:W=lo+(x+hi*m)*K)(l0:0≤lo)(l1:lo<K)(x0:0≤x)(x1:x<m):W / K%m=x:=by
  have hK:K≠0:=om
  rw[h,Int.add_mul_ediv_right _ _ hK,Int.ediv_eq_zero_of_lt l0 l1,Int.zero_add,Int.add_mul_emod_self_right,Int.emod_eq_of_lt x0 x1]
theorem JE{a b:InsD}(h1:a.op=b.op)(h2:a.rd=b.rd)(h3:a.rs1=b.rs1)(h4:a.rs2=b.rs2)(h5:a.imm=b.imm):some a=some b:=by
  cases a;cases b;simp_all
theorem cH{p:Prop}(h:p:=by
 simp only[Option.map_some]
 rw[hk]
 refine JE rfl ?_ ?_ ?_ ?_
 all_goals simp[QR,immU,immJ,immI,immB,immS,sgn,wrap32]
 all_goals omega):p:=h
theorem enc_U(op l m u rd imm:Int)(h1:0≤rd∧rd<32)(h5: -2147483648≤imm∧imm≤2147483647∧imm%4096=0)(hk:qC op=⟨0,l,0,0⟩)(hu:∀w:Int,w%128=l→qd w=some op)(hl:0≤l∧l<128)(hm:0≤m∧m<8)(hup:0≤u∧u<128):
    dec (encW ⟨op,rd,0,0,imm⟩)=some ⟨op,rd,0,0,imm⟩:=by
  obtain⟨l0,l1⟩:=hl
  obtain⟨m0,m1⟩:=hm
  obtain⟨u0,u1⟩:=hup
  have he:encW ⟨op,rd,0,0,imm⟩=l+rd*128+imm%4294967296:=by
    unfold encW
    rw[hk]
    unfold encK
    rw[Jg _ _ _ _ ⟨l0,l1⟩ ⟨by dsimp only;omega,by dsimp only;omega⟩ ⟨by dsimp only;omega,by dsimp only;omega⟩ ⟨by dsimp only;omega,by dsimp only;omega⟩ ⟨by dsimp only;omega,by dsimp only;omega⟩]
    dsimp only
    rw[if_pos zF,show imm%4294967296-imm%4294967296%4096=imm%4294967296 / 4096*4096 from om,jP _ _ 12 4096 rfl om om om om om]
    omega
  rw[he]
  unfold dec
  rw[hu _ om]
  exact cH
theorem enc_J(op l m u rd imm:Int)(h1:0≤rd∧rd<32)(h5: -1048576≤imm∧imm≤1048574∧imm%2=0)(hk:qC op=⟨1,l,0,0⟩)(hu:∀w:Int,w%128=l→qd w=some op)(hl:0≤l∧l<128)(hm:0≤m∧m<8)(hup:0≤u∧u<128):
    dec (encW ⟨op,rd,0,0,imm⟩)=some ⟨op,rd,0,0,imm⟩:=by
  obtain⟨l0,l1⟩:=hl
  obtain⟨m0,m1⟩:=hm
  obtain⟨u0,u1⟩:=hup
  obtain⟨n,hn⟩:∃n,n=imm%4294967296:=⟨_,rfl⟩
  obtain⟨a,ha⟩:∃a,a=n / 1048576%2:=⟨_,rfl⟩
  obtain⟨b,hb⟩:∃b,b=n / 4096%256:=⟨_,rfl⟩
  obtain⟨c,hc⟩:∃c,c=n / 2048%2:=⟨_,rfl⟩
  obtain⟨d,hd⟩:∃d,d=n / 2%1024:=⟨_,rfl⟩
  have hs:a*1048576+b*4096+c*2048+d*2=imm%2097152:=om
  have ba:0≤a∧a<2:=om
  have bb:0≤b∧b<256:=om
  have bc:0≤c∧c<2:=om
  have bd:0≤d∧d<1024:=om
  have he:encW ⟨op,rd,0,0,imm⟩=l+rd*128+b*4096+c*1048576+d*2097152+a*2147483648:=by
    unfold encW
    rw[hk]
    unfold encK
    rw[Jg _ _ _ _ ⟨l0,l1⟩ ⟨by dsimp only;omega,by dsimp only;omega⟩ ⟨by dsimp only;omega,by dsimp only;omega⟩ ⟨by dsimp only;omega,by dsimp only;omega⟩ ⟨by dsimp only;omega,by dsimp only;omega⟩]
    dsimp only
    rw[←hn]
    rw[if_neg zF,if_pos zF,←ha,←hb,←hc,←hd]
    have q1:orw (a*2147483648) (b*4096)=a*2147483648+b*4096:=uQ _ _ 31 2147483648 rfl om om om om om
    have q2:=orw_mid a (b*4096) c 31 20 2147483648 1048576 rfl rfl om om om om om om om om om om
    have q3:=orw_mid a (b*4096+c*1048576) d 31 21 2147483648 2097152 rfl rfl om om om om om om om om om om
    rw[q1,q2,q3]
    rw[show a*2147483648+(b*4096+c*1048576+d*2097152)=(a*524288+b+c*256+d*512)*4096 from om,jP _ _ 12 4096 rfl om om om om om]
    omega
  clear hn ha hb hc hd
  rw[he]
  generalize hW:l+rd*128+b*4096+c*1048576+d*2097152+a*2147483648=W
  have rr_l:W%128=l:=by
    have e:W=l+(rd*1+b*32+c*8192+d*16384+a*16777216)*128:=om
    rw[e,Int.add_mul_emod_self_right,Int.emod_eq_of_lt l0 l1]
  have rr_rd:W / 128%32=rd:=dig W (l) rd 128 32 (b*1+c*256+d*512+a*524288) om om om om om
  have rr_b:W / 4096%256=b:=dig W (l+rd*128) b 4096 256 (c*1+d*2+a*2048) om om om om om
  have rr_c:W / 1048576%2=c:=dig W (l+rd*128+b*4096) c 1048576 2 (d*1+a*1024) om om om om om
  have rr_d:W / 2097152%1024=d:=dig W (l+rd*128+b*4096+c*1048576) d 2097152 1024 (a*1) om om om om om
  have rr_a:W / 2147483648%2=a:=dig W (l+rd*128+b*4096+c*1048576+d*2097152) a 2147483648 2 (0) om om om om om
  unfold dec
  rw[hu W rr_l]
  simp only[Option.map_some]
  rw[hk]
  refine JE rfl ?_ ?_ ?_ ?_
  · first|(simp[QR];done)|exact rr_rd
  · first|(simp[QR];done)|exact rr_rs1
  · first|(simp[QR];done)|exact rr_rs2
  · show sgn 1048576 (W / 2147483648%2*1048576+W / 4096%256*4096+W / 1048576%2*2048+W / 2097152%1024*2)=imm
    rw[rr_a,rr_b,rr_c,rr_d,hs]
    unfold sgn
    split<;>omega
theorem un(op l m u rd rs1 imm:Int)(h1:0≤rd∧rd<32)(h2:0≤rs1∧rs1<32)(h5: -2048≤imm∧imm≤2047)(hk:qC op=⟨2,l,m,0⟩)(hu:∀w:Int,w%128=l→w / 4096%8=m→qd w=some op)(hl:0≤l∧l<128)(hm:0≤m∧m<8)(hup:0≤u∧u<128):
    dec (encW ⟨op,rd,rs1,0,imm⟩)=some ⟨op,rd,rs1,0,imm⟩:=by
  obtain⟨l0,l1⟩:=hl
  obtain⟨m0,m1⟩:=hm
  obtain⟨u0,u1⟩:=hup
  have he:encW ⟨op,rd,rs1,0,imm⟩=l+rd*128+m*4096+rs1*32768+imm%4096*1048576:=by
    unfold encW
    rw[hk]
    unfold encK
    rw[Jg _ _ _ _ ⟨l0,l1⟩ ⟨by dsimp only;omega,by dsimp only;omega⟩ ⟨by dsimp only;omega,by dsimp only;omega⟩ ⟨by dsimp only;omega,by dsimp only;omega⟩ ⟨by dsimp only;omega,by dsimp only;omega⟩]
    dsimp only
    rw[if_neg zF,if_neg zF,if_pos zF,jP _ _ 20 1048576 rfl om om om om om]
    omega
  rw[he]
  unfold dec
  rw[hu _ om om]
  exact cH
theorem enc_H(op l m u rd rs1 imm:Int)(h1:0≤rd∧rd<32)(h2:0≤rs1∧rs1<32)(h5:0≤imm∧imm≤31)(hk:qC op=⟨3,l,m,u⟩)(hu:∀w:Int,w%128=l→w / 4096%8=m→w / 33554432%128=u→qd w=some op)(hl:0≤l∧l<128)(hm:0≤m∧m<8)(hup:0≤u∧u<128):
    dec (encW ⟨op,rd,rs1,0,imm⟩)=some ⟨op,rd,rs1,0,imm⟩:=by
  obtain⟨l0,l1⟩:=hl
  obtain⟨m0,m1⟩:=hm
  obtain⟨u0,u1⟩:=hup
  have he:encW ⟨op,rd,rs1,0,imm⟩=l+rd*128+m*4096+rs1*32768+imm*1048576+u*33554432:=by
    unfold encW
    rw[hk]
    unfold encK
    rw[Jg _ _ _ _ ⟨l0,l1⟩ ⟨by dsimp only;omega,by dsimp only;omega⟩ ⟨by dsimp only;omega,by dsimp only;omega⟩ ⟨by dsimp only;omega,by dsimp only;omega⟩ ⟨by dsimp only;omega,by dsimp only;omega⟩]
    dsimp only
    rw[if_neg zF,if_neg zF,if_neg zF,if_pos zF,jP _ u 25 33554432 rfl om om om om om,
      show imm%4294967296%32*1048576+u*33554432=(imm+u*32)*1048576 from om,jP _ _ 20 1048576 rfl om om om om om]
    omega
  rw[he]
  unfold dec
  rw[hu _ om om om]
  exact cH
theorem cI{p:Prop}(h:p:=by
 intro A Z a0 a1 z0 z1
 have e1:A*33554432+Z*128=orw (Z*128) (A*33554432):=by rw[jP _ A 25 33554432 rfl om om om om om];omega
 have e2:orw l (Z*128)=l+Z*128:=jP _ _ 7 128 rfl om om om om om
 have uX:U32 ((m+rs1*8+rs2*256)*4096):=⟨om,om⟩
 have ul:U32 l:=⟨om,om⟩
 have uZ:U32 (Z*128):=⟨om,om⟩
 have uA:U32 (A*33554432):=⟨om,om⟩
 rw[e1,←uf _ _ _ (orw_u _ _) uZ uA,uf _ _ _ uX ul uZ,e2,uQ _ _ 12 4096 rfl om om om om om,jP _ A 25 33554432 rfl om om om om om]
 omega):p:=h
theorem enc_B(op l m u rs1 rs2 imm:Int)(h2:0≤rs1∧rs1<32)(h3:0≤rs2∧rs2<32)(h5: -4096≤imm∧imm≤4094∧imm%2=0)(hk:qC op=⟨4,l,m,0⟩)(hu:∀w:Int,w%128=l→w / 4096%8=m→qd w=some op)(hl:0≤l∧l<128)(hm:0≤m∧m<8)(hup:0≤u∧u<128):
    dec (encW ⟨op,0,rs1,rs2,imm⟩)=some ⟨op,0,rs1,rs2,imm⟩:=by
  obtain⟨l0,l1⟩:=hl
  obtain⟨m0,m1⟩:=hm
  obtain⟨u0,u1⟩:=hup
  obtain⟨n,hn⟩:∃n,n=imm%4294967296:=⟨_,rfl⟩
  obtain⟨a,ha⟩:∃a,a=n / 4096%2:=⟨_,rfl⟩
  obtain⟨b,hb⟩:∃b,b=n / 2048%2:=⟨_,rfl⟩
  obtain⟨c,hc⟩:∃c,c=n / 32%64:=⟨_,rfl⟩
  obtain⟨d,hd⟩:∃d,d=n / 2%16:=⟨_,rfl⟩
  have hs:a*4096+b*2048+c*32+d*2=imm%8192:=om
  have ba:0≤a∧a<2:=om
  have bb:0≤b∧b<2:=om
  have bc:0≤c∧c<64:=om
  have bd:0≤d∧d<16:=om
  have he:encW ⟨op,0,rs1,rs2,imm⟩=l+(d*2+b)*128+(m+rs1*8+rs2*256)*4096+(a*64+c)*33554432:=by
    unfold encW
    rw[hk]
    unfold encK
    rw[Jg _ _ _ _ ⟨l0,l1⟩ ⟨by dsimp only;omega,by dsimp only;omega⟩ ⟨by dsimp only;omega,by dsimp only;omega⟩ ⟨by dsimp only;omega,by dsimp only;omega⟩ ⟨by dsimp only;omega,by dsimp only;omega⟩]
    dsimp only
    rw[←hn]
    rw[if_neg zF,if_neg zF,if_neg zF,if_neg zF,if_pos zF,←ha,←hb,←hc,←hd]
    have q1:orw (a*2147483648) (b*128)=a*2147483648+b*128:=uQ _ _ 31 2147483648 rfl om om om om om
    have q2:=orw_mid a (b*128) c 31 25 2147483648 33554432 rfl rfl om om om om om om om om om om
    have q3:=orw_mid (a*64+c) (b*128) d 25 8 33554432 256 rfl rfl om om om om om om om om om om
    rw[q1,q2,show a*2147483648+(b*128+c*33554432)=(a*64+c)*33554432+b*128 from om,q3]
    have b1:l+0*128+m*4096+rs1*32768+rs2*1048576=orw ((m+rs1*8+rs2*256)*4096) l:=by
      rw[uQ _ l 12 4096 rfl om om om om om];omega
    have b2:∀A Z:Int,0≤A→A<128→0≤Z→Z<32→orw (orw ((m+rs1*8+rs2*256)*4096) l) (A*33554432+Z*128)=l+Z*128+(m+rs1*8+rs2*256)*4096+A*33554432:=by
      exact cI
    rw[b1,show(a*64+c)*33554432+(b*128+d*256)=(a*64+c)*33554432+(d*2+b)*128 from by omega]
    rw[b2 _ _ om om om om]
  clear hn ha hb hc hd
  rw[he]
  generalize hW:l+(d*2+b)*128+(m+rs1*8+rs2*256)*4096+(a*64+c)*33554432=W
  have rr_l:W%128=l:=by
    have e:W=l+(b*1+d*2+m*32+rs1*256+rs2*8192+c*262144+a*16777216)*128:=om
    rw[e,Int.add_mul_emod_self_right,Int.emod_eq_of_lt l0 l1]
  have rr_b:W / 128%2=b:=dig W (l) b 128 2 (d*1+m*16+rs1*128+rs2*4096+c*131072+a*8388608) om om om om om
  have rr_d:W / 256%16=d:=dig W (l+b*128) d 256 16 (m*1+rs1*8+rs2*256+c*8192+a*524288) om om om om om
  have rr_m:W / 4096%8=m:=dig W (l+b*128+d*256) m 4096 8 (rs1*1+rs2*32+c*1024+a*65536) om om om om om
  have rr_rs1:W / 32768%32=rs1:=dig W (l+b*128+d*256+m*4096) rs1 32768 32 (rs2*1+c*32+a*2048) om om om om om
  have rr_rs2:W / 1048576%32=rs2:=dig W (l+b*128+d*256+m*4096+rs1*32768) rs2 1048576 32 (c*1+a*64) om om om om om
  have rr_c:W / 33554432%64=c:=dig W (l+b*128+d*256+m*4096+rs1*32768+rs2*1048576) c 33554432 64 (a*1) om om om om om
  have rr_a:W / 2147483648%2=a:=dig W (l+b*128+d*256+m*4096+rs1*32768+rs2*1048576+c*33554432) a 2147483648 2 (0) om om om om om
  unfold dec
  rw[hu W rr_l rr_m]
  simp only[Option.map_some]
  rw[hk]
  refine JE rfl ?_ ?_ ?_ ?_
  · first|(simp[QR];done)|exact rr_rd
  · first|(simp[QR];done)|exact rr_rs1
  · first|(simp[QR];done)|exact rr_rs2
  · show sgn 4096 (W / 2147483648%2*4096+W / 128%2*2048+W / 33554432%64*32+W / 256%16*2)=imm
    rw[rr_a,rr_b,rr_c,rr_d,hs]
    unfold sgn
    split<;>omega
theorem enc_S(op l m u rs1 rs2 imm:Int)(h2:0≤rs1∧rs1<32)(h3:0≤rs2∧rs2<32)(h5: -2048≤imm∧imm≤2047)(hk:qC op=⟨5,l,m,0⟩)(hu:∀w:Int,w%128=l→w / 4096%8=m→qd w=some op)(hl:0≤l∧l<128)(hm:0≤m∧m<8)(hup:0≤u∧u<128):
    dec (encW ⟨op,0,rs1,rs2,imm⟩)=some ⟨op,0,rs1,rs2,imm⟩:=by
  obtain⟨l0,l1⟩:=hl
  obtain⟨m0,m1⟩:=hm
  obtain⟨u0,u1⟩:=hup
  obtain⟨n,hn⟩:∃n,n=imm%4294967296:=⟨_,rfl⟩
  obtain⟨a,ha⟩:∃a,a=n / 32%128:=⟨_,rfl⟩
  obtain⟨b,hb⟩:∃b,b=n%32:=⟨_,rfl⟩
  have hs:a*32+b=imm%4096:=om
  have ba:0≤a∧a<128:=om
  have bb:0≤b∧b<32:=om
  have he:encW ⟨op,0,rs1,rs2,imm⟩=l+b*128+(m+rs1*8+rs2*256)*4096+a*33554432:=by
    unfold encW
    rw[hk]
    unfold encK
    rw[Jg _ _ _ _ ⟨l0,l1⟩ ⟨by dsimp only;omega,by dsimp only;omega⟩ ⟨by dsimp only;omega,by dsimp only;omega⟩ ⟨by dsimp only;omega,by dsimp only;omega⟩ ⟨by dsimp only;omega,by dsimp only;omega⟩]
    dsimp only
    rw[←hn]
    rw[if_neg zF,if_neg zF,if_neg zF,if_neg zF,if_neg zF,if_pos zF,←ha,←hb]
    rw[uQ _ _ 25 33554432 rfl om om om om om]
    have b1:l+0*128+m*4096+rs1*32768+rs2*1048576=orw ((m+rs1*8+rs2*256)*4096) l:=by
      rw[uQ _ l 12 4096 rfl om om om om om];omega
    have b2:∀A Z:Int,0≤A→A<128→0≤Z→Z<32→orw (orw ((m+rs1*8+rs2*256)*4096) l) (A*33554432+Z*128)=l+Z*128+(m+rs1*8+rs2*256)*4096+A*33554432:=by
      exact cI
    rw[b1,b2 _ _ om om om om]
  clear hn ha hb
  rw[he]
  generalize hW:l+b*128+(m+rs1*8+rs2*256)*4096+a*33554432=W
  have rr_l:W%128=l:=by
    have e:W=l+(b*1+m*32+rs1*256+rs2*8192+a*262144)*128:=om
    rw[e,Int.add_mul_emod_self_right,Int.emod_eq_of_lt l0 l1]
  have rr_b:W / 128%32=b:=dig W (l) b 128 32 (m*1+rs1*8+rs2*256+a*8192) om om om om om
  have rr_m:W / 4096%8=m:=dig W (l+b*128) m 4096 8 (rs1*1+rs2*32+a*1024) om om om om om
  have rr_rs1:W / 32768%32=rs1:=dig W (l+b*128+m*4096) rs1 32768 32 (rs2*1+a*32) om om om om om
  have rr_rs2:W / 1048576%32=rs2:=dig W (l+b*128+m*4096+rs1*32768) rs2 1048576 32 (a*1) om om om om om
  have rr_a:W / 33554432%128=a:=dig W (l+b*128+m*4096+rs1*32768+rs2*1048576) a 33554432 128 (0) om om om om om
  unfold dec
  rw[hu W rr_l rr_m]
  simp only[Option.map_some]
  rw[hk]
  refine JE rfl ?_ ?_ ?_ ?_
  · first|(simp[QR];done)|exact rr_rd
  · first|(simp[QR];done)|exact rr_rs1
  · first|(simp[QR];done)|exact rr_rs2
  · show sgn 2048 (W / 33554432%128*32+W / 128%32)=imm
    rw[rr_a,rr_b,hs]
    unfold sgn
    split<;>omega
theorem JO(op l m u rd rs1 rs2:Int)(h1:0≤rd∧rd<32)(h2:0≤rs1∧rs1<32)(h3:0≤rs2∧rs2<32)(hk:qC op=⟨6,l,m,u⟩)(hu:∀w:Int,w%128=l→w / 4096%8=m→w / 33554432%128=u→qd w=some op)(hl:0≤l∧l<128)(hm:0≤m∧m<8)(hup:0≤u∧u<128):
    dec (encW ⟨op,rd,rs1,rs2,0⟩)=some ⟨op,rd,rs1,rs2,0⟩:=by
  obtain⟨l0,l1⟩:=hl
  obtain⟨m0,m1⟩:=hm
  obtain⟨u0,u1⟩:=hup
  have he:encW ⟨op,rd,rs1,rs2,0⟩=l+rd*128+m*4096+rs1*32768+rs2*1048576+u*33554432:=by
    unfold encW
    rw[hk]
    unfold encK
    rw[Jg _ _ _ _ ⟨l0,l1⟩ ⟨by dsimp only;omega,by dsimp only;omega⟩ ⟨by dsimp only;omega,by dsimp only;omega⟩ ⟨by dsimp only;omega,by dsimp only;omega⟩ ⟨by dsimp only;omega,by dsimp only;omega⟩]
    dsimp only
    rw[if_neg zF,if_neg zF,if_neg zF,if_neg zF,if_neg zF,if_neg zF,if_pos zF,jP _ u 25 33554432 rfl om om om om om]
  rw[he]
  unfold dec
  rw[hu _ om om om]
  exact cH
theorem enc_A(op l m u rd rs1 rs2 imm:Int)(h1:0≤rd∧rd<32)(h2:0≤rs1∧rs1<32)(h3:0≤rs2∧rs2<32)(h5:0≤imm∧imm≤3)(hu32:u<32)(R:Prop)(hR:op=46→rs2=0)(hk:qC op=⟨7,l,m,u⟩)(hu:∀w:Int,w%128=l→w / 4096%8=m→w / 134217728%32=u→(op=46→w / 1048576%32=0)→qd w=some op)(hl:0≤l∧l<128)(hm:0≤m∧m<8)(hup:0≤u∧u<128):
    dec (encW ⟨op,rd,rs1,rs2,imm⟩)=some ⟨op,rd,rs1,rs2,imm⟩:=by
  obtain⟨l0,l1⟩:=hl
  obtain⟨m0,m1⟩:=hm
  obtain⟨u0,u1⟩:=hup
  have he:encW ⟨op,rd,rs1,rs2,imm⟩=l+rd*128+m*4096+rs1*32768+rs2*1048576+imm*33554432+u*134217728:=by
    unfold encW
    rw[hk]
    unfold encK
    rw[Jg _ _ _ _ ⟨l0,l1⟩ ⟨by dsimp only;omega,by dsimp only;omega⟩ ⟨by dsimp only;omega,by dsimp only;omega⟩ ⟨by dsimp only;omega,by dsimp only;omega⟩ ⟨by dsimp only;omega,by dsimp only;omega⟩]
    dsimp only
    rw[if_neg zF,if_neg zF,if_neg zF,if_neg zF,if_neg zF,if_neg zF,if_neg zF,if_pos zF,uQ u _ 27 134217728 rfl om om om om om,
      show u*134217728+imm%4294967296%4*33554432=(imm+u*4)*33554432 from om,jP _ _ 25 33554432 rfl om om om om om]
    omega
  rw[he]
  unfold dec
  rw[hu _ om om om (by intro h;have:=hR h;omega)]
  exact cH
theorem enc_E(op l m u:Int)(hk:qC op=⟨8,l,0,u⟩)(hu:∀w:Int,w=l+u*1048576→qd w=some op)(hl:0≤l∧l<128)(hm:0≤m∧m<8)(hup:0≤u∧u<128):
    dec (encW ⟨op,0,0,0,0⟩)=some ⟨op,0,0,0,0⟩:=by
  obtain⟨l0,l1⟩:=hl
  obtain⟨m0,m1⟩:=hm
  obtain⟨u0,u1⟩:=hup
  have he:encW ⟨op,0,0,0,0⟩=l+u*1048576:=by
    unfold encW
    rw[hk]
    unfold encK
    rw[Jg _ _ _ _ ⟨l0,l1⟩ ⟨by dsimp only;omega,by dsimp only;omega⟩ ⟨by dsimp only;omega,by dsimp only;omega⟩ ⟨by dsimp only;omega,by dsimp only;omega⟩ ⟨by dsimp only;omega,by dsimp only;omega⟩]
    dsimp only
    rw[if_neg zF,if_neg zF,if_neg zF,if_neg zF,if_neg zF,if_neg zF,if_neg zF,if_neg zF,jP _ u 20 1048576 rfl om om om om om]
    omega
  rw[he]
  unfold dec
  rw[hu _ rfl]
  exact cH
theorem enc_dec(i:InsD)(h:isS i=true)(hi: -2147483648≤i.imm∧i.imm≤2147483647):dec (encW i)=some i:=by
  obtain⟨op,rd,rs1,rs2,imm⟩:=i
  have hop:1≤op∧op≤59:=by simp[isS]at h;omega
  have hc:op=1∨op=2∨op=3∨op=4∨op=5∨op=6∨op=7∨op=8∨op=9∨op=10∨op=11∨op=12∨op=13∨op=14∨op=15∨op=16∨op=17∨op=18∨op=19∨op=20∨op=21∨op=22∨op=23∨op=24∨op=25∨op=26∨op=27∨op=28∨op=29∨op=30∨op=31∨op=32∨op=33∨op=34∨op=35∨op=36∨op=37∨op=38∨op=39∨op=40∨op=41∨op=42∨op=43∨op=44∨op=45∨op=46∨op=47∨op=48∨op=49∨op=50∨op=51∨op=52∨op=53∨op=54∨op=55∨op=56∨op=57∨op=58∨op=59:=om
  dsimp only at hi
  rcases hc with rfl|rfl|rfl|rfl|rfl|rfl|rfl|rfl|rfl|rfl|rfl|rfl|rfl|rfl|rfl|rfl|rfl|rfl|rfl|rfl|rfl|rfl|rfl|rfl|rfl|rfl|rfl|rfl|rfl|rfl|rfl|rfl|rfl|rfl|rfl|rfl|rfl|rfl|rfl|rfl|rfl|rfl|rfl|rfl|rfl|rfl|rfl|rfl|rfl|rfl|rfl|rfl|rfl|rfl|rfl|rfl|rfl|rfl|rfl
  · simp[isS]at h
    obtain⟨rfl,rfl⟩:rs1=0∧rs2=0:=om
    exact enc_U 1 55 0 0 rd imm om om rfl u_1 ⟨om,om⟩ ⟨om,om⟩ ⟨om,om⟩
  · simp[isS]at h
    obtain⟨rfl,rfl⟩:rs1=0∧rs2=0:=om
    exact enc_U 2 23 0 0 rd imm om om rfl u_2 ⟨om,om⟩ ⟨om,om⟩ ⟨om,om⟩
  · simp[isS]at h
    obtain⟨rfl,rfl⟩:rs1=0∧rs2=0:=om
    exact enc_J 3 111 0 0 rd imm om om rfl u_3 ⟨om,om⟩ ⟨om,om⟩ ⟨om,om⟩
  · simp[isS]at h
    obtain rfl:rs2=0:=om
    exact un 4 103 0 0 rd rs1 imm om om om rfl u_4 ⟨om,om⟩ ⟨om,om⟩ ⟨om,om⟩
  · simp[isS]at h
    obtain rfl:rd=0:=om
    exact enc_B 5 99 0 0 rs1 rs2 imm om om om rfl u_5 ⟨om,om⟩ ⟨om,om⟩ ⟨om,om⟩
  · simp[isS]at h
    obtain rfl:rd=0:=om
    exact enc_B 6 99 1 0 rs1 rs2 imm om om om rfl u_6 ⟨om,om⟩ ⟨om,om⟩ ⟨om,om⟩
  · simp[isS]at h
    obtain rfl:rd=0:=om
    exact enc_B 7 99 4 0 rs1 rs2 imm om om om rfl u_7 ⟨om,om⟩ ⟨om,om⟩ ⟨om,om⟩
  · simp[isS]at h
    obtain rfl:rd=0:=om
    exact enc_B 8 99 5 0 rs1 rs2 imm om om om rfl u_8 ⟨om,om⟩ ⟨om,om⟩ ⟨om,om⟩
  · simp[isS]at h
    obtain rfl:rd=0:=om
    exact enc_B 9 99 6 0 rs1 rs2 imm om om om rfl u_9 ⟨om,om⟩ ⟨om,om⟩ ⟨om,om⟩
  · simp[isS]at h
    obtain rfl:rd=0:=om
    exact enc_B 10 99 7 0 rs1 rs2 imm om om om rfl u_10 ⟨om,om⟩ ⟨om,om⟩ ⟨om,om⟩
  · simp[isS]at h
    obtain rfl:rs2=0:=om
    exact un 11 3 0 0 rd rs1 imm om om om rfl u_11 ⟨om,om⟩ ⟨om,om⟩ ⟨om,om⟩
  · simp[isS]at h
    obtain rfl:rs2=0:=om
    exact un 12 3 1 0 rd rs1 imm om om om rfl u_12 ⟨om,om⟩ ⟨om,om⟩ ⟨om,om⟩
  · simp[isS]at h
    obtain rfl:rs2=0:=om
    exact un 13 3 2 0 rd rs1 imm om om om rfl u_13 ⟨om,om⟩ ⟨om,om⟩ ⟨om,om⟩
  · simp[isS]at h
    obtain rfl:rs2=0:=om
    exact un 14 3 4 0 rd rs1 imm om om om rfl u_14 ⟨om,om⟩ ⟨om,om⟩ ⟨om,om⟩
  · simp[isS]at h
    obtain rfl:rs2=0:=om
    exact un 15 3 5 0 rd rs1 imm om om om rfl u_15 ⟨om,om⟩ ⟨om,om⟩ ⟨om,om⟩
  · simp[isS]at h
    obtain rfl:rd=0:=om
    exact enc_S 16 35 0 0 rs1 rs2 imm om om om rfl u_16 ⟨om,om⟩ ⟨om,om⟩ ⟨om,om⟩
  · simp[isS]at h
    obtain rfl:rd=0:=om
    exact enc_S 17 35 1 0 rs1 rs2 imm om om om rfl u_17 ⟨om,om⟩ ⟨om,om⟩ ⟨om,om⟩
  · simp[isS]at h
    obtain rfl:rd=0:=om
    exact enc_S 18 35 2 0 rs1 rs2 imm om om om rfl u_18 ⟨om,om⟩ ⟨om,om⟩ ⟨om,om⟩
  · simp[isS]at h
    obtain rfl:rs2=0:=om
    exact un 19 19 0 0 rd rs1 imm om om om rfl u_19 ⟨om,om⟩ ⟨om,om⟩ ⟨om,om⟩
  · simp[isS]at h
    obtain rfl:rs2=0:=om
    exact un 20 19 2 0 rd rs1 imm om om om rfl u_20 ⟨om,om⟩ ⟨om,om⟩ ⟨om,om⟩
  · simp[isS]at h
    obtain rfl:rs2=0:=om
    exact un 21 19 3 0 rd rs1 imm om om om rfl u_21 ⟨om,om⟩ ⟨om,om⟩ ⟨om,om⟩
  · simp[isS]at h
    obtain rfl:rs2=0:=om
    exact un 22 19 4 0 rd rs1 imm om om om rfl u_22 ⟨om,om⟩ ⟨om,om⟩ ⟨om,om⟩
  · simp[isS]at h
    obtain rfl:rs2=0:=om
    exact un 23 19 6 0 rd rs1 imm om om om rfl u_23 ⟨om,om⟩ ⟨om,om⟩ ⟨om,om⟩
  · simp[isS]at h
    obtain rfl:rs2=0:=om
    exact un 24 19 7 0 rd rs1 imm om om om rfl u_24 ⟨om,om⟩ ⟨om,om⟩ ⟨om,om⟩
  · simp[isS]at h
    obtain rfl:rs2=0:=om
    exact enc_H 25 19 1 0 rd rs1 imm om om om rfl u_25 ⟨om,om⟩ ⟨om,om⟩ ⟨om,om⟩
  · simp[isS]at h
    obtain rfl:rs2=0:=om
    exact enc_H 26 19 5 0 rd rs1 imm om om om rfl u_26 ⟨om,om⟩ ⟨om,om⟩ ⟨om,om⟩
  · simp[isS]at h
    obtain rfl:rs2=0:=om
    exact enc_H 27 19 5 32 rd rs1 imm om om om rfl u_27 ⟨om,om⟩ ⟨om,om⟩ ⟨om,om⟩
  · simp[isS]at h
    obtain rfl:imm=0:=om
    exact JO 28 51 0 0 rd rs1 rs2 om om om rfl u_28 ⟨om,om⟩ ⟨om,om⟩ ⟨om,om⟩
  · simp[isS]at h
    obtain rfl:imm=0:=om
    exact JO 29 51 0 32 rd rs1 rs2 om om om rfl u_29 ⟨om,om⟩ ⟨om,om⟩ ⟨om,om⟩
  · simp[isS]at h
    obtain rfl:imm=0:=om
    exact JO 30 51 1 0 rd rs1 rs2 om om om rfl u_30 ⟨om,om⟩ ⟨om,om⟩ ⟨om,om⟩
  · simp[isS]at h
    obtain rfl:imm=0:=om
    exact JO 31 51 2 0 rd rs1 rs2 om om om rfl u_31 ⟨om,om⟩ ⟨om,om⟩ ⟨om,om⟩
  · simp[isS]at h
    obtain rfl:imm=0:=om
    exact JO 32 51 3 0 rd rs1 rs2 om om om rfl u_32 ⟨om,om⟩ ⟨om,om⟩ ⟨om,om⟩
  · simp[isS]at h
    obtain rfl:imm=0:=om
    exact JO 33 51 4 0 rd rs1 rs2 om om om rfl u_33 ⟨om,om⟩ ⟨om,om⟩ ⟨om,om⟩
  · simp[isS]at h
    obtain rfl:imm=0:=om
    exact JO 34 51 5 0 rd rs1 rs2 om om om rfl u_34 ⟨om,om⟩ ⟨om,om⟩ ⟨om,om⟩
  · simp[isS]at h
    obtain rfl:imm=0:=om
    exact JO 35 51 5 32 rd rs1 rs2 om om om rfl u_35 ⟨om,om⟩ ⟨om,om⟩ ⟨om,om⟩
  · simp[isS]at h
    obtain rfl:imm=0:=om
    exact JO 36 51 6 0 rd rs1 rs2 om om om rfl u_36 ⟨om,om⟩ ⟨om,om⟩ ⟨om,om⟩
  · simp[isS]at h
    obtain rfl:imm=0:=om
    exact JO 37 51 7 0 rd rs1 rs2 om om om rfl u_37 ⟨om,om⟩ ⟨om,om⟩ ⟨om,om⟩
  · simp[isS]at h
    obtain rfl:imm=0:=om
    exact JO 38 51 0 1 rd rs1 rs2 om om om rfl u_38 ⟨om,om⟩ ⟨om,om⟩ ⟨om,om⟩
  · simp[isS]at h
    obtain rfl:imm=0:=om
    exact JO 39 51 1 1 rd rs1 rs2 om om om rfl u_39 ⟨om,om⟩ ⟨om,om⟩ ⟨om,om⟩
  · simp[isS]at h
    obtain rfl:imm=0:=om
    exact JO 40 51 2 1 rd rs1 rs2 om om om rfl u_40 ⟨om,om⟩ ⟨om,om⟩ ⟨om,om⟩
  · simp[isS]at h
    obtain rfl:imm=0:=om
    exact JO 41 51 3 1 rd rs1 rs2 om om om rfl u_41 ⟨om,om⟩ ⟨om,om⟩ ⟨om,om⟩
  · simp[isS]at h
    obtain rfl:imm=0:=om
    exact JO 42 51 4 1 rd rs1 rs2 om om om rfl u_42 ⟨om,om⟩ ⟨om,om⟩ ⟨om,om⟩
  · simp[isS]at h
    obtain rfl:imm=0:=om
    exact JO 43 51 5 1 rd rs1 rs2 om om om rfl u_43 ⟨om,om⟩ ⟨om,om⟩ ⟨om,om⟩
  · simp[isS]at h
    obtain rfl:imm=0:=om
    exact JO 44 51 6 1 rd rs1 rs2 om om om rfl u_44 ⟨om,om⟩ ⟨om,om⟩ ⟨om,om⟩
  · simp[isS]at h
    obtain rfl:imm=0:=om
    exact JO 45 51 7 1 rd rs1 rs2 om om om rfl u_45 ⟨om,om⟩ ⟨om,om⟩ ⟨om,om⟩
  · simp[isS]at h
    exact enc_A 46 47 2 2 rd rs1 rs2 imm om om om om om True om rfl (fun w a b c d=>u_46 w a b c (d rfl)) ⟨om,om⟩ ⟨om,om⟩ ⟨om,om⟩
  · simp[isS]at h
    exact enc_A 47 47 2 3 rd rs1 rs2 imm om om om om om True om rfl (fun w a b c d=>u_47 w a b c) ⟨om,om⟩ ⟨om,om⟩ ⟨om,om⟩
  · simp[isS]at h
    exact enc_A 48 47 2 1 rd rs1 rs2 imm om om om om om True om rfl (fun w a b c d=>u_48 w a b c) ⟨om,om⟩ ⟨om,om⟩ ⟨om,om⟩
  · simp[isS]at h
    exact enc_A 49 47 2 0 rd rs1 rs2 imm om om om om om True om rfl (fun w a b c d=>u_49 w a b c) ⟨om,om⟩ ⟨om,om⟩ ⟨om,om⟩
  · simp[isS]at h
    exact enc_A 50 47 2 4 rd rs1 rs2 imm om om om om om True om rfl (fun w a b c d=>u_50 w a b c) ⟨om,om⟩ ⟨om,om⟩ ⟨om,om⟩
  · simp[isS]at h
    exact enc_A 51 47 2 12 rd rs1 rs2 imm om om om om om True om rfl (fun w a b c d=>u_51 w a b c) ⟨om,om⟩ ⟨om,om⟩ ⟨om,om⟩
  · simp[isS]at h
    exact enc_A 52 47 2 8 rd rs1 rs2 imm om om om om om True om rfl (fun w a b c d=>u_52 w a b c) ⟨om,om⟩ ⟨om,om⟩ ⟨om,om⟩
  · simp[isS]at h
    exact enc_A 53 47 2 16 rd rs1 rs2 imm om om om om om True om rfl (fun w a b c d=>u_53 w a b c) ⟨om,om⟩ ⟨om,om⟩ ⟨om,om⟩
  · simp[isS]at h
    exact enc_A 54 47 2 20 rd rs1 rs2 imm om om om om om True om rfl (fun w a b c d=>u_54 w a b c) ⟨om,om⟩ ⟨om,om⟩ ⟨om,om⟩
  · simp[isS]at h
    exact enc_A 55 47 2 24 rd rs1 rs2 imm om om om om om True om rfl (fun w a b c d=>u_55 w a b c) ⟨om,om⟩ ⟨om,om⟩ ⟨om,om⟩
  · simp[isS]at h
    exact enc_A 56 47 2 28 rd rs1 rs2 imm om om om om om True om rfl (fun w a b c d=>u_56 w a b c) ⟨om,om⟩ ⟨om,om⟩ ⟨om,om⟩
  · simp[isS]at h
    obtain rfl:rs2=0:=om
    exact un 57 15 0 0 rd rs1 imm om om om rfl u_57 ⟨om,om⟩ ⟨om,om⟩ ⟨om,om⟩
  · simp[isS]at h
    obtain⟨rfl,rfl,rfl,rfl⟩:rd=0∧rs1=0∧rs2=0∧imm=0:=om
    exact enc_E 58 115 0 0 rfl (fun w a=>u_58 w a) ⟨om,om⟩ ⟨om,om⟩ ⟨om,om⟩
  · simp[isS]at h
    obtain⟨rfl,rfl,rfl,rfl⟩:rd=0∧rs1=0∧rs2=0∧imm=0:=om
    exact enc_E 59 115 0 1 rfl (fun w a=>u_59 w a) ⟨om,om⟩ ⟨om,om⟩ ⟨om,om⟩
end Go.Proofs.YtlfnddmncbkjaabGreatDoor.Fb
