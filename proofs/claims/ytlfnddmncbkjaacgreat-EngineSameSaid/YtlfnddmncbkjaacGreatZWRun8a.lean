import Derived.Test.YtlfnddmncbkjaacGreatZGR
set_option linter.unusedVariables false
set_option linter.unusedSimpArgs false
set_option maxRecDepth 100000
set_option maxHeartbeats 4000000
namespace Go.Proofs.YtlfnddmncbkjaacGreat.W
open Go.RowKit Fb
section
variable {rp cp hb po : Nat} {vm : Value} {w : World} {d : RunD} {vs : Value} {steps fr tw : Int}
theorem tyR:(113:TypeId)≠43:=by decide
theorem tyS:(108:TypeId)≠43:=by decide
theorem jP(h:R8 rp cp hb po vm 43 108 113 w d vs steps fr tw)(k:Nat)(hk:k<36):
    Calls Tryz.prog 106 #[.pointer (some ⟨rp,0,none⟩),.int .i64 k] w fun e w'=>e=.returned (.int .u32 (d.get k))∧w'=w:=by
  by_cases h32:k<32
  · have c0:=h.at_.get (QT 0 om)
    have p0:=h.core.ptr
    have hc:=h.core.hart.get (qV h.wf.h k h32)
    have e:d.get k=d.h.regs.getD k 0:=by unfold RunD.get;rw[if_pos h32]
    rw[e]
    clear e
    have i0:¬(32:Int)≤(k:Int):=om
    have i1:(0:Int)≤(k:Int):=om
    have i2:(k:Int)<32:=om
    simp only[sM]at hc c0
    clear h
    go_enter Tryz.func106,Tryz.ntmps106
    go_wp2_with fail
    go_ret
    exact⟨rfl,rfl⟩
  · obtain⟨j,rfl⟩:∃j,k=32+j:=⟨k-32,om⟩
    have hc:=h.at_.get (r8_temp h.wf.tlen (k:=j) om)
    have e:d.get (32+j)=d.temps.getD j 0:=by unfold RunD.get;rw[if_neg h32];simp
    rw[e]
    clear e
    have i0:(32:Int)≤((32+j:Nat):Int):=om
    have i1:wrap64 (((32+j:Nat):Int)-32)=(j:Int):=yH
    simp only[sM]at hc
    obtain⟨q,hq⟩:∃q:Int,q=((32+j:Nat):Int):=⟨_,rfl⟩
    rw[←hq]at i0 i1 ⊢
    have i2:(j:Int)<4:=om
    have i3:(0:Int)≤(j:Int):=om
    clear hq h32 hk h
    go_enter Tryz.func106,Tryz.ntmps106
    go_wp2_with fail
    go_ret
    exact⟨rfl,rfl⟩
theorem uF(h:R8 rp cp hb po vm 43 108 113 w d vs steps fr tw)(j:Nat)(hj:j<37)(v:Value)(h':Hart)(hl:qJ h'=(qJ d.h).set j v)(wf:h'.Wf):
    R8 rp cp hb po vm 43 108 113 (w.setCell ⟨hb,po+j,none⟩ v) {d with h:=h'} vs steps fr tw∧G8 rp 43 cp hb po vm w (w.setCell ⟨hb,po+j,none⟩ v):=by
  have hc:=h.core.setHart j v h' hl (by show j<(qJ d.h).length;rw[QR h.wf.h.len];exact hj)
  have hg:=Cgo.setHart (cp:=cp) (vm:=vm) (ty:=43) (hb:=hb) (ho:=po) w j hj v
  exact⟨h.cgo (d':={d with h:=h'}) hc hg tyR tyS {h.wf with h:=wf} h.olen h.mmax h.ufr h.utw rfl rfl rfl rfl rfl rfl rfl,G8.cgo hg h.clt⟩
theorem Jg(h:R8 rp cp hb po vm 43 108 113 w d vs steps fr tw)(pc:Int)(hpc:U32 pc):
    Calls Tryz.prog 105 #[.pointer (some ⟨rp,0,none⟩),.int .u32 pc] w fun e w'=>e=.returned (.bool false)∧R8 rp cp hb po vm 43 108 113 w' (d.stop pc) vs steps fr tw∧G8 rp 43 cp hb po vm w w':=by
  have c0:=h.at_.get (QT 0 om)
  have p0:=h.core.ptr
  have hc:=h.core.hart.get (qe h.wf.h)
  have hf:=h.core.hfz (po+32)
  have H0:=uF h 32 om (.int .u32 pc) (d.h.setPc pc) (qh h.wf.h.len pc) {h.wf.h with pc:=hpc}
  have H1:Hid (R8 rp cp hb po vm 43 108 113 (w.setCell ⟨hb,po+32,none⟩ (.int .u32 pc)) (d.stop pc) vs steps fr tw):=lI ⟨{H0.1.wf with},H0.1.olen,H0.1.mmax,H0.1.ufr,H0.1.utw,H0.1.core,H0.1.lt,H0.1.at_,H0.1.frz,H0.1.ty,H0.1.sto⟩
  have HG:=lI H0.2
  simp only[sM]at hc c0
  clear h H0
  go_enter Tryz.func105,Tryz.ntmps105
  go_wp2_with fail
  go_ret
  exact⟨rfl,H1.out,HG.out⟩
theorem put8_any(h:R8 rp cp hb po vm 43 108 113 w d vs steps fr tw)(k:Nat)(hk:k<36)(x:Int)(hx:U32 x):
    Calls Tryz.prog 104 #[.pointer (some ⟨rp,0,none⟩),.int .i64 k,.int .u32 x] w fun e w'=>e=.returned (.tuple #[])∧R8 rp cp hb po vm 43 108 113 w' (d.put k x) vs steps fr tw∧G8 rp 43 cp hb po vm w w':=by
  by_cases h32:k<32
  · by_cases hk0:k=0
    · subst hk0
      have e:d.put 0 x=d:=by unfold RunD.put Hart.setReg;simp
      rw[e]
      have H:=lI h
      clear h e
      go_enter Tryz.func104,Tryz.ntmps104
      go_wp2_with fail
      go_end0
      exact⟨rfl,H.out,G8.refl⟩
    · have c0:=h.at_.get (QT 0 om)
      have p0:=h.core.ptr
      have hc:=h.core.hart.get (qV h.wf.h k h32)
      have hf:=h.core.hfz (po+k)
      have e:d.put k x={d with h:={d.h with regs:=d.h.regs.set k x}}:=by unfold RunD.put Hart.setReg;rw[if_neg om,if_pos om];simp
      rw[e]
      have H1:=lI (uF h k om (.int .u32 x) {d.h with regs:=d.h.regs.set k x} (UO h.wf.h.len k h32 x)
        {h.wf.h with len:=by show(d.h.regs.set k x).length=32;rw[List.length_set];exact h.wf.h.len,regs:=fun y hy=>(List.mem_or_eq_of_mem_set hy).elim (h.wf.h.regs y) (fun e=>by rw[e];exact hx)})
      clear e
      have i0:¬(32:Int)≤(k:Int):=om
      have i1:(0:Int)<(k:Int):=om
      have i2:(0:Int)≤(k:Int):=om
      have i3:(k:Int)<32:=om
      simp only[sM]at hc c0
      clear h
      go_enter Tryz.func104,Tryz.ntmps104
      go_wp2_with fail
      go_end0
      exact⟨rfl,H1.out.1,H1.out.2⟩
  · obtain⟨j,rfl⟩:∃j,k=32+j:=⟨k-32,om⟩
    have hc:=h.at_.get (r8_temp h.wf.tlen (k:=j) om)
    have hf:=h.frz (6+j)
    have e:d.put (32+j) x={d with temps:=d.temps.set j x}:=by unfold RunD.put;rw[if_pos om];simp
    rw[e]
    have H1:=lI (h.setCell (d':={d with temps:=d.temps.set j x}) tyR (6+j) om (.int .u32 x) (r8_setTemp h.wf.tlen om x) rfl rfl rfl rfl
      {h.wf with tlen:=by show(d.temps.set j x).length=4;rw[List.length_set];exact h.wf.tlen,temps:=fun y hy=>(List.mem_or_eq_of_mem_set hy).elim (h.wf.temps y) (fun e=>by rw[e];exact hx)})
    have HG:Hid (G8 rp 43 cp hb po vm w (w.setCell ⟨rp,6+j,none⟩ (.int .u32 x))):=lI (G8.set h.lts _ _)
    clear e
    have i0:(32:Int)≤((32+j:Nat):Int):=om
    have i1:wrap64 (((32+j:Nat):Int)-32)=(j:Int):=yH
    simp only[sM]at hc
    obtain⟨q,hq⟩:∃q:Int,q=((32+j:Nat):Int):=⟨_,rfl⟩
    rw[←hq]at i0 i1 ⊢
    have i2:(j:Int)<4:=om
    have i3:(0:Int)≤(j:Int):=om
    clear hq h32 hk h
    go_enter Tryz.func104,Tryz.ntmps104
    go_wp2_with fail
    go_end0
    exact⟨rfl,H1.out,HG.out⟩
theorem trap8_any(h:R8 rp cp hb po vm 43 108 113 w d vs steps fr tw)(c:Int)(hc:QW c):
    Calls Tryz.prog 107 #[.pointer (some ⟨rp,0,none⟩),.int .i64 c] w fun e w'=>e=.returned (.bool false)∧R8 rp cp hb po vm 43 108 113 w' (d.trap c) vs steps fr tw∧G8 rp 43 cp hb po vm w w':=by
  have c0:=h.at_.get (QT 0 om)
  have p0:=h.core.ptr
  have c35:=h.core.hart.get (JR h.wf.h)
  have c36:=h.core.hart.get (hlist_cause h.wf.h)
  have c10:=h.at_.get (Jr h.wf.tlen 0)
  have f35:=h.core.hfz (po+35)
  have f36:=h.core.hfz (po+36)
  have hlt:=h.rlt
  have hne:hb≠rp:=by have:=h.lt;have:=h.core.hbl;omega
  simp only[sM]at c0 c35 c36 c10
  have H1:=uF h 35 om (.int .i64 2) {d.h with state:=2} (js h.wf.h.len 2) {h.wf.h with state:=(show -9223372036854775808≤(2:Int)∧(2:Int)≤9223372036854775807 by omega)}
  have H2:=uF H1.1 36 om (.int .i64 c) {d.h with state:=2,cause:=c} (uJ (h:={d.h with state:=2}) h.wf.h.len c) {h.wf.h with state:=(show -9223372036854775808≤(2:Int)∧(2:Int)≤9223372036854775807 by omega),cause:=hc}
  obtain⟨w2,hw2⟩:∃w2,w2=((w.setCell ⟨hb,po+35,none⟩ (.int .i64 2)).setCell ⟨hb,po+36,none⟩ (.int .i64 c)):=⟨_,rfl⟩
  rw[←hw2]at H2
  have HS:=lI (fun n=>Jg (H2.1.below (w':=w2.drewN n) (qC br _)) d.here h.wf.here)
  have HG:=lI (fun n=>(H1.2.trans H2.2).trans (G8.below (w':=w2.drewN n) (qC br _) H2.1.clt))
  have HC10:=lI (fun n=>(H2.1.below (w':=w2.drewN n) (qC br _)).at_.get (Jr h.wf.tlen 0))
  have HW2:=lI hw2
  clear h H1 H2 hw2
  go_enter Tryz.func107,Tryz.ntmps107
  go_upto_region 1 with(fail)
  go_region
  all_goals
    go_wp2_with fail
    rw[←HW2.out]
    refine(HS.out 1).mono ?_
    rintro e w3 ⟨rfl,h3,g3⟩
    go_wp2_with fail
    go_ret
    exact⟨rfl,h3,(HG.out 1).trans g3⟩
theorem at8_any(h:R8 rp cp hb po vm 43 108 113 w d vs steps fr tw)(n:Int)(hn:U32 n)(hds:0≤d.steps∧d.steps≤100000)(hst:QW steps)(hle:0≤steps-d.steps)(hov:d.over=false):
    Calls Tryz.prog 103 #[.pointer (some ⟨rp,0,none⟩),.int .u32 n] w fun e w'=>∃d',d'=(if(d.steps==steps||d.own)=true then d.stop n else {d with steps:=d.steps+1,here:=n})∧e=.returned (.bool (!d'.over))∧R8 rp cp hb po vm 43 108 113 w' d' vs steps fr tw∧G8 rp 43 cp hb po vm w w':=by
  have c3:=h.at_.get (QT 3 om)
  have c4:=h.at_.get (QT 4 om)
  have c11:=h.at_.get (Jr h.wf.tlen 1)
  have c10:=h.at_.get (Jr h.wf.tlen 0)
  have f3:=h.frz 3
  have f4:=h.frz 4
  have f10:=h.frz 10
  simp only[sM,Nat.reduceAdd]at c3 c4 c10 c11
  have HS:=lI (Jg h n hn)
  obtain⟨hst0,hst1⟩:=hst
  obtain⟨l,hl⟩:∃l,l=steps-d.steps:=⟨_,rfl⟩
  obtain⟨ds,hds'⟩:∃ds,ds=d.steps:=⟨_,rfl⟩
  rw[←hl]at c3
  rw[←hds']at c4
  by_cases h1:(d.steps==steps||d.own)=true
  · rw[if_pos h1]
    rw[Bool.or_eq_true]at h1
    by_cases h2:d.steps=steps
    · have e:l=0:=om
      rw[e]at c3
      clear h h1 h2 hl hds' e
      go_enter Tryz.func103,Tryz.ntmps103
      go_wp2_with fail
      refine HS.out.mono ?_
      rintro e w1 ⟨rfl,h9,g9⟩
      go_wp2_with fail
      go_ret
      exact⟨_,rfl,rfl,h9,g9⟩
    · have e:d.own=true:=h1.resolve_left (by simpa using h2)
      rw[e]at c11
      have e0:(l==0)=false:=zB
      have e1:decide (l=0)=false:=zB
      clear h h1 h2 hl hds' e
      go_enter Tryz.func103,Tryz.ntmps103
      go_wp2_with fail
      refine HS.out.mono ?_
      rintro e w1 ⟨rfl,h9,g9⟩
      go_wp2_with fail
      go_ret
      exact⟨_,rfl,rfl,h9,g9⟩
  · rw[if_neg h1]
    have h1':=h1
    simp only[Bool.or_eq_true,not_or]at h1'
    have h2:d.steps≠steps:=by simpa using h1'.1
    have h3:d.own=false:=by simpa using h1'.2
    rw[h3]at c11
    have e0:(l==0)=false:=zB
    have e1:decide (l=0)=false:=zB
    have e2:wrap64 (l-1)=l-1:=yH
    have e3:wrap64 (ds+1)=ds+1:=yH
    have W1:(QN d cp vs steps).set 3 (.int .i64 (l-1))=QN {d with steps:=d.steps} cp vs (steps-1):=by
      unfold QN
      rw[List.set_append_left _ _ zG]
      have:l-1=steps-1-d.steps:=om
      rw[this]
      rfl
    have H1:R8 rp cp hb po vm 43 108 113 (w.setCell ⟨rp,3,none⟩ (.int .i64 (l-1))) d vs (steps-1) fr tw:=h.setCell2 tyR 3 om _ W1 rfl rfl rfl rfl h.wf
    have W2:(QN d cp vs (steps-1)).set 4 (.int .i64 (ds+1))=QN {d with steps:=d.steps+1} cp vs steps:=by
      unfold QN
      rw[List.set_append_left _ _ zG]
      have:steps-1-d.steps=steps-(d.steps+1):=om
      rw[this,hds']
      rfl
    have H2:R8 rp cp hb po vm 43 108 113 ((w.setCell ⟨rp,3,none⟩ (.int .i64 (l-1))).setCell ⟨rp,4,none⟩ (.int .i64 (ds+1))) {d with steps:=d.steps+1} vs steps fr tw:=H1.setCell2 tyR 4 om _ W2 rfl rfl rfl rfl {h.wf with steps:=(show -9223372036854775808≤d.steps+1∧d.steps+1≤9223372036854775807 by omega)}
    have H3:=lI (H2.setCell (d':={d with steps:=d.steps+1,here:=n}) tyR 10 om (.int .u32 n) (r8_setEnd (d:={d with steps:=d.steps+1}) (j:=0) h.wf.tlen rfl rfl rfl rfl rfl) rfl rfl rfl rfl {H2.wf with here:=hn})
    have HG:Hid (G8 rp 43 cp hb po vm w (((w.setCell ⟨rp,3,none⟩ (.int .i64 (l-1))).setCell ⟨rp,4,none⟩ (.int .i64 (ds+1))).setCell ⟨rp,10,none⟩ (.int .u32 n))):=lI (((G8.set h.lts _ _).trans (G8.set h.lts _ _)).trans (G8.set h.lts _ _))
    obtain⟨d',hd'⟩:∃d':RunD,d'={d with steps:=d.steps+1,here:=n}:=⟨_,rfl⟩
    have hdo:d'.over=false:=by rw[hd'];exact hov
    rw[←hd']at H3 ⊢
    clear h h1 h1' h2 h3 hl hds' W1 W2 H1 H2 hd'
    go_enter Tryz.func103,Tryz.ntmps103
    go_wp2_with fail
    go_ret
    refine⟨_,rfl, ?_,H3.out,HG.out⟩
    rw[hdo]
    rfl
end
end Go.Proofs.YtlfnddmncbkjaacGreat.W
