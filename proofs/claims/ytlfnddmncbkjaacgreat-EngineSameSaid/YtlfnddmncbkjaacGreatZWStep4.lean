import Derived.Test.YtlfnddmncbkjaacGreatZWStep4g0
import Derived.Test.YtlfnddmncbkjaacGreatZWStep4gn
import Derived.Test.YtlfnddmncbkjaacGreatZWStep4hA
import Derived.Test.YtlfnddmncbkjaacGreatZWStep4hB
import Derived.Test.YtlfnddmncbkjaacGreatZWStep4hC
set_option linter.unusedVariables false
set_option linter.unusedSimpArgs false
set_option maxRecDepth 100000
set_option maxHeartbeats 4000000
namespace Go.Proofs.YtlfnddmncbkjaacGreat.W
open Go.RowKit Fb
theorem step4_any(h:Hart)(wf:h.Wf)(v:Value)(l:List Int)(w:World)(hv:Ints .u8 w v l)(hb:QP l)(hl:l.length≤4096):
    Calls Tryz.prog 18 #[.agg (qL h),v] w fun e w'=>∃d',e=.returned (.agg (qA d'))∧qd w' d' (goS (⟨h,l,[],0,0⟩:qD))∧(d'.vm=v∨∀q,d'.vm.ownBlock=some q→w.heap.size≤q)∧(∀q,d'.vo.ownBlock=some q→w.heap.size≤q)∧Below w.heap.size w w':=by
  cases hok:qN l 13 h.pc with
  | false =>
    have e:goS (⟨h,l,[],0,0⟩:qD)=(⟨h,l,[],0,0⟩:qD).trap 1:=by
      unfold goS qm;rw[hok];rfl
    rw[e]
    exact step4_nofetch h wf v l w hv hb hl hok
  | true =>
    cases hdec:dec (qa l 13 h.pc)with
    | none =>
      have e:goS (⟨h,l,[],0,0⟩:qD)=(⟨h,l,[],0,0⟩:qD).trap 2:=by
        unfold goS qm;rw[hok];simp only[if_true,hdec];rfl
      rw[e]
      exact step4_nodec h wf v l w hv hb hl hok hdec
    | some i =>
      have e:goS (⟨h,l,[],0,0⟩:qD)=doS i (⟨h,l,[],0,0⟩:qD):=by
        unfold goS qm;rw[hok];simp only[if_true,hdec];rfl
      rw[e]
      obtain⟨his,hi⟩:=dec_is _ _ hdec
      obtain⟨b1,b2,b3,b4⟩:=isS_regs his
      obtain⟨op,rd,rs1,rs2,imm⟩:=i
      simp only at b1 b2 b3 b4 hi
      obtain⟨kd,rfl⟩:=sS b2.1
      obtain⟨k1,rfl⟩:=sS b3.1
      obtain⟨k2,rfl⟩:=sS b4.1
      have hk:kd<32:=om
      have h1:k1<32:=om
      have h2:k2<32:=om
      have hi': -2147483648≤imm∧imm≤2147483647:=by unfold I32 at hi;omega
      clear b2 b3 b4 his e hi
      by_cases e1:op=1
      · subst e1;exact step4_lui h wf v l w hv hb hl hok kd k1 k2 imm hk h1 h2 hi' hdec
      by_cases e2:op=2
      · subst e2;exact step4_auipc h wf v l w hv hb hl hok kd k1 k2 imm hk h1 h2 hi' hdec
      by_cases e3:op=3
      · subst e3;exact step4_jal h wf v l w hv hb hl hok kd k1 k2 imm hk h1 h2 hi' hdec
      by_cases e4:op=4
      · subst e4;exact step4_jalr h wf v l w hv hb hl hok kd k1 k2 imm hk h1 h2 hi' hdec
      by_cases e5:op≤10
      · cases hq:holds op (h.reg k1) (h.reg k2)with
        |true=>exact step4_branch_true h wf v l w hv hb hl hok op kd k1 k2 imm om hk h1 h2 hi' hdec hq
        |false=>exact step4_branch_false h wf v l w hv hb hl hok op kd k1 k2 imm om hk h1 h2 hi' hdec hq
      by_cases e6:op≤15
      · cases hq:qN l op ((h.reg k1+imm%4294967296)%4294967296)with
        |true=>exact step4_load_yes h wf v l w hv hb hl hok op kd k1 k2 imm om hk h1 h2 hi' hdec hq
        |false=>exact step4_load_no h wf v l w hv hb hl hok op kd k1 k2 imm om hk h1 h2 hi' hdec hq
      by_cases e7:op≤18
      · cases hq:qU l op ((h.reg k1+imm%4294967296)%4294967296)with
        |true=>exact step4_store_yes h wf v l w hv hb hl hok op kd k1 k2 imm om hk h1 h2 hi' hdec hq
        |false=>exact step4_store_no h wf v l w hv hb hl hok op kd k1 k2 imm om hk h1 h2 hi' hdec hq
      by_cases e8:op≤27
      · exact step4_alun h wf v l w hv hb hl hok op kd k1 k2 imm om hk h1 h2 hi' hdec
      by_cases e9:op≤45
      · exact step4_alu h wf v l w hv hb hl hok op kd k1 k2 imm om hk h1 h2 hi' hdec
      by_cases e10:op≤56
      · cases hq:(qY (⟨h,l,[],0,0⟩:qD) op (h.reg k1) (h.reg k2)).2.2 with
        |true=>exact step4_atom_yes h wf v l w hv hb hl hok op kd k1 k2 imm om hk h1 h2 hi' hdec hq
        |false=>exact step4_atom_no h wf v l w hv hb hl hok op kd k1 k2 imm om hk h1 h2 hi' hdec hq
      by_cases e11:op=57
      · subst e11;exact step4_fence h wf v l w hv hb hl hok kd k1 k2 imm hk h1 h2 hi' hdec
      by_cases e12:op=58
      · subst e12
        by_cases hq0:h.reg 17=0
        · exact step4_ecall0 h wf v l w hv hb hl hok kd k1 k2 imm hk h1 h2 hi' hdec hq0
        by_cases hq1:h.reg 17=1
        · exact step4_ecall1 h wf v l w hv hb hl hok kd k1 k2 imm hk h1 h2 hi' hdec hq1
        · exact step4_ecall2 h wf v l w hv hb hl hok kd k1 k2 imm hk h1 h2 hi' hdec ⟨hq0,hq1⟩
      · have e13:op=59:=om
        subst e13;exact step4_break h wf v l w hv hb hl hok kd k1 k2 imm hk h1 h2 hi' hdec
end Go.Proofs.YtlfnddmncbkjaacGreat.W
