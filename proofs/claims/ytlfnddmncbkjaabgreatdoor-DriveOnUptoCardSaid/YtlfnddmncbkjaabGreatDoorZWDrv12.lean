import Derived.Test.YtlfnddmncbkjaabGreatDoorZGN
set_option linter.unusedVariables false
set_option linter.unusedSimpArgs false
set_option maxRecDepth 100000
set_option maxHeartbeats 4000000
namespace Go.Proofs.YtlfnddmncbkjaabGreatDoor.W
open Go.RowKit Fb Go.Lib
theorem bytes_getD{l:List Int}(h:jE l)(i:Nat):0≤l.getD i 0∧l.getD i 0<256:=by
  by_cases hi:i<l.length
  · rw[List.getD_eq_getElem?_getD,sU hi]
    have:=h _ (sR hi)
    exact⟨this.1,by have:=this.2;show l[i]<256;omega⟩
  · rw[List.getD_eq_getElem?_getD,List.getElem?_eq_none om]
    decide
theorem ptext_any{pb:Nat}{vm vh vp vd:Value}{us:List UndD}{w:World}{p:PlD}(hp:PAt pb vm vh vp vd us w p)(x:Int)(hx:U32 x)(HE:Hid (Env pb w)):
    Calls Tryz.prog 17 #[.pointer (some ⟨pb,0,none⟩),.int .u32 x] w fun e w'=>e=.returned (.string (bs (showS p x)))∧Below w.heap.size w w':=by
  obtain⟨am,cm,rfl⟩:=qE hp.om
  have c0:=hp.at_.get (j:=0) rfl
  simp only[sM]at c0
  have hlt:=hp.lt
  have hml:=hp.lim.1
  have HF:=lI (fetch_any (.slice am p.m.mem.length cm) p.m.mem x w (qn hp.om) hx (bytes_getD hp.wf.mem))
  have HI:=lI (fetchS_ins p.m.mem x)
  obtain⟨S,hS⟩:∃S,S=showS p x:=⟨_,rfl⟩
  rw[←hS]
  unfold showS at hS
  obtain⟨⟨i,c⟩,hic⟩:∃y,y=qe p.m.mem x:=⟨_,rfl⟩
  rw[←hic]at HF HI hS
  clear hp hic
  obtain⟨op,rd,rs1,rs2,imm⟩:=i
  simp only[qx]at HF
  by_cases h0:c=0
  · subst h0
    have hi:=HI.out rfl
    rw[if_pos ⟨rfl,hml⟩,if_pos hi.1]at hS
    have HS:=lI hS
    obtain⟨ht,hw⟩:=hi
    have HPR:Hid (∀W,Below w.heap.size w W→Calls Tryz.prog 35 #[.agg #[.int .i64 op,.int .i64 rd,.int .i64 rs1,.int .i64 rs2,.int .i32 imm]] W fun e w'=>e=.returned (.tuple #[.string (bs S),.int .i64 0])∧Below W.heap.size W w'):=lI (fun W hW=>by
      have hE:=(HE.out.keep (hW.mono (Nat.le_of_lt hlt))).up (C:=W.heap.size) (by have:=hW.size;omega)
      have:=print_any ⟨op,rd,rs1,rs2,imm⟩ hw W (lI hE.t) (lI hE.s)
      rw[if_pos ht,if_pos ht]at this
      rw[hS]
      exact this)
    clear hS HI ht hw
    go_enter Tryz.func17,Tryz.ntmps17
    go_wp2_with fail
    refine HF.out.mono ?_
    rintro e w0 ⟨rfl,hb⟩
    have HB:=lI hb
    have c0':=(hb.cell (p:=⟨pb,0,none⟩) hlt).trans c0
    obtain⟨w1,hw1⟩:∃w1,w1=w0.alloc (.cells #[.int .i64 op,.int .i64 rd,.int .i64 rs1,.int .i64 rs2,.int .i32 imm] 91):=⟨_,rfl⟩
    have hb1:Below w0.heap.size w0 w1:=zG
    have g0:(w1).cell? ⟨w0.heap.size,0,none⟩=some (.int .i64 op):=zA
    have g1:(w1).cell? ⟨w0.heap.size,1,none⟩=some (.int .i64 rd):=zA
    have g2:(w1).cell? ⟨w0.heap.size,2,none⟩=some (.int .i64 rs1):=zA
    have g3:(w1).cell? ⟨w0.heap.size,3,none⟩=some (.int .i64 rs2):=zA
    have g4:(w1).cell? ⟨w0.heap.size,4,none⟩=some (.int .i32 imm):=zA
    have c1:=(hb1.cell (p:=⟨pb,0,none⟩) (by have:=hb.size;show pb<_;omega)).trans c0'
    have HB1:=lI (hb.trans (hb1.mono hb.size))
    have HP1:=lI (HPR.out w1 HB1.out)
    have HW1:=lI hw1
    clear c0 c0' hw1 hb1 hb HF HPR
    go_upto_region 2 with(fail)
    rw[←HW1.out]
    go_wp2_with fail
    refine HP1.out.mono ?_
    rintro e w2 ⟨rfl,hb2⟩
    have HB2:=lI hb2
    clear hb2 g0 g1 g2 g3 g4 c1 HP1
    go_wp2_with fail
    go_ret
    exact⟨rfl,HB1.out.trans (HB2.out.mono HB1.out.size)⟩
  · rw[if_neg (fun h=>h0 h.1)]at hS
    have HS:=lI hS
    have hcn:(c !=0)=true:=by simpa using h0
    clear hS HI
    go_enter Tryz.func17,Tryz.ntmps17
    go_wp2_with fail
    refine HF.out.mono ?_
    rintro e w0 ⟨rfl,hb⟩
    have HB:=lI hb
    clear hb
    go_wp2_with fail
    go_ret
    rw[HS.out]
    exact⟨rfl,HB.out.alloc HB.out.size _⟩
end Go.Proofs.YtlfnddmncbkjaabGreatDoor.W
