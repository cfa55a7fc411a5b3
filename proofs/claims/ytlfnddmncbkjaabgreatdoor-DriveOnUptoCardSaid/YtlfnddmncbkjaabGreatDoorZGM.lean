import Derived.Test.YtlfnddmncbkjaabGreatDoorZWDo
set_option linter.unusedVariables false
set_option linter.unusedSimpArgs false
set_option maxRecDepth 100000
set_option maxHeartbeats 4000000
namespace Go.Proofs.YtlfnddmncbkjaabGreatDoor.W
open Go.RowKit Fb
theorem fetch_any(v:Value)(l:List Int)(pc:Int)(w:World)(hv:Ints .u8 w v l)(hpc:U32 pc)(hb:∀i,0≤l.getD i 0∧l.getD i 0<256):
    Calls Tryz.prog 34 #[v,.int .u32 pc] w fun e w'=>e=.returned (.tuple #[.agg (qr (qc l pc).1),.int .i64 (qc l pc).2])∧Below w.heap.size w w':=by
  have HL:=lI (fun W h=>load_any v l 13 pc W h hpc hb)
  have HV:=lI hv
  have HU:Hid (U32 (QB l 13 pc)):=lI (mLoad_u13 l pc hpc hb)
  have hF:qc l pc=if qY l 13 pc=true then(match dec (QB l 13 pc)with|some i=>(i,(0:Int))|none=>(i0,2))else(i0,1):=rfl
  obtain⟨fr,hfr⟩:∃r,r=qc l pc:=⟨_,rfl⟩
  rw[←hfr]at hF ⊢
  have HF:=lI hF
  clear hv hF hfr hpc
  go_enter Tryz.func34,Tryz.ntmps34
  go_wp2_with fail
  refine(HL.out _ (HV.out.below (Below.alloc br (sN _) _))).mono ?_
  rintro e w1 ⟨rfl,rfl⟩
  clear HL HV
  generalize QB l 13 pc=x at *
  cases ho:qY l 13 pc with
  | false =>
    rw[ho]at HF
    have HF2:Hid (fr=(i0,1)):=HF
    clear ho HF
    go_wp2_with fail
    exact sO (v:=.tuple #[.agg #[.int .i64 0,.int .i64 0,.int .i64 0,.int .i64 0,.int .i32 0],.int .i64 1]) (by simp[results,Tryz.results34,go_sem]) rfl ⟨by rw[HF2.out];rfl,Fb.blw⟩
  | true =>
    rw[ho]at HF
    have HF2:Hid (fr=(match dec x with|some i=>(i,(0:Int))|none=>(i0,2))):=HF
    clear ho HF
    go_wp2_with fail
    refine(decode_any x _ HU.out).mono ?_
    rintro e w2 ⟨rfl,hb2⟩
    have hblk:=(hb2.block w.heap.size zC).trans (sP w (.cells #[.int .i64 0,.int .i64 0,.int .i64 0,.int .i64 0,.int .i32 0] 91))
    have hlt2:w.heap.size<w2.heap.size:=by have:=hb2.size;simp at this;omega
    have hb3:Below w.heap.size w w2:=Below.trans (Below.alloc br (sN _) _) (hb2.mono zC)
    have HFI:Hid (fr=((dec x).getD i0,if(dec x).isSome=true then 0 else 2)):=lI (by rw[HF2.out];cases dec x<;>rfl)
    have HFN:Hid ((dec x).isSome=false→fr=(i0,2)):=lI (by intro h;rw[HF2.out];cases hd:dec x with|none=>rfl|some y=>rw[hd]at h;cases h)
    clear HF2 hb2
    generalize (dec x).isSome=ok at *
    generalize (dec x).getD i0=j at *
    obtain⟨q1,q2,q3,q4,q5⟩:=j
    simp only[qr]
    obtain⟨w3,hw3⟩:∃w3,w3=w2.alloc (.cells #[.int .i64 q1,.int .i64 q2,.int .i64 q3,.int .i64 q4,.int .i32 q5] 91):=⟨_,rfl⟩
    have hblk3:w3.heap[w.heap.size]? =some (.cells #[.int .i64 0,.int .i64 0,.int .i64 0,.int .i64 0,.int .i32 0] 91 (0,0)):=by rw[hw3];exact(heap_alloc_old w2 _ hlt2).trans hblk
    have k0:w3.cell? ⟨w.heap.size,0,none⟩=some (.int .i64 0):=qM hblk3 rfl
    have k1:w3.cell? ⟨w.heap.size,1,none⟩=some (.int .i64 0):=qM hblk3 rfl
    have k2:w3.cell? ⟨w.heap.size,2,none⟩=some (.int .i64 0):=qM hblk3 rfl
    have k3:w3.cell? ⟨w.heap.size,3,none⟩=some (.int .i64 0):=qM hblk3 rfl
    have k4:w3.cell? ⟨w.heap.size,4,none⟩=some (.int .i32 0):=qM hblk3 rfl
    have kf:=JI hblk3
    have r0:w3.cell? ⟨w2.heap.size,0,none⟩=some (.int .i64 q1):=yO
    have r1:w3.cell? ⟨w2.heap.size,1,none⟩=some (.int .i64 q2):=yO
    have r2:w3.cell? ⟨w2.heap.size,2,none⟩=some (.int .i64 q3):=yO
    have r3:w3.cell? ⟨w2.heap.size,3,none⟩=some (.int .i64 q4):=yO
    have r4:w3.cell? ⟨w2.heap.size,4,none⟩=some (.int .i32 q5):=yO
    have hb4:Below w.heap.size w w3:=by rw[hw3];exact hb3.trans (Below.alloc br (Nat.le_of_lt hlt2) _)
    have HW3:=lI hw3
    clear hw3 hblk hblk3 hlt2 hb3
    go_upto_region 5 with(fail)
    rw[←HW3.out]
    cases ok with
    | true =>
      go_wp2_with fail
      exact sO (v:=.tuple #[.agg #[.int .i64 q1,.int .i64 q2,.int .i64 q3,.int .i64 q4,.int .i32 q5],.int .i64 0]) (by simp[results,Tryz.results34,go_sem,k0,k1,k2,k3,k4]) rfl ⟨by rw[HFI.out];rfl,hb4.trans Fb.blw⟩
    | false =>
      have HFJ:Hid (fr=(i0,2)):=lI (HFN.out rfl)
      go_wp2_with fail
      exact sO (v:=.tuple #[.agg #[.int .i64 0,.int .i64 0,.int .i64 0,.int .i64 0,.int .i32 0],.int .i64 2]) (by simp[results,Tryz.results34,go_sem,k0,k1,k2,k3,k4]) rfl ⟨by rw[HFJ.out];rfl,hb4.trans Fb.blw⟩
theorem ends_any(op:Int)(w:World):Calls Tryz.prog 38 #[.int .i64 op] w fun e w'=>e=.returned (.bool (lastB op))∧w=w':=by
  go_enter Tryz.func38,Tryz.ntmps38
  go_wp2
  all_goals go_ret
  all_goals refine⟨Qe ?_,rfl⟩
  all_goals(try simp only[beq_iff_eq,sH,ne_eq,decide_eq_true_eq,decide_eq_false_iff_not]at *)
  all_goals(rw[Bool.eq_iff_iff];simp[lastB];omega)
end Go.Proofs.YtlfnddmncbkjaabGreatDoor.W
namespace Go.Proofs.YtlfnddmncbkjaabGreatDoor.Fb
theorem fetchS_ins(l:List Int)(pc:Int)(h:(qc l pc).2=0):isS (qc l pc).1=true∧I32 (qc l pc).1.imm:=by
  unfold qc at h ⊢
  split
  · rename_i hok
    rw[if_pos hok]at h
    cases hd:dec (QB l 13 pc)with
    |none=>rw[hd]at h;simp at h
    |some i=>exact dec_is _ _ hd
  · rename_i hok
    rw[if_neg hok]at h
    simp at h
theorem isS_b{i:InsD}(h:isS i=true):(1≤i.op∧i.op≤59)∧(0≤i.rd∧i.rd≤31)∧(0≤i.rs1∧i.rs1≤31)∧(0≤i.rs2∧i.rs2≤31):=by
  have h2:=isS_known h
  unfold qy regsOk at h2
  simp only[Bool.and_eq_true,decide_eq_true_eq]at h2
  omega
end Go.Proofs.YtlfnddmncbkjaabGreatDoor.Fb
namespace Go.Proofs.YtlfnddmncbkjaabGreatDoor.W
open Go.RowKit Fb
section
variable {cp hb ho : Nat} {vm : Value} {d : qF} {w : World}
theorem ct{p:Prop}(h:p:=by
 (repeat(first|with_reducible exact Below.refl _ _|with_reducible exact hK|with_reducible refine qB ?_ _|with_reducible refine Below.drew ?_|((with_reducible refine Below.setCell ?_ ?hq _);(case hq=>(first|(simp;done)|(simp;omega))))|((with_reducible refine Below.alloc ?_ ?hq _);(case hq=>(first|(simp;done)|(simp;omega)|exact hK.size)))))):p:=h
theorem go_any(h:qX cp hb ho vm 40 w d)(wf:d.Wf)(hlen:d.out.length<1099511627776):
    Calls Tryz.prog 52 #[.pointer (some ⟨cp,0,none⟩)] w fun e w'=>e=.returned (.tuple #[])∧qX cp hb ho vm 40 w' (goS d)∧Cgo cp hb ho vm 40 w w':=by
  have hne:=h.hbl
  have hfr:=h.fr
  have htw:=h.tw
  have f3:=h.frz 3
  have f4:=h.frz 4
  have H1:Hid (qX cp hb ho vm 40 ((w.setCell ⟨cp,3,none⟩ (.int .u32 0)).setCell ⟨cp,4,none⟩ (.int .u32 0)) d.none):=lI ((h.setFr 0).setTo 0)
  have G1:Hid (Cgo cp hb ho vm 40 w ((w.setCell ⟨cp,3,none⟩ (.int .u32 0)).setCell ⟨cp,4,none⟩ (.int .u32 0))):=lI ((Cgo.setCore w hne 3 _).trans (Cgo.setCore _ hne 4 _))
  have wf0:=wf.none
  have hgo:goS d=if(qc d.m d.h.pc).2=0 then doS (qc d.m d.h.pc).1 d.none else d.none.trap (qc d.m d.h.pc).2:=rfl
  rw[hgo]
  have HI:=lI (fetchS_ins d.m d.h.pc)
  have HFE:=lI (fun W hW=>fetch_any vm d.m d.h.pc W hW wf.h.pc wf.m.getD)
  clear hgo h
  generalize (qc d.m d.h.pc).2=code at *
  generalize (qc d.m d.h.pc).1=ii at *
  obtain⟨dd,hdd⟩:∃x,x=(if code=0 then doS ii d.none else d.none.trap code):=⟨_,rfl⟩
  rw[←hdd]
  have HD:=lI hdd
  clear hdd
  go_enter Tryz.func52,Tryz.ntmps52
  go_upto_region 1 with(fail)
  clear hfr htw f3 f4
  generalize (w.setCell ⟨cp,3,none⟩ (.int .u32 0)).setCell ⟨cp,4,none⟩ (.int .u32 0)=w1 at *
  have hp:=H1.out.ptr
  have hm:=H1.out.mem
  have hc32:w1.cell? ⟨hb,ho+32,none⟩=some (.int .u32 d.h.pc):=H1.out.hart.get (QM wf.h)
  have l1:=H1.out.lt
  have l2:=H1.out.hlt
  obtain⟨q1,q2,q3,q4,q5⟩:=ii
  simp only[qr]at HFE
  have KP:Hid (∀w',Below w1.heap.size w1 w'→Below w1.heap.size w1 w'∧w'.cell? ⟨cp,0,none⟩=some (.pointer (some ⟨hb,ho,none⟩))∧w'.cell? ⟨cp,1,none⟩=some vm∧w'.cell? ⟨hb,ho+32,none⟩=some (.int .u32 d.h.pc)):=
    lI (fun w' h=>⟨h,(h.cell (p:=⟨cp,0,none⟩) l1).trans hp,(h.cell (p:=⟨cp,1,none⟩) l1).trans hm,(h.cell (p:=⟨hb,ho+32,none⟩) l2).trans hc32⟩)
  go_region_held3 (fun w'=>Below w1.heap.size w1 w'∧w'.cell? ⟨cp,0,none⟩=some (.pointer (some ⟨hb,ho,none⟩))∧w'.cell? ⟨cp,1,none⟩=some vm∧w'.cell? ⟨hb,ho+32,none⟩=some (.int .u32 d.h.pc))
    ((refine KP.out _ ?_;(repeat(first|with_reducible exact Below.refl _ _|with_reducible exact hK|with_reducible refine qB ?_ _|with_reducible refine Below.drew ?_|((with_reducible refine Below.setCell ?_ ?hq _);(case hq=>(first|(simp;done)|(simp;omega))))|((with_reducible refine Below.alloc ?_ ?hq _);(case hq=>(first|(simp;done)|(simp;omega)|exact hK.size)))))))
    ((go_at_call 34;refine(HFE.out _ (H1.out.bytes.below ?hB)).mono ?_;(case hB=>(repeat(first|with_reducible exact Below.refl _ _|with_reducible exact hK|with_reducible refine qB ?_ _|with_reducible refine Below.drew ?_|((with_reducible refine Below.setCell ?_ ?hq _);(case hq=>(first|(simp;done)|(simp;omega))))|((with_reducible refine Below.alloc ?_ ?hq _);(case hq=>(first|(simp;done)|(simp;omega)|exact hK.size))))));rintro e w2 ⟨rfl,hb2⟩;have hK:Below w1.heap.size w1 w2:=(Below.trans (by(repeat(first|with_reducible exact Below.refl _ _|with_reducible exact hK|with_reducible refine qB ?_ _|with_reducible refine Below.drew ?_|((with_reducible refine Below.setCell ?_ ?hq _);(case hq=>(first|(simp;done)|(simp;omega))))|((with_reducible refine Below.alloc ?_ ?hq _);(case hq=>(first|(simp;done)|(simp;omega)|exact hK.size)))))) (hb2.mono (by first|(simp;done)|(simp;omega))));(try have hx:w2.heap[w1.heap.size]? =some (.cells #[.int .i64 0,.int .i64 0,.int .i64 0,.int .i64 0,.int .i32 0] 91 (0,0)):=(hb2.block w1.heap.size zC).trans (sP w1 _));(try have x0:w2.cell? ⟨w1.heap.size,0,none⟩=some (.int .i64 0):=qM hx rfl);(try have x1:w2.cell? ⟨w1.heap.size,1,none⟩=some (.int .i64 0):=qM hx rfl);(try have x2:w2.cell? ⟨w1.heap.size,2,none⟩=some (.int .i64 0):=qM hx rfl);(try have x3:w2.cell? ⟨w1.heap.size,3,none⟩=some (.int .i64 0):=qM hx rfl);(try have x4:w2.cell? ⟨w1.heap.size,4,none⟩=some (.int .i32 0):=qM hx rfl);(try have xf:=JI hx)))
  all_goals
    by_cases hcode:code=0
    · obtain⟨hs,hi32⟩:=HI.out hcode
      obtain⟨s1,s2,s3,s4⟩:=isS_b hs
      subst hcode
      clear HI hs
      go_wp2_with fail
      refine(do_any (H1.out.below ?hKK) wf0 hlen ⟨q1,q2,q3,q4,q5⟩ s1 s2 s3 s4 hi32).mono ?_
      case hKK=>(repeat(first|with_reducible exact Below.refl _ _|with_reducible exact hK|with_reducible refine qB ?_ _|with_reducible refine Below.drew ?_|((with_reducible refine Below.setCell ?_ ?hq _);(case hq=>(first|(simp;done)|(simp;omega))))|((with_reducible refine Below.alloc ?_ ?hq _);(case hq=>(first|(simp;done)|(simp;omega)|exact hK.size)))))
      rintro e w3 ⟨rfl,hc,hg⟩
      go_wp2_with fail
      go_end0
      refine⟨rfl,by rw[HD.out];first|(rw[if_pos rfl];exact hc)|(rw[if_pos trivial];exact hc),(G1.out.trans (Cgo.of_below ?_ l2)).trans hg⟩
      exact ct
    · go_wp2_with fail
      refine(Jj (H1.out.below ?hKK) wf0.h code).mono ?_
      case hKK=>(repeat(first|with_reducible exact Below.refl _ _|with_reducible exact hK|with_reducible refine qB ?_ _|with_reducible refine Below.drew ?_|((with_reducible refine Below.setCell ?_ ?hq _);(case hq=>(first|(simp;done)|(simp;omega))))|((with_reducible refine Below.alloc ?_ ?hq _);(case hq=>(first|(simp;done)|(simp;omega)|exact hK.size)))))
      rintro e w3 ⟨rfl,hc,hg⟩
      go_wp2_with fail
      refine sO (results_none zK _ _ _) rfl ⟨rfl,by rw[HD.out,if_neg hcode];exact hc,(G1.out.trans (Cgo.of_below ?_ l2)).trans hg⟩
      exact ct
end
theorem info_harts:(Tryz.prog.info? 43).map (fun i=>(i.zero,i.size,i.bytes))=some (some (.agg (qQ qz)),37,160):=by kernel_rfl
theorem clone_harts(v:Value)(n:Nat)(xs:List Value)(w:World)(hv:Sl w v 37 n xs)(h1c:∀u∈xs,u.oneCell'=true)(hr:n*160≤140737488355328):
    Calls Tryz.prog 50 #[v] w fun e w'=>(∃v',e=.returned v'∧w'.ownsRow w.heap.size 43 37 v' n xs∧(v'=.slice none 0 0→v=.slice none 0 0))∧Below w.heap.size w w':=by
  obtain⟨hlen,ao,cap,rfl,hnc,hcm,hnone,hat⟩:=hv
  have heq:=fun(W:World) (m c:Nat)=>Lib.run_eql_slice_nil (P:=Tryz.prog) W 28 43 ao m c 0 0 Tryz.underlying28
  unfold maxLen at hcm
  cases ao with
  | none =>
    obtain rfl:cap=0:=hnone rfl
    obtain rfl:n=0:=om
    obtain rfl:xs=[]:=List.eq_nil_of_length_eq_zero (by simpa using hlen)
    clear hnone hat
    go_enter Tryz.func50,Tryz.ntmps50
    go_wp2
    go_ret
    exact⟨⟨_,rfl,World.ownsRow_nil _ _ _ _,by simp⟩,Below.refl _ _⟩
  | some a =>
    obtain⟨i0,hi,hz0,hz1,hz2⟩:=info_parts info_harts
    clear hnone
    have HAT:=lI hat
    have HL:=lI hlen
    have HC:=lI h1c
    clear hat hlen h1c
    go_enter Tryz.func50,Tryz.ntmps50
    go_wp2_with (at_builtin;refine wpList_append_own _ rfl _ _ 28 rfl w.heap.size 43 i0 (.agg (qQ qz)) 37 160 Tryz.underlying28 hi hz0 hz1 hz2 rfl zF _ 0 [] rfl ?_ a n cap xs rfl HL.out ?_ HC.out ?_ ?_ ?_ ?_)
    rotate_right
    · intro v' w1 hown hgrow hnil
      go_wp2
      go_ret
      refine⟨⟨_,rfl, ?_, ?_⟩, ?_⟩
      · simpa using hown
      · intro h
        exact(hnil h).elim
      · exact(Below.alloc br (sN _) _).grown hgrow zC (by intro k hk;simp[Value.ownBlock]at hk;omega)
    all_goals(first|(unfold maxLen;omega)|omega|(simp;done)|skip)
    · exact uP _ _ _ _ (sN _)
    · intro j u hu
      have hj:j<xs.length:=(List.getElem?_eq_some_iff.1 hu).1
      have hne:xs≠[]:=yZ
      have h3:=(HAT.out a rfl hne)
      have h4:=h3.2 j hj
      have hu2:u=xs[j]:=by rw[sU hj]at hu;exact(Option.some.inj hu).symm
      rw[hu2,JY a h3.1,sI _ _ _ (qD h4)]
      exact h4
theorem begin_own(vm0 vh0:Value)(m:Mach)(wf:m.Wf)(w:World)(hm:jw w vm0 vh0 m)(h1:1≤m.harts.length)(h4:m.harts.length≤4)(hl:m.mem.length≤4096):
    Calls Tryz.prog 29 #[.agg #[vm0,vh0]] w fun e w'=>(∃bp bh hc vm,e=.returned (.pointer (some ⟨bp,0,none⟩))∧Bd bp bh hc vm (.slice none 0 0) 40 w' (qN m)∧w.heap.size≤bh∧(∀k,vm.ownBlock=some k→w.heap.size≤k)∧w'.ownsRow w.heap.size 5 1 vm m.mem.length (m.mem.map (Value.int .u8))∧w'.ownsRow w.heap.size 43 37 (.slice (some ⟨bh,0,none⟩) m.harts.length hc) m.harts.length (m.harts.flatMap qJ))∧Below w.heap.size w w':=by
  have HM:=lI hm
  obtain⟨aom,capm,rfl,hcm,hmm,_,_⟩:=hm.1.open
  obtain⟨aoh,caph,rfl,hch,hmh,_,_⟩:=hm.2.open (fun h hh=>qG (wf.harts h hh)) om
  have HC1:=lI (fun W hW=>clone_bytes (.slice aom m.mem.length capm) m.mem.length (m.mem.map (Value.int .u8)) W hW xA om)
  have HC2:=lI (fun W hW=>clone_harts (.slice aoh m.harts.length caph) m.harts.length (m.harts.flatMap qJ) W hW (by intro u hu;obtain⟨h,_,hu⟩:=List.mem_flatMap.1 hu;exact jY h u xO) om)
  obtain⟨w1,hw1⟩:∃w1,w1=w.alloc (.cells #[.slice aom m.mem.length capm,.slice aoh m.harts.length caph] 30):=⟨_,rfl⟩
  have hb1:Below w.heap.size w w1:=zI
  have hs1:w1.heap.size=w.heap.size+1:=zO
  have c0:w1.cell? ⟨w.heap.size,0,none⟩=some (.slice aom m.mem.length capm):=zA
  have c1:w1.cell? ⟨w.heap.size,1,none⟩=some (.slice aoh m.harts.length caph):=zA
  have l1:w.heap.size<w1.heap.size:=om
  have KP:Hid (∀w',Below w1.heap.size w1 w'→Below w1.heap.size w1 w'∧w'.cell? ⟨w.heap.size,0,none⟩=some (.slice aom m.mem.length capm)∧w'.cell? ⟨w.heap.size,1,none⟩=some (.slice aoh m.harts.length caph)):=
    lI (fun w' h=>⟨h,(h.cell (p:=⟨w.heap.size,0,none⟩) l1).trans c0,(h.cell (p:=⟨w.heap.size,1,none⟩) l1).trans c1⟩)
  have HM1:=lI (HM.out.below hb1)
  have HW1:=lI hw1
  have HB1:=lI hb1
  have HS1:=lI hs1
  clear hm hw1 hb1 hs1 c0 c1 l1
  go_enter Tryz.func29,Tryz.ntmps29
  go_upto_region 1 with(fail)
  rw[←HW1.out]
  go_region_held3 (fun w'=>Below w1.heap.size w1 w'∧w'.cell? ⟨w.heap.size,0,none⟩=some (.slice aom m.mem.length capm)∧w'.cell? ⟨w.heap.size,1,none⟩=some (.slice aoh m.harts.length caph))
    ((refine KP.out _ ?_;(repeat(first|with_reducible exact Below.refl _ _|with_reducible exact hK|with_reducible refine qB ?_ _|with_reducible refine Below.drew ?_|((with_reducible refine Below.alloc ?_ ?hq _);(case hq=>(first|(simp;done)|(simp;omega)|exact hK.size)))))))
    ((first
      |(go_at_call 49;refine(HC1.out _ (HM1.out.1.below ?hB)).mono ?_;(case hB=>(repeat(first|with_reducible exact Below.refl _ _|with_reducible exact hK|with_reducible refine qB ?_ _|with_reducible refine Below.drew ?_)));rintro e wx ⟨⟨vm,rfl,hown1,_⟩,hbm⟩;obtain⟨ax,cx,rfl⟩:=qE hown1;(have HO1:=lI hown1);clear hown1;have hK:Below w1.heap.size w1 wx:=(Below.trans (by(repeat(first|with_reducible exact Below.refl _ _|with_reducible exact hK|with_reducible refine qB ?_ _|with_reducible refine Below.drew ?_))) (hbm.mono (by first|exact hK.size|(simp;done)))))
      |(go_at_call 50;refine(HC2.out _ (HM1.out.2.below ?hB)).mono ?_;(case hB=>(repeat(first|with_reducible exact Below.refl _ _|with_reducible exact hK|with_reducible refine qB ?_ _|with_reducible refine Below.drew ?_)));rintro e wy ⟨⟨vh,rfl,hown2,_⟩,hbh⟩;obtain⟨ay,cy,rfl⟩:=qE hown2;(have HO2:=lI hown2);clear hown2;have hK:Below w1.heap.size w1 wy:=(Below.trans (by(repeat(first|with_reducible exact Below.refl _ _|with_reducible exact hK|with_reducible refine qB ?_ _|with_reducible refine Below.drew ?_))) (hbh.mono (by first|exact hK.size|(simp;done)))))))
  all_goals
    go_wp2_with fail
    go_ret
    have hne:∀k,(Value.slice ax m.mem.length cx).ownBlock=some k→(Value.slice ay m.harts.length cy).ownBlock≠some k:=fun k e1 e2=>by
      have h1:=HO1.out.lt k e1
      have h2:=HO2.out.lt k e2
      omega
    have hs1:=HS1.out
    have h0:w.heap.size≤w1.drew.heap.size:=by show w.heap.size≤w1.heap.size;omega
    first
    | (have o1 := qP HO1.out hbh
       have hz:=hbm.size
       have hK:Below w1.heap.size w1 wy:=(Below.trans (Below.drew br) hbm).trans (hbh.mono hz)
       obtain⟨bh,hc',e,hB2,hbd⟩:=Bd.begin (w:=wy) (tB:=87) (ty:=40) o1 HO2.out hne h1
       exact⟨⟨_,bh,hc',_,rfl,hbd,om,fun k e=>by have:=HO1.out.lt k e;omega,qe (qP o1 (Below.alloc br (sN _) _)) om,e ▸ qe (qP HO2.out (Below.alloc br (sN _) _)) om⟩,HB1.out.trans ((Below.alloc hK (by have:=hK.size;omega) _).mono om)⟩)
    | (have o2 := qP HO2.out hbm
       have hz:=hbh.size
       have hK:Below w1.heap.size w1 wx:=(Below.trans (Below.drew br) hbh).trans (hbm.mono hz)
       obtain⟨bh,hc',e,hB2,hbd⟩:=Bd.begin (w:=wx) (tB:=87) (ty:=40) HO1.out o2 hne h1
       exact⟨⟨_,bh,hc',_,rfl,hbd,om,fun k e=>by have:=HO1.out.lt k e;omega,qe (qP HO1.out (Below.alloc br (sN _) _)) om,e ▸ qe (qP o2 (Below.alloc br (sN _) _)) om⟩,HB1.out.trans ((Below.alloc hK (by have:=hK.size;omega) _).mono om)⟩)
end Go.Proofs.YtlfnddmncbkjaabGreatDoor.W
