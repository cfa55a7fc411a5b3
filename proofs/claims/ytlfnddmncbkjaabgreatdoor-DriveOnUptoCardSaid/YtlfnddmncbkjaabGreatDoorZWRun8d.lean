import Derived.Test.YtlfnddmncbkjaabGreatDoorZWRun8c
set_option linter.unusedVariables false
set_option linter.unusedSimpArgs false
set_option maxRecDepth 100000
set_option maxHeartbeats 4000000
namespace Go.Proofs.YtlfnddmncbkjaabGreatDoor.Fb
theorem put_ml8(d:qF)(op a x:Int):(d.put op a x).m.length=d.m.length:=by
  unfold qF.put
  split
  · exact Qk _ _ _ _
  · rfl
theorem atomS_ml8(d:qF)(op a b:Int):(qb d op a b).1.m.length=d.m.length:=by
  unfold qb
  split
  · split
    · rfl
    · split
      · split
        · exact put_ml8 d 18 a b
        · rfl
      · exact put_ml8 d 18 a _
  · rfl
end Go.Proofs.YtlfnddmncbkjaabGreatDoor.Fb
namespace Go.Proofs.YtlfnddmncbkjaabGreatDoor.W
open Go.RowKit Fb
section
variable {rp cp hb po : Nat} {vm : Value} {w : World} {d : RunD} {vs : Value} {steps : Int}
theorem bytes8_load(h:R8 rp cp hb po vm 40 165 170 w d vs steps 0 0)(s op n:Int)(kd ka kb:Nat)(hkd:kd<36)(hka:ka<36)(hkb:kb<36)(hn:U32 n)(hsl:d.stores.length≤100000)(hov:d.over=false)(hs:11≤s∧s≤15)(d':RunD)(hd':d'=(if qY d.m s (u32 (d.get ka+n))=true then d.put kd (QB d.m s (u32 (d.get ka+n)))else d.trap 3)):
    Calls Tryz.prog 151 #[.pointer (some ⟨rp,0,none⟩),.int .i64 200,.int .i64 s,.agg #[.int .i64 op,.int .i64 kd,.int .i64 ka,.int .i64 kb,.int .u32 n]] w fun e w'=>e=.returned (.bool (!d'.over))∧∃vs',R8 rp cp hb po vm 40 165 170 w' d' vs' steps 0 0∧G8 rp 40 cp hb po vm w w':=by
  have hlt:=h.rlt
  have hcr:=h.lt
  have hbm:Ints .u8 w vm d.m:=h.core.bytes
  obtain⟨am,cm,rfl,-⟩:=hbm.open
  obtain⟨w1,hw1⟩:∃w1,w1=w.alloc (.cells #[.int .i64 op,.int .i64 kd,.int .i64 ka,.int .i64 kb,.int .u32 n] 211):=⟨_,rfl⟩
  have hb1:Below w.heap.size w w1:=zI
  have hs1:w1.heap.size=w.heap.size+1:=zO
  have c0:(w1).cell? ⟨w.heap.size,0,none⟩=some (.int .i64 op):=zA
  have c1:(w1).cell? ⟨w.heap.size,1,none⟩=some (.int .i64 kd):=zA
  have c2:(w1).cell? ⟨w.heap.size,2,none⟩=some (.int .i64 ka):=zA
  have c3:(w1).cell? ⟨w.heap.size,3,none⟩=some (.int .i64 kb):=zA
  have c4:(w1).cell? ⟨w.heap.size,4,none⟩=some (.int .u32 n):=zA
  have H1:=h.below hb1
  have HG1:Hid (G8 rp 40 cp hb po (.slice am d.m.length cm) w w1):=lI (G8.below hb1 h.clt)
  have HGA:=lI (JX H1 ka hka)
  have HGB:=lI (fun nd=>(JX (H1.below (qB (Below.refl _ w1) nd)) kb hkb).mono (R':=fun e w'=>e=.returned (.int .u32 (d.get kb))∧w1.drewN nd=w') (fun e w' h=>⟨h.1,h.2.symm⟩))
  obtain⟨a,ha⟩:∃a,a=d.get ka:=⟨_,rfl⟩
  obtain⟨b,hbb⟩:∃b,b=d.get kb:=⟨_,rfl⟩
  have hua:U32 a:=by rw[ha];exact uJ h.wf ka
  have hub:U32 b:=by rw[hbb];exact uJ h.wf kb
  rw[←ha]at HGA
  rw[←hbb]at HGB
  have g0:=H1.at_.get (QO 0 om)
  have g10:=H1.at_.get (Jb H1.wf.tlen 0)
  have p1:w1.cell? ⟨cp,1,none⟩=some (.slice am d.m.length cm):=H1.core.mem
  simp only[sM,Nat.reduceAdd]at g0 g10
  have HH1:=lI H1
  have HW1:=lI hw1
  have hu32:∀x,u32 x=x%4294967296:=fun x=>rfl
  rw[←ha]at hd'
  simp only[hu32]at hd'
  have huq:U32 ((a+n)%4294967296):=Qp _
  have HLD:=lI (fun nd=>load_any (.slice am d.m.length cm) d.m s ((a+n)%4294967296) (w1.drewN nd) (H1.below (qB (Below.refl _ w1) nd)).core.bytes huq H1.wf.m.getD)
  have hux:U32 (QB d.m s ((a+n)%4294967296)):=mLoad_u d.m s _ hs huq H1.wf.m.getD
  obtain⟨x,hx⟩:∃x,x=QB d.m s ((a+n)%4294967296):=⟨_,rfl⟩
  obtain⟨ok,hok⟩:∃ok,ok=qY d.m s ((a+n)%4294967296):=⟨_,rfl⟩
  rw[←hx]at hux
  rw[←hx,←hok]at HLD hd'
  have HPT:=lI (fun W (hb:Below w1.heap.size w1 W)=>put8_any (HH1.out.below hb) kd hkd x hux)
  have HTR:=lI (fun W (hb:Below w1.heap.size w1 W)=>trap8_any (HH1.out.below hb) 3 ⟨om,om⟩)
  have po:=(put_over d kd x).trans hov
  obtain⟨dp,hdp⟩:∃dp,dp=d.put kd x:=⟨_,rfl⟩
  obtain⟨dt,hdt⟩:∃dt,dt=d.trap 3:=⟨_,rfl⟩
  have pt:dt.over=true:=by rw[hdt];rfl
  rw[←hdp]at HPT po hd'
  rw[←hdt]at HTR hd'
  have HD:=lI hd'
  have HCL:=lI H1.clt
  clear ha hbb hd' hdp hdt hx hok hux huq h H1 hb1 hw1 c0 c3 hu32
  go_enter Tryz.func151,Tryz.ntmps151
  go_upto_region 1 with(fail)
  rw[←HW1.out]
  go_wp2_with fail
  refine HGA.out.mono ?_
  rintro e w2 ⟨rfl,hww2⟩
  subst hww2
  go_upto_region 8 with(fail)
  go_quiet (first|(go_at_call 59;exact jA (HLD.out _)))
  cases ok with
  | true =>
    go_wp2_with fail
    refine(HPT.out _ (qB br _)).mono ?_
    rintro e w9 ⟨rfl,h9,g9⟩
    go_wp2_with fail
    go_ret
    have e:=HD.out
    simp only[if_true]at e
    subst e
    refine⟨Qe ?_,_,h9,HG1.out.trans ((G8.below (qB br _) HCL.out).trans g9)⟩
    rw[po];rfl
  | false =>
    go_wp2_with fail
    refine(HTR.out _ (qB br _)).mono ?_
    rintro e w9 ⟨rfl,h9,g9⟩
    go_wp2_with fail
    go_ret
    have e:=HD.out
    simp only[Bool.false_eq_true,if_false]at e
    subst e
    refine⟨Qe ?_,_,h9,HG1.out.trans ((G8.below (qB br _) HCL.out).trans g9)⟩
    rw[pt];rfl
theorem bytes8_store(h:R8 rp cp hb po vm 40 165 170 w d vs steps 0 0)(s op n:Int)(kd ka kb:Nat)(hkd:kd<36)(hka:ka<36)(hkb:kb<36)(hn:U32 n)(hsl:d.stores.length≤100000)(hov:d.over=false)(hs:16≤s∧s≤18)(d':RunD)(hd':d'=(if qU d.m s (u32 (d.get ka+n))=true then(d.mem s (u32 (d.get ka+n)) (d.get kb)).stored (u32 (d.get ka+n)) (qO s).toNat else d.trap 4)):
    Calls Tryz.prog 151 #[.pointer (some ⟨rp,0,none⟩),.int .i64 300,.int .i64 s,.agg #[.int .i64 op,.int .i64 kd,.int .i64 ka,.int .i64 kb,.int .u32 n]] w fun e w'=>e=.returned (.bool (!d'.over))∧∃vs',R8 rp cp hb po vm 40 165 170 w' d' vs' steps 0 0∧G8 rp 40 cp hb po vm w w':=by
  have hlt:=h.rlt
  have hcr:=h.lt
  have hbm:Ints .u8 w vm d.m:=h.core.bytes
  obtain⟨am,cm,rfl,-⟩:=hbm.open
  obtain⟨w1,hw1⟩:∃w1,w1=w.alloc (.cells #[.int .i64 op,.int .i64 kd,.int .i64 ka,.int .i64 kb,.int .u32 n] 211):=⟨_,rfl⟩
  have hb1:Below w.heap.size w w1:=zI
  have hs1:w1.heap.size=w.heap.size+1:=zO
  have c0:(w1).cell? ⟨w.heap.size,0,none⟩=some (.int .i64 op):=zA
  have c1:(w1).cell? ⟨w.heap.size,1,none⟩=some (.int .i64 kd):=zA
  have c2:(w1).cell? ⟨w.heap.size,2,none⟩=some (.int .i64 ka):=zA
  have c3:(w1).cell? ⟨w.heap.size,3,none⟩=some (.int .i64 kb):=zA
  have c4:(w1).cell? ⟨w.heap.size,4,none⟩=some (.int .u32 n):=zA
  have H1:=h.below hb1
  have HG1:Hid (G8 rp 40 cp hb po (.slice am d.m.length cm) w w1):=lI (G8.below hb1 h.clt)
  have HGA:=lI (JX H1 ka hka)
  have HGB:=lI (fun nd=>(JX (H1.below (qB (Below.refl _ w1) nd)) kb hkb).mono (R':=fun e w'=>e=.returned (.int .u32 (d.get kb))∧w1.drewN nd=w') (fun e w' h=>⟨h.1,h.2.symm⟩))
  obtain⟨a,ha⟩:∃a,a=d.get ka:=⟨_,rfl⟩
  obtain⟨b,hbb⟩:∃b,b=d.get kb:=⟨_,rfl⟩
  have hua:U32 a:=by rw[ha];exact uJ h.wf ka
  have hub:U32 b:=by rw[hbb];exact uJ h.wf kb
  rw[←ha]at HGA
  rw[←hbb]at HGB
  have g0:=H1.at_.get (QO 0 om)
  have g10:=H1.at_.get (Jb H1.wf.tlen 0)
  have p1:w1.cell? ⟨cp,1,none⟩=some (.slice am d.m.length cm):=H1.core.mem
  simp only[sM,Nat.reduceAdd]at g0 g10
  have HH1:=lI H1
  have HW1:=lI hw1
  have hu32:∀x,u32 x=x%4294967296:=fun x=>rfl
  rw[←ha,←hbb]at hd'
  simp only[hu32]at hd'
  have huq:U32 ((a+n)%4294967296):=Qp _
  have HPU:Hid (∀nd,Calls Tryz.prog 116 #[.pointer (some ⟨cp,0,none⟩),.int .i64 s,.int .u32 ((a+n)%4294967296),.int .u32 b] (w1.drewN nd) fun e w'=>e=.returned (.bool (qU d.m s ((a+n)%4294967296)))∧R8 rp cp hb po (.slice am d.m.length cm) 40 165 170 w' (d.ofC ((d.core 0 0).put s ((a+n)%4294967296) b)) vs steps ((d.core 0 0).put s ((a+n)%4294967296) b).fr ((d.core 0 0).put s ((a+n)%4294967296) b).tw∧G8 rp 40 cp hb po (.slice am d.m.length cm) w1 w'):=lI (fun nd=>by
    have h2:=H1.below (qB (Below.refl _ w1) nd)
    refine(cput_any h2.core h2.cwf s ((a+n)%4294967296) b huq hub).mono ?_
    rintro e w9 ⟨rfl,h9,g9⟩
    refine⟨rfl,h2.ofC h9 g9 tyR tyS (h2.cwf.put s _ b huq) ?_,(G8.below (qB br _) H1.clt).trans (G8.cgo g9 h2.clt)⟩
    have hl:=h2.mmax
    unfold qF.put
    split
    · show(Qg d.m s _ _).length≤4096
      rw[Qk];exact hl
    · exact hl)
  have hml:=h.mmax
  obtain⟨c',hc'⟩:∃c',c'=(d.core 0 0).put s ((a+n)%4294967296) b:=⟨_,rfl⟩
  have hy:qU d.m s ((a+n)%4294967296)=true→d'=(d.ofC c').takeC c':=fun e=>by
    rw[hd',if_pos e,hc',store_take hml huq e]
  have hn':qU d.m s ((a+n)%4294967296)=false→c'=d.core 0 0:=fun e=>by
    rw[hc'];unfold qF.put;rw[if_neg (by show ¬qU d.m s _=true;rw[e];decide)]
  have hdn:qU d.m s ((a+n)%4294967296)=false→d'=d.trap 4:=fun e=>by rw[hd',if_neg (by rw[e];decide)]
  rw[←hc']at HPU
  generalize qU d.m s ((a+n)%4294967296)=ok at *
  have HY:=lI hy
  have HN:=lI hn'
  have HDN:=lI hdn
  have HST:=lI (fun W vs (hW:R8 rp cp hb po (.slice am d.m.length cm) 40 165 170 W (d.ofC c') vs steps c'.fr c'.tw)=>stored8_any hW c' rfl rfl hsl)
  have HTR:=lI (fun W vs fr tw (hW:R8 rp cp hb po (.slice am d.m.length cm) 40 165 170 W d vs steps fr tw)=>trap8_any hW 4 ⟨om,om⟩)
  clear ha hbb hd' hc' hy hn' hdn huq h H1 hb1 hw1 c0 c1 hu32 g10 p1 hml
  go_enter Tryz.func151,Tryz.ntmps151
  go_upto_region 1 with(fail)
  rw[←HW1.out]
  go_wp2_with fail
  refine HGA.out.mono ?_
  rintro e w2 ⟨rfl,hww2⟩
  subst hww2
  go_upto_region 14 with(fail)
  refine qZ (fun W=>∃nd,W=w2.drewN nd) 13 kr kr ⟨1,rfl⟩ ?_
  simp only[List.take_succ_cons,List.take_zero,List.drop_succ_cons,List.drop_zero]
  iterate 13 quiet_step ((go_at_call 149;exact jA (HGB.out _)))
  refine wpQuiet_nil ?_
  rintro _ ⟨nd,rfl⟩
  go_wp2_with fail
  refine(HPU.out nd).mono ?_
  rintro e w9 ⟨rfl,h9,g9⟩
  cases ok with
  | true =>
    go_wp2_with fail
    refine(HST.out _ _ h9).mono ?_
    rintro e w10 ⟨rfl,vs',h10,g10⟩
    go_wp2_with fail
    go_ret
    have e:=HY.out yS
    subst e
    refine⟨Qe ?_,_,h10,HG1.out.trans (g9.trans g10)⟩
    rw[takeC_over]
    show true= !d.over
    rw[hov];rfl
  | false =>
    have e1:=HN.out yS
    subst e1
    go_wp2_with fail
    refine(HTR.out _ _ _ _ h9).mono ?_
    rintro e w10 ⟨rfl,h10,g10⟩
    go_wp2_with fail
    go_ret
    have e:=HDN.out yS
    subst e
    exact⟨rfl,_,h10,HG1.out.trans (g9.trans g10)⟩
theorem bytes8_atom(h:R8 rp cp hb po vm 40 165 170 w d vs steps 0 0)(s op n:Int)(kd ka kb:Nat)(hkd:kd<36)(hka:ka<36)(hkb:kb<36)(hn:U32 n)(hsl:d.stores.length≤100000)(hov:d.over=false)(hs:46≤s∧s≤56)(d':RunD)(hd':d'=d.atom s kd ka kb):
    Calls Tryz.prog 151 #[.pointer (some ⟨rp,0,none⟩),.int .i64 600,.int .i64 s,.agg #[.int .i64 op,.int .i64 kd,.int .i64 ka,.int .i64 kb,.int .u32 n]] w fun e w'=>e=.returned (.bool (!d'.over))∧∃vs',R8 rp cp hb po vm 40 165 170 w' d' vs' steps 0 0∧G8 rp 40 cp hb po vm w w':=by
  have hlt:=h.rlt
  have hcr:=h.lt
  have hbm:Ints .u8 w vm d.m:=h.core.bytes
  obtain⟨am,cm,rfl,-⟩:=hbm.open
  obtain⟨w1,hw1⟩:∃w1,w1=w.alloc (.cells #[.int .i64 op,.int .i64 kd,.int .i64 ka,.int .i64 kb,.int .u32 n] 211):=⟨_,rfl⟩
  have hb1:Below w.heap.size w w1:=zI
  have hs1:w1.heap.size=w.heap.size+1:=zO
  have c0:(w1).cell? ⟨w.heap.size,0,none⟩=some (.int .i64 op):=zA
  have c1:(w1).cell? ⟨w.heap.size,1,none⟩=some (.int .i64 kd):=zA
  have c2:(w1).cell? ⟨w.heap.size,2,none⟩=some (.int .i64 ka):=zA
  have c3:(w1).cell? ⟨w.heap.size,3,none⟩=some (.int .i64 kb):=zA
  have c4:(w1).cell? ⟨w.heap.size,4,none⟩=some (.int .u32 n):=zA
  have H1:=h.below hb1
  have HG1:Hid (G8 rp 40 cp hb po (.slice am d.m.length cm) w w1):=lI (G8.below hb1 h.clt)
  have HGA:=lI (JX H1 ka hka)
  have HGB:=lI (fun nd=>(JX (H1.below (qB (Below.refl _ w1) nd)) kb hkb).mono (R':=fun e w'=>e=.returned (.int .u32 (d.get kb))∧w1.drewN nd=w') (fun e w' h=>⟨h.1,h.2.symm⟩))
  obtain⟨a,ha⟩:∃a,a=d.get ka:=⟨_,rfl⟩
  obtain⟨b,hbb⟩:∃b,b=d.get kb:=⟨_,rfl⟩
  have hua:U32 a:=by rw[ha];exact uJ h.wf ka
  have hub:U32 b:=by rw[hbb];exact uJ h.wf kb
  rw[←ha]at HGA
  rw[←hbb]at HGB
  have g0:=H1.at_.get (QO 0 om)
  have g10:=H1.at_.get (Jb H1.wf.tlen 0)
  have p1:w1.cell? ⟨cp,1,none⟩=some (.slice am d.m.length cm):=H1.core.mem
  simp only[sM,Nat.reduceAdd]at g0 g10
  have HH1:=lI H1
  have HW1:=lI hw1
  have hbx:w1.heap[w.heap.size]? =some (.cells #[.int .i64 op,.int .i64 kd,.int .i64 ka,.int .i64 kb,.int .u32 n] 211 (0,0)):=xJ
  have HPU:Hid (∀nd,Calls Tryz.prog 119 #[.pointer (some ⟨cp,0,none⟩),.int .i64 s,.int .u32 a,.int .u32 b] (w1.drewN nd) fun e w'=>e=.returned (.tuple #[.int .u32 (qb (d.core 0 0) s a b).2.1,.bool (qb (d.core 0 0) s a b).2.2])∧R8 rp cp hb po (.slice am d.m.length cm) 40 165 170 w' (d.ofC (qb (d.core 0 0) s a b).1) vs steps (qb (d.core 0 0) s a b).1.fr (qb (d.core 0 0) s a b).1.tw∧G8 rp 40 cp hb po (.slice am d.m.length cm) w1 w'∧w'.heap[w.heap.size]? =w1.heap[w.heap.size]?):=lI (fun nd=>by
    have h2:=H1.below (qB (Below.refl _ w1) nd)
    refine(atom_any h2.core h2.cwf s a b hs hua hub).mono ?_
    rintro e w9 ⟨rfl,h9,g9⟩
    refine⟨rfl,h2.ofC h9 g9 tyR tyS (uw h2.cwf s a b hua hub).1 (by have:=atomS_ml8 (d.core 0 0) s a b;rw[this];exact h2.mmax),(G8.below (qB br _) H1.clt).trans (G8.cgo g9 h2.clt), ?_⟩
    exact g9.block w.heap.size yV (by have:=h.core.hbl;omega) (fun e=>by have:=h.core.mlt _ e;omega) (.inr ⟨om,fun cs fr e=>by rw[show(w1.drewN nd).heap=w1.heap from rfl,hbx]at e;cases e⟩))
  have hml:=h.mmax
  have hux:U32 (qb (d.core 0 0) s a b).2.1:=(uw h.cwf s a b hua hub).2
  have hy:(qb (d.core 0 0) s a b).2.2=true→((d.ofC (qb (d.core 0 0) s a b).1).put kd (qb (d.core 0 0) s a b).2.1).takeC (qb (d.core 0 0) s a b).1=d':=fun e=>by
    rw[hd'];rw[ha,hbb]at e ⊢;exact atom_take hml (by rw[←ha];exact hua) e
  have hn':(qb (d.core 0 0) s a b).2.2=false→(d.ofC (qb (d.core 0 0) s a b).1).stop d.here=d'∧(qb (d.core 0 0) s a b).1.fr=0∧(qb (d.core 0 0) s a b).1.tw=0:=fun e=>by
    refine⟨?_,atom_no_fr e⟩
    rw[hd'];rw[ha,hbb]at e ⊢;exact(atom_no e).symm
  generalize (qb (d.core 0 0) s a b).2.2=ok at *
  generalize (qb (d.core 0 0) s a b).2.1=x at *
  generalize (qb (d.core 0 0) s a b).1=c' at *
  have HY:=lI hy
  have HN:=lI hn'
  have HPT:=lI (fun W (hW:R8 rp cp hb po (.slice am d.m.length cm) 40 165 170 W (d.ofC c') vs steps c'.fr c'.tw)=>put8_any hW kd hkd x hux)
  have hsl2:((d.ofC c').put kd x).stores.length≤100000:=by rw[(put_same (d.ofC c') kd x).2.1];exact hsl
  have HST:=lI (fun W vs (hW:R8 rp cp hb po (.slice am d.m.length cm) 40 165 170 W ((d.ofC c').put kd x) vs steps c'.fr c'.tw)=>stored8_any hW c' rfl rfl hsl2)
  have HSP:=lI (fun W vs fr tw (hW:R8 rp cp hb po (.slice am d.m.length cm) 40 165 170 W (d.ofC c') vs steps fr tw)=>JP hW d.here hW.wf.here)
  have HWF:=lI H1.wf
  have hov2:(((d.ofC c').put kd x).takeC c').over=false:=by rw[takeC_over,put_over];exact hov
  have hne1:w.heap.size≠rp:=om
  have hne2:w.heap.size≠cp:=om
  have hltc:cp<w.heap.size:=om
  clear ha hbb hd' hy hn' h H1 hb1 hw1 c0 p1 hml hux hsl2 c4 g10
  go_enter Tryz.func151,Tryz.ntmps151
  go_upto_region 1 with(fail)
  rw[←HW1.out]
  go_wp2_with fail
  refine HGA.out.mono ?_
  rintro e w2 ⟨rfl,hww2⟩
  subst hww2
  go_upto_region 3 with(fail)
  have hd0:w2.drew.cell? ⟨w.heap.size,3,none⟩=some (.int .i64 kb):=c3
  have hd1:w2.drew.cell? ⟨rp,0,none⟩=some (.pointer (some ⟨cp,0,none⟩)):=g0
  go_cut [12,13]from 19 to 32 (fun t12 t13 wx=>t12=.int .u32 x∧t13=.bool ok∧Hid (R8 rp cp hb po (.slice am d.m.length cm) 40 165 170 wx (d.ofC c') vs steps c'.fr c'.tw∧G8 rp 40 cp hb po (.slice am d.m.length cm) w2 wx∧wx.heap[w.heap.size]? =w2.heap[w.heap.size]?))
  case first=>
    refine wp_region_held_drew (S:=fun W=>W.cell? ⟨w.heap.size,3,none⟩=some (.int .i64 kb)∧W.cell? ⟨rp,0,none⟩=some (.pointer (some ⟨cp,0,none⟩))) kr ⟨hd0,hd1⟩ (fun hHeld=> ?_)
    clear hd0 hd1 c2
    refine tak 0 (.pointer (some ⟨rp,0,none⟩)) ?_
    try simp only[sA,sB,sC,Act.put,sD,sE,sG]
    refine tak 1 (.pointer (some ⟨rp,0,none⟩)) ?_
    try simp only[sA,sB,sC,Act.put,sD,sE,sG]
    refine tak 2 (.pointer (some ⟨rp,0,none⟩)) ?_
    try simp only[sA,sB,sC,Act.put,sD,sE,sG]
    refine tak 3 (.pointer (some ⟨cp,0,none⟩)) ?_
    try simp only[sA,sB,sC,Act.put,sD,sE,sG]
    refine tak 4 (.int .i64 s) ?_
    try simp only[sA,sB,sC,Act.put,sD,sE,sG]
    refine tak 5 (.int .u32 a) ?_
    try simp only[sA,sB,sC,Act.put,sD,sE,sG]
    refine tak 6 (.pointer (some ⟨rp,0,none⟩)) ?_
    try simp only[sA,sB,sC,Act.put,sD,sE,sG]
    refine tak 7 (.pointer (some ⟨w.heap.size,3,none⟩)) ?_
    try simp only[sA,sB,sC,Act.put,sD,sE,sG]
    refine tak 8 (.int .i64 kb) ?_
    try simp only[sA,sB,sC,Act.put,sD,sE,sG]
    refine wpAnyH_ready (rs:=[9]) kr zC ?_
    refine sS rfl (fun K hK=> ?_) AllReadyH.nil
    go_simp
    refine(HGB.out 1).mono ?_
    rintro e w3 ⟨rfl,rfl⟩
    refine hK.out _ _ hHeld (fun hHeld2=> ?_)
    clear hK K
    refine wpAnyH_ready (rs:=[10]) kr zC ?_
    refine sS rfl (fun K hK=> ?_) AllReadyH.nil
    go_simp
    refine(HPU.out 1).mono ?_
    rintro e w4 ⟨rfl,h4,g4,b4⟩
    have eS:w4.cell? ⟨w.heap.size,3,none⟩=some (.int .i64 kb)∧w4.cell? ⟨rp,0,none⟩=some (.pointer (some ⟨cp,0,none⟩)):=⟨(qA b4 _).trans c3,by have:=h4.at_.get (QO 0 om);simpa using this⟩
    have HR:=lI (And.intro h4 (And.intro g4 b4))
    clear h4 g4 b4
    refine hK.out _ _ eS (fun hHeld3=> ?_)
    clear hK K
    refine tak 11 (.tuple #[.int .u32 x,.bool ok]) ?_
    try simp only[sA,sB,sC,Act.put,sD,sE,sG]
    refine tak 12 (.int .u32 x) ?_
    try simp only[sA,sB,sC,Act.put,sD,sE,sG]
    refine tak 13 (.bool ok) ?_
    try simp only[sA,sB,sC,Act.put,sD,sE,sG]
    refine tak 14 (.int .u32 x) ?_
    try simp only[sA,sB,sC,Act.put,sD,sE,sG]
    refine tak 15 (.bool ok) ?_
    try simp only[sA,sB,sC,Act.put,sD,sE,sG]
    refine wpAnyH_done kr ?_ _
    clear hHeld hHeld2 hHeld3 eS
    go_wp2_with fail
    go_meet
    case rel=>exact⟨rfl,rfl,HR⟩
  case rest=>
    obtain⟨rfl,rfl,HR⟩:=hcut
    obtain⟨w5,hw5⟩:∃w5,w5=wc:=⟨_,rfl⟩
    rw[←hw5]at HR ⊢
    have h5:=HR.out.1
    have hd10:=h5.at_.get (Jb h5.wf.tlen 0)
    have g10:w5.cell? ⟨rp,10,none⟩=some (.int .u32 d.here):=by simpa[RunD.ofC]using hd10
    have e1:=(qA HR.out.2.2 1).trans c1
    clear hw5 h5 hd10 hd0 hd1 c1 c2 c3 g0 HPU HGB
    cases ok with
    | true =>
      go_wp2_with fail
      refine(HPT.out _ HR.out.1).mono ?_
      rintro e w6 ⟨rfl,h6,g6⟩
      have HS6:=lI (HST.out _ _ h6)
      have HG6:=lI g6
      clear h6 g6
      go_wp2_with fail
      refine HS6.out.mono ?_
      rintro e w7 ⟨rfl,vs',h7,g7⟩
      go_wp2_with fail
      go_ret
      have e:=HY.out yS
      rw[e]at h7 hov2
      refine⟨Qe ?_,_,h7,HG1.out.trans (HR.out.2.1.trans (HG6.out.trans g7))⟩
      rw[hov2];rfl
    | false =>
      go_wp2_with fail
      refine(HSP.out _ _ _ _ HR.out.1).mono ?_
      rintro e w6 ⟨rfl,h6,g6⟩
      go_wp2_with fail
      go_ret
      obtain⟨e,e1,e2⟩:=HN.out yS
      rw[e1,e2]at h6
      rw[←e]
      exact⟨rfl,_,h6,HG1.out.trans (HR.out.2.1.trans g6)⟩
end
end Go.Proofs.YtlfnddmncbkjaabGreatDoor.W
