import Derived.Test.YtlfnddmncbkjaacGreatZMA
set_option linter.unusedVariables false
set_option linter.unusedSimpArgs false
set_option maxRecDepth 100000
set_option maxHeartbeats 4000000
namespace Go.Proofs.YtlfnddmncbkjaacGreat.W
open Go.RowKit Fb
theorem ins_neq(i:InsD)(w:World):(binOp .neq 82 (.agg (ql i)) (.agg (ql i))).run Tryz.prog w=.ok (.bool false) w:=by
  obtain⟨q1,q2,q3,q4,q5⟩:=i
  rw[run_neq_struct]
  have h:(Op.equalIn 10000 82 (.agg (ql ⟨q1,q2,q3,q4,q5⟩)) (.agg (ql ⟨q1,q2,q3,q4,q5⟩))).run Tryz.prog w=.ok true w:=by
    simp[ql,go_sem]
  rw[h];rfl
theorem same6_any(v v':Value)(l:List InsD)(pc:Int)(w:World)(hv:jV w v l)(hv':jV w v' l):
    Calls Tryz.prog 17 #[.agg #[.int .u32 pc,v],.agg #[.int .u32 pc,v']] w fun e w'=>e=.returned (.bool true)∧Below w.heap.size w w':=by
  obtain⟨ao,cap,rfl,hc,hm,_,ho⟩:=hv.open (fun _ _=>rfl) om
  obtain⟨ao',cap',rfl,hc',hm',_,ho'⟩:=hv'.open (fun _ _=>rfl) om
  have HO:=lI ho
  have HO':=lI ho'
  unfold maxLen at hm hm'
  clear hv hv' ho ho'
  go_enter Tryz.func17,Tryz.ntmps17
  go_upto_region 1 with(fail)
  have hb0:Below w.heap.size w ((w.alloc (.cells #[.int .u32 pc,.slice ao l.length cap] 65)).alloc (.cells #[.int .u32 pc,.slice ao' l.length cap'] 65)):=Fb.blw
  have c0:((w.alloc (.cells #[.int .u32 pc,.slice ao l.length cap] 65)).alloc (.cells #[.int .u32 pc,.slice ao' l.length cap'] 65)).cell? ⟨w.heap.size,0,none⟩=some (.int .u32 pc):=yN
  have c1:((w.alloc (.cells #[.int .u32 pc,.slice ao l.length cap] 65)).alloc (.cells #[.int .u32 pc,.slice ao' l.length cap'] 65)).cell? ⟨w.heap.size,1,none⟩=some (.slice ao l.length cap):=yN
  have d0:((w.alloc (.cells #[.int .u32 pc,.slice ao l.length cap] 65)).alloc (.cells #[.int .u32 pc,.slice ao' l.length cap'] 65)).cell? ⟨w.heap.size+1,0,none⟩=some (.int .u32 pc):=yN
  have d1:((w.alloc (.cells #[.int .u32 pc,.slice ao l.length cap] 65)).alloc (.cells #[.int .u32 pc,.slice ao' l.length cap'] 65)).cell? ⟨w.heap.size+1,1,none⟩=some (.slice ao' l.length cap'):=yN
  generalize (w.alloc (.cells #[.int .u32 pc,.slice ao l.length cap] 65)).alloc (.cells #[.int .u32 pc,.slice ao' l.length cap'] 65)=w2 at *
  go_wp2_with fail
  go_loopw [5] (fun i wr=>∃k:Nat,i=.int .i64 k∧k≤l.length∧∃nd,wr=w2.drewN nd) (fun i _=>l.length-(intOf i).toNat)
  case atStart=>exact⟨0,rfl,om,0,rfl⟩
  case round=>
    obtain⟨k,rfl,hk,nd,rfl⟩:=hrel
    by_cases hlt:k<l.length
    · obtain⟨b,off,rfl,hbl,hel⟩:=HO.out zR
      obtain⟨b',off',rfl,hbl',hel'⟩:=HO'.out zR
      have hat:At w2 b (off+k*5) (jO l[k]):=(hel k hlt).below hb0
      have hat':At w2 b' (off'+k*5) (jO l[k]):=(hel' k hlt).below hb0
      generalize l[k]=h at *
      have hsz:(Tryz.prog.info? 82).map (·.size)=some (ql h).size:=xJ
      have i1:(0:Int)≤(k:Int):=om
      have i2:(k:Int)<(l.length:Int):=om
      clear hel hel' hk
      go_wp2_with fail
      refine wp_region_quiet_lit kr kr ?_
      repeat(first
        |(refine Qq rfl 82 _ rfl b (off+k*5) rfl (ql h) _ (by rintro _ ⟨_,rfl⟩;exact hat) Tryz.underlying82 rfl hsz ?_)
        |(refine Qq rfl 82 _ rfl b' (off'+k*5) rfl (ql h) _ (by rintro _ ⟨_,rfl⟩;exact hat') Tryz.underlying82 rfl hsz ?_)
        |(refine wpQuiet_neq rfl 82 _ _ _ rfl (ql h) (ql h) rfl rfl kr _ (ins_neq h) ?_)
        |quiet_step (fail))
      refine wpQuiet_nil ?_
      intro _ hw'
      obtain⟨nq,hw''⟩:=hw'
      subst hw''
      go_wp2
      go_roundw
      case rel=>exact⟨k+1,by go_num,om,_,rfl⟩
      case measure=>simp[intOf];omega
    · go_wp2
      go_ret
      exact⟨rfl,qC hb0 _⟩
end Go.Proofs.YtlfnddmncbkjaacGreat.W
