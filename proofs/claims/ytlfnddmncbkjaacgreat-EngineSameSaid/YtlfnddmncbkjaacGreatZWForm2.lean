import Derived.Test.YtlfnddmncbkjaacGreatZHI
set_option linter.unusedVariables false
set_option linter.unusedSimpArgs false
set_option maxRecDepth 100000
set_option maxHeartbeats 4000000
namespace Go.Proofs.YtlfnddmncbkjaacGreat.W
open Go.RowKit Fb
theorem Qx(n:Int)(la lo:List Int)(ta to_:TypeId)(w:World)(hl:la.length=lo.length)(hm:lo.length≤100):
    Calls Tryz.prog 84 #[.int .i64 n,.slice (some ⟨w.heap.size,0,none⟩) la.length la.length,.slice (some ⟨w.heap.size+1,0,none⟩) lo.length lo.length]
      ((w.alloc (.cells (la.map (Value.int .i64)).toArray ta)).alloc (.cells (lo.map (Value.int .i64)).toArray to_)) fun e w'=>e=.returned (.int .i64 (QM n la lo))∧Below w.heap.size w w':=by
  have h1:Ints .i64 ((w.alloc (.cells (la.map (Value.int .i64)).toArray ta)).alloc (.cells (lo.map (Value.int .i64)).toArray to_)) (.slice (some ⟨w.heap.size,0,none⟩) la.length la.length) la:=
    (Ints.mk (Qf w (la.map (Value.int .i64)) ta (0,0)) rfl (sO _) xW).below (Below.alloc br (sO _) _)
  have h2:Ints .i64 ((w.alloc (.cells (la.map (Value.int .i64)).toArray ta)).alloc (.cells (lo.map (Value.int .i64)).toArray to_)) (.slice (some ⟨w.heap.size+1,0,none⟩) lo.length lo.length) lo:=by
    have:=Ints.mk (k:=.i64) (l:=lo) (cap:=lo.length) (n:=lo.length) (off:=0) (Qf (w.alloc (.cells (la.map (Value.int .i64)).toArray ta)) (lo.map (Value.int .i64)) to_ (0,0)) rfl (sO _) xW
    simpa using this
  refine(pick2_any n la lo _ _ _ h1 h2 hl).mono fun e w' ⟨h3,h4⟩=>⟨h3, ?_⟩
  subst h4
  exact Below.alloc (Below.alloc br (sO _) _) zG _
theorem form2_55(x:Int)(w:World)(hx:U32 x)(h:x%128=55):
    Calls Tryz.prog 51 #[.int .u32 x] w fun e w'=>e=.returned (.tuple #[.int .i64 (qZ x).1,.int .u8 (qZ x).2])∧Below w.heap.size w w':=by
  have HX:=lI hx
  have HF:Hid (qZ x=(1,85)):=lI xS
  obtain⟨hx0,hx1⟩:=hx
  go_enter Tryz.func51,Tryz.ntmps51
  go_wp2_with (go_at_call 52;first|((with_reducible refine(QX _ _ HX.out).mono ?_);rintro e w' ⟨rfl,rfl⟩)|((with_reducible refine(QH _ _ HX.out).mono ?_);rintro e w' ⟨rfl,rfl⟩)|((with_reducible refine(QD _ _ HX.out).mono ?_);rintro e w' ⟨rfl,rfl⟩))
  go_ret2
  exact⟨by rw[HF.out];first|done|rfl,Below.refl _ _⟩
theorem form2_23(x:Int)(w:World)(hx:U32 x)(h:x%128=23):
    Calls Tryz.prog 51 #[.int .u32 x] w fun e w'=>e=.returned (.tuple #[.int .i64 (qZ x).1,.int .u8 (qZ x).2])∧Below w.heap.size w w':=by
  have HX:=lI hx
  have HF:Hid (qZ x=(2,85)):=lI xS
  obtain⟨hx0,hx1⟩:=hx
  go_enter Tryz.func51,Tryz.ntmps51
  go_wp2_with (go_at_call 52;first|((with_reducible refine(QX _ _ HX.out).mono ?_);rintro e w' ⟨rfl,rfl⟩)|((with_reducible refine(QH _ _ HX.out).mono ?_);rintro e w' ⟨rfl,rfl⟩)|((with_reducible refine(QD _ _ HX.out).mono ?_);rintro e w' ⟨rfl,rfl⟩))
  go_ret2
  exact⟨by rw[HF.out];first|done|rfl,Below.refl _ _⟩
theorem form2_111(x:Int)(w:World)(hx:U32 x)(h:x%128=111):
    Calls Tryz.prog 51 #[.int .u32 x] w fun e w'=>e=.returned (.tuple #[.int .i64 (qZ x).1,.int .u8 (qZ x).2])∧Below w.heap.size w w':=by
  have HX:=lI hx
  have HF:Hid (qZ x=(3,74)):=lI xS
  obtain⟨hx0,hx1⟩:=hx
  go_enter Tryz.func51,Tryz.ntmps51
  go_wp2_with (go_at_call 52;first|((with_reducible refine(QX _ _ HX.out).mono ?_);rintro e w' ⟨rfl,rfl⟩)|((with_reducible refine(QH _ _ HX.out).mono ?_);rintro e w' ⟨rfl,rfl⟩)|((with_reducible refine(QD _ _ HX.out).mono ?_);rintro e w' ⟨rfl,rfl⟩))
  go_ret2
  exact⟨by rw[HF.out];first|done|rfl,Below.refl _ _⟩
theorem form2_103(x:Int)(w:World)(hx:U32 x)(h:x%128=103):
    Calls Tryz.prog 51 #[.int .u32 x] w fun e w'=>e=.returned (.tuple #[.int .i64 (qZ x).1,.int .u8 (qZ x).2])∧Below w.heap.size w w':=by
  have HX:=lI hx
  have HF:Hid (qZ x=(QM (x / 4096%8) [0] [4],73)):=lI xS
  obtain⟨hx0,hx1⟩:=hx
  go_enter Tryz.func51,Tryz.ntmps51
  go_wp2_with (go_at_call 52;first|((with_reducible refine(QX _ _ HX.out).mono ?_);rintro e w' ⟨rfl,rfl⟩)|((with_reducible refine(QH _ _ HX.out).mono ?_);rintro e w' ⟨rfl,rfl⟩)|((with_reducible refine(QD _ _ HX.out).mono ?_);rintro e w' ⟨rfl,rfl⟩))
  refine(Qx _ [0] [4] _ _ _ rfl zL).mono ?_
  rintro e w1 ⟨rfl,hb1⟩
  go_wp2
  go_ret2
  exact⟨by rw[HF.out];first|done|rfl,hb1⟩
theorem form2_99(x:Int)(w:World)(hx:U32 x)(h:x%128=99):
    Calls Tryz.prog 51 #[.int .u32 x] w fun e w'=>e=.returned (.tuple #[.int .i64 (qZ x).1,.int .u8 (qZ x).2])∧Below w.heap.size w w':=by
  have HX:=lI hx
  have HF:Hid (qZ x=(QM (x / 4096%8) [0,1,4,5,6,7] [5,6,7,8,9,10],66)):=lI xS
  obtain⟨hx0,hx1⟩:=hx
  go_enter Tryz.func51,Tryz.ntmps51
  go_wp2_with (go_at_call 52;first|((with_reducible refine(QX _ _ HX.out).mono ?_);rintro e w' ⟨rfl,rfl⟩)|((with_reducible refine(QH _ _ HX.out).mono ?_);rintro e w' ⟨rfl,rfl⟩)|((with_reducible refine(QD _ _ HX.out).mono ?_);rintro e w' ⟨rfl,rfl⟩))
  refine(Qx _ [0,1,4,5,6,7] [5,6,7,8,9,10] _ _ _ rfl zL).mono ?_
  rintro e w1 ⟨rfl,hb1⟩
  go_wp2
  go_ret2
  exact⟨by rw[HF.out];first|done|rfl,hb1⟩
theorem form2_3(x:Int)(w:World)(hx:U32 x)(h:x%128=3):
    Calls Tryz.prog 51 #[.int .u32 x] w fun e w'=>e=.returned (.tuple #[.int .i64 (qZ x).1,.int .u8 (qZ x).2])∧Below w.heap.size w w':=by
  have HX:=lI hx
  have HF:Hid (qZ x=(QM (x / 4096%8) [0,1,2,4,5] [11,12,13,14,15],73)):=lI xS
  obtain⟨hx0,hx1⟩:=hx
  go_enter Tryz.func51,Tryz.ntmps51
  go_wp2_with (go_at_call 52;first|((with_reducible refine(QX _ _ HX.out).mono ?_);rintro e w' ⟨rfl,rfl⟩)|((with_reducible refine(QH _ _ HX.out).mono ?_);rintro e w' ⟨rfl,rfl⟩)|((with_reducible refine(QD _ _ HX.out).mono ?_);rintro e w' ⟨rfl,rfl⟩))
  refine(Qx _ [0,1,2,4,5] [11,12,13,14,15] _ _ _ rfl zL).mono ?_
  rintro e w1 ⟨rfl,hb1⟩
  go_wp2
  go_ret2
  exact⟨by rw[HF.out];first|done|rfl,hb1⟩
theorem form2_35(x:Int)(w:World)(hx:U32 x)(h:x%128=35):
    Calls Tryz.prog 51 #[.int .u32 x] w fun e w'=>e=.returned (.tuple #[.int .i64 (qZ x).1,.int .u8 (qZ x).2])∧Below w.heap.size w w':=by
  have HX:=lI hx
  have HF:Hid (qZ x=(QM (x / 4096%8) [0,1,2] [16,17,18],83)):=lI xS
  obtain⟨hx0,hx1⟩:=hx
  go_enter Tryz.func51,Tryz.ntmps51
  go_wp2_with (go_at_call 52;first|((with_reducible refine(QX _ _ HX.out).mono ?_);rintro e w' ⟨rfl,rfl⟩)|((with_reducible refine(QH _ _ HX.out).mono ?_);rintro e w' ⟨rfl,rfl⟩)|((with_reducible refine(QD _ _ HX.out).mono ?_);rintro e w' ⟨rfl,rfl⟩))
  refine(Qx _ [0,1,2] [16,17,18] _ _ _ rfl zL).mono ?_
  rintro e w1 ⟨rfl,hb1⟩
  go_wp2
  go_ret2
  exact⟨by rw[HF.out];first|done|rfl,hb1⟩
theorem gpform2_19_11:(∀(x:Int) (w:World) (hx:U32 x) (h:x%128=19) (h2:x / 4096%8=1),Calls Tryz.prog 51 #[.int .u32 x] w fun e w'=>e=.returned (.tuple #[.int .i64 (qZ x).1,.int .u8 (qZ x).2])∧Below w.heap.size w w')∧(∀(x:Int) (w:World) (hx:U32 x) (h:x%128=19) (h2:x / 4096%8=5),Calls Tryz.prog 51 #[.int .u32 x] w fun e w'=>e=.returned (.tuple #[.int .i64 (qZ x).1,.int .u8 (qZ x).2])∧Below w.heap.size w w'):=by
 refine⟨fun x w hx h h2=> ?_,fun x w hx h h2=> ?_⟩
 all_goals
  have HX:=lI hx
  have HF:Hid (qZ x=(QM (8*(x / 33554432%128)+x / 4096%8) [1,5,261] [25,26,27],72)):=lI xR
  obtain⟨hx0,hx1⟩:=hx
  go_enter Tryz.func51,Tryz.ntmps51
  go_wp2_with (go_at_call 52;first|((with_reducible refine(QX _ _ HX.out).mono ?_);rintro e w' ⟨rfl,rfl⟩)|((with_reducible refine(QH _ _ HX.out).mono ?_);rintro e w' ⟨rfl,rfl⟩)|((with_reducible refine(QD _ _ HX.out).mono ?_);rintro e w' ⟨rfl,rfl⟩))
  refine(Qx _ [1,5,261] [25,26,27] _ _ _ rfl zL).mono ?_
  rintro e w1 ⟨rfl,hb1⟩
 · go_wp2
   go_ret2
   exact⟨by rw[HF.out];simp only[h2];first|done|rfl,hb1⟩
 · go_wp2
   go_ret2
   exact⟨by rw[HF.out];simp only[h2];first|done|rfl,hb1⟩
abbrev form2_19_1:=gpform2_19_11.1
abbrev form2_19_5:=gpform2_19_11.2
theorem form2_19b(x:Int)(w:World)(hx:U32 x)(h:x%128=19)(h2:¬(x / 4096%8=1∨x / 4096%8=5)):
    Calls Tryz.prog 51 #[.int .u32 x] w fun e w'=>e=.returned (.tuple #[.int .i64 (qZ x).1,.int .u8 (qZ x).2])∧Below w.heap.size w w':=by
  have HX:=lI hx
  have HF:Hid (qZ x=(QM (x / 4096%8) [0,2,3,4,6,7] [19,20,21,22,23,24],73)):=lI xR
  obtain⟨hx0,hx1⟩:=hx
  have g1:(x / 4096%8==1)=false:=sH.2 (fun e=>h2 (.inl e))
  have g2:(x / 4096%8==5)=false:=sH.2 (fun e=>h2 (.inr e))
  clear h2
  go_enter Tryz.func51,Tryz.ntmps51
  go_wp2_with (go_at_call 52;first|((with_reducible refine(QX _ _ HX.out).mono ?_);rintro e w' ⟨rfl,rfl⟩)|((with_reducible refine(QH _ _ HX.out).mono ?_);rintro e w' ⟨rfl,rfl⟩)|((with_reducible refine(QD _ _ HX.out).mono ?_);rintro e w' ⟨rfl,rfl⟩))
  refine(Qx _ [0,2,3,4,6,7] [19,20,21,22,23,24] _ _ _ rfl zL).mono ?_
  rintro e w1 ⟨rfl,hb1⟩
  go_wp2
  go_ret2
  exact⟨by rw[HF.out];first|done|rfl,hb1⟩
theorem form2_51_0(x:Int)(w:World)(hx:U32 x)(h:x%128=51)(h2:x / 33554432%128=0):
    Calls Tryz.prog 51 #[.int .u32 x] w fun e w'=>e=.returned (.tuple #[.int .i64 (qZ x).1,.int .u8 (qZ x).2])∧Below w.heap.size w w':=by
  have HX:=lI hx
  have HF:Hid (qZ x=(QM (x / 4096%8) [0,1,2,3,4,5,6,7] [28,30,31,32,33,34,36,37],82)):=lI xR
  obtain⟨hx0,hx1⟩:=hx
  go_enter Tryz.func51,Tryz.ntmps51
  go_wp2_with (go_at_call 52;first|((with_reducible refine(QX _ _ HX.out).mono ?_);rintro e w' ⟨rfl,rfl⟩)|((with_reducible refine(QH _ _ HX.out).mono ?_);rintro e w' ⟨rfl,rfl⟩)|((with_reducible refine(QD _ _ HX.out).mono ?_);rintro e w' ⟨rfl,rfl⟩))
  refine(Qx _ [0,1,2,3,4,5,6,7] [28,30,31,32,33,34,36,37] _ _ _ rfl zL).mono ?_
  rintro e w1 ⟨rfl,hb1⟩
  go_wp2
  go_ret2
  exact⟨by rw[HF.out];first|done|rfl,hb1⟩
theorem form2_51_32(x:Int)(w:World)(hx:U32 x)(h:x%128=51)(h2:x / 33554432%128=32):
    Calls Tryz.prog 51 #[.int .u32 x] w fun e w'=>e=.returned (.tuple #[.int .i64 (qZ x).1,.int .u8 (qZ x).2])∧Below w.heap.size w w':=by
  have HX:=lI hx
  have HF:Hid (qZ x=(QM (x / 4096%8) [0,5] [29,35],82)):=lI xR
  obtain⟨hx0,hx1⟩:=hx
  go_enter Tryz.func51,Tryz.ntmps51
  go_wp2_with (go_at_call 52;first|((with_reducible refine(QX _ _ HX.out).mono ?_);rintro e w' ⟨rfl,rfl⟩)|((with_reducible refine(QH _ _ HX.out).mono ?_);rintro e w' ⟨rfl,rfl⟩)|((with_reducible refine(QD _ _ HX.out).mono ?_);rintro e w' ⟨rfl,rfl⟩))
  refine(Qx _ [0,5] [29,35] _ _ _ rfl zL).mono ?_
  rintro e w1 ⟨rfl,hb1⟩
  go_wp2
  go_ret2
  exact⟨by rw[HF.out];first|done|rfl,hb1⟩
theorem form2_51_1(x:Int)(w:World)(hx:U32 x)(h:x%128=51)(h2:x / 33554432%128=1):
    Calls Tryz.prog 51 #[.int .u32 x] w fun e w'=>e=.returned (.tuple #[.int .i64 (qZ x).1,.int .u8 (qZ x).2])∧Below w.heap.size w w':=by
  have HX:=lI hx
  have HF:Hid (qZ x=(QM (x / 4096%8) [0,1,2,3,4,5,6,7] [38,39,40,41,42,43,44,45],82)):=lI xR
  obtain⟨hx0,hx1⟩:=hx
  go_enter Tryz.func51,Tryz.ntmps51
  go_wp2_with (go_at_call 52;first|((with_reducible refine(QX _ _ HX.out).mono ?_);rintro e w' ⟨rfl,rfl⟩)|((with_reducible refine(QH _ _ HX.out).mono ?_);rintro e w' ⟨rfl,rfl⟩)|((with_reducible refine(QD _ _ HX.out).mono ?_);rintro e w' ⟨rfl,rfl⟩))
  refine(Qx _ [0,1,2,3,4,5,6,7] [38,39,40,41,42,43,44,45] _ _ _ rfl zL).mono ?_
  rintro e w1 ⟨rfl,hb1⟩
  go_wp2
  go_ret2
  exact⟨by rw[HF.out];first|done|rfl,hb1⟩
theorem form2_51_no(x:Int)(w:World)(hx:U32 x)(h:x%128=51)(h2:x / 33554432%128≠0∧x / 33554432%128≠32∧x / 33554432%128≠1):
    Calls Tryz.prog 51 #[.int .u32 x] w fun e w'=>e=.returned (.tuple #[.int .i64 (qZ x).1,.int .u8 (qZ x).2])∧Below w.heap.size w w':=by
  have HX:=lI hx
  have HF:Hid (qZ x=(-1,69)):=lI xR
  obtain⟨hx0,hx1⟩:=hx
  have g0:(x / 33554432%128==0)=false:=sH.2 h2.1
  have g1:(x / 33554432%128==32)=false:=sH.2 h2.2.1
  have g2:(x / 33554432%128==1)=false:=sH.2 h2.2.2
  clear h2
  go_enter Tryz.func51,Tryz.ntmps51
  go_wp2_with (go_at_call 52;first|((with_reducible refine(QX _ _ HX.out).mono ?_);rintro e w' ⟨rfl,rfl⟩)|((with_reducible refine(QH _ _ HX.out).mono ?_);rintro e w' ⟨rfl,rfl⟩)|((with_reducible refine(QD _ _ HX.out).mono ?_);rintro e w' ⟨rfl,rfl⟩))
  go_ret2
  exact⟨by rw[HF.out];first|done|rfl,Below.refl _ _⟩
theorem form2_47_m(x:Int)(w:World)(hx:U32 x)(h:x%128=47)(h2:x / 4096%8≠2):
    Calls Tryz.prog 51 #[.int .u32 x] w fun e w'=>e=.returned (.tuple #[.int .i64 (qZ x).1,.int .u8 (qZ x).2])∧Below w.heap.size w w':=by
  have HX:=lI hx
  have HF:Hid (qZ x=(-1,65)):=lI xR
  obtain⟨hx0,hx1⟩:=hx
  have g0:(x / 4096%8==2)=false:=sH.2 h2
  have g1:(x / 4096%8 !=2)=true:=by simpa using h2
  clear h2
  go_enter Tryz.func51,Tryz.ntmps51
  go_wp2_with (go_at_call 52;first|((with_reducible refine(QX _ _ HX.out).mono ?_);rintro e w' ⟨rfl,rfl⟩)|((with_reducible refine(QH _ _ HX.out).mono ?_);rintro e w' ⟨rfl,rfl⟩)|((with_reducible refine(QD _ _ HX.out).mono ?_);rintro e w' ⟨rfl,rfl⟩)|((with_reducible refine(US _ _ HX.out).mono ?_);rintro e w' ⟨rfl,rfl⟩)|((with_reducible refine(Qj _ _ HX.out).mono ?_);rintro e w' ⟨rfl,rfl⟩))
  go_ret2
  exact⟨by rw[HF.out];first|done|rfl,Below.refl _ _⟩
theorem form2_47_r(x:Int)(w:World)(hx:U32 x)(h:x%128=47)(h2:x / 4096%8=2)(h3:x / 134217728%32=2)(h4:x / 1048576%32≠0):
    Calls Tryz.prog 51 #[.int .u32 x] w fun e w'=>e=.returned (.tuple #[.int .i64 (qZ x).1,.int .u8 (qZ x).2])∧Below w.heap.size w w':=by
  have HX:=lI hx
  have HF:Hid (qZ x=(-1,65)):=lI (by unfold qZ;simp[h,h2,h3,h4])
  obtain⟨hx0,hx1⟩:=hx
  have g0:(x / 1048576%32==0)=false:=sH.2 h4
  have g1:(x / 1048576%32 !=0)=true:=by simpa using h4
  clear h4
  go_enter Tryz.func51,Tryz.ntmps51
  go_wp2_with (go_at_call 52;first|((with_reducible refine(QX _ _ HX.out).mono ?_);rintro e w' ⟨rfl,rfl⟩)|((with_reducible refine(QH _ _ HX.out).mono ?_);rintro e w' ⟨rfl,rfl⟩)|((with_reducible refine(QD _ _ HX.out).mono ?_);rintro e w' ⟨rfl,rfl⟩)|((with_reducible refine(US _ _ HX.out).mono ?_);rintro e w' ⟨rfl,rfl⟩)|((with_reducible refine(Qj _ _ HX.out).mono ?_);rintro e w' ⟨rfl,rfl⟩))
  go_ret2
  exact⟨by rw[HF.out];first|done|rfl,Below.refl _ _⟩
theorem form2_47_0(x:Int)(w:World)(hx:U32 x)(h:x%128=47)(h2:x / 4096%8=2)(h3:x / 134217728%32=2)(h4:x / 1048576%32=0):
    Calls Tryz.prog 51 #[.int .u32 x] w fun e w'=>e=.returned (.tuple #[.int .i64 (qZ x).1,.int .u8 (qZ x).2])∧Below w.heap.size w w':=by
  have HX:=lI hx
  have HF:Hid (qZ x=(QM (x / 134217728%32) [2,3,1,0,4,12,8,16,20,24,28] [46,47,48,49,50,51,52,53,54,55,56],65)):=lI (by unfold qZ;simp[h,h2,h3,h4])
  obtain⟨hx0,hx1⟩:=hx
  go_enter Tryz.func51,Tryz.ntmps51
  go_wp2_with (go_at_call 52;first|((with_reducible refine(QX _ _ HX.out).mono ?_);rintro e w' ⟨rfl,rfl⟩)|((with_reducible refine(QH _ _ HX.out).mono ?_);rintro e w' ⟨rfl,rfl⟩)|((with_reducible refine(QD _ _ HX.out).mono ?_);rintro e w' ⟨rfl,rfl⟩)|((with_reducible refine(US _ _ HX.out).mono ?_);rintro e w' ⟨rfl,rfl⟩)|((with_reducible refine(Qj _ _ HX.out).mono ?_);rintro e w' ⟨rfl,rfl⟩))
  refine(Qx _ [2,3,1,0,4,12,8,16,20,24,28] [46,47,48,49,50,51,52,53,54,55,56] _ _ _ rfl zL).mono ?_
  rintro e w1 ⟨rfl,hb1⟩
  go_wp2
  go_ret2
  exact⟨by rw[HF.out];first|rfl|(simp only[h3];rfl),hb1⟩
theorem form2_47_1(x:Int)(w:World)(hx:U32 x)(h:x%128=47)(h2:x / 4096%8=2)(h3:x / 134217728%32≠2):
    Calls Tryz.prog 51 #[.int .u32 x] w fun e w'=>e=.returned (.tuple #[.int .i64 (qZ x).1,.int .u8 (qZ x).2])∧Below w.heap.size w w':=by
  have HX:=lI hx
  have HF:Hid (qZ x=(QM (x / 134217728%32) [2,3,1,0,4,12,8,16,20,24,28] [46,47,48,49,50,51,52,53,54,55,56],65)):=lI (by unfold qZ;simp[h,h2,h3])
  obtain⟨hx0,hx1⟩:=hx
  have g0:(x / 134217728%32==2)=false:=sH.2 h3
  clear h3
  go_enter Tryz.func51,Tryz.ntmps51
  go_wp2_with (go_at_call 52;first|((with_reducible refine(QX _ _ HX.out).mono ?_);rintro e w' ⟨rfl,rfl⟩)|((with_reducible refine(QH _ _ HX.out).mono ?_);rintro e w' ⟨rfl,rfl⟩)|((with_reducible refine(QD _ _ HX.out).mono ?_);rintro e w' ⟨rfl,rfl⟩)|((with_reducible refine(US _ _ HX.out).mono ?_);rintro e w' ⟨rfl,rfl⟩)|((with_reducible refine(Qj _ _ HX.out).mono ?_);rintro e w' ⟨rfl,rfl⟩))
  refine(Qx _ [2,3,1,0,4,12,8,16,20,24,28] [46,47,48,49,50,51,52,53,54,55,56] _ _ _ rfl zL).mono ?_
  rintro e w1 ⟨rfl,hb1⟩
  go_wp2
  go_ret2
  exact⟨by rw[HF.out];first|done|rfl,hb1⟩
theorem form2_15(x:Int)(w:World)(hx:U32 x)(h:x%128=15):
    Calls Tryz.prog 51 #[.int .u32 x] w fun e w'=>e=.returned (.tuple #[.int .i64 (qZ x).1,.int .u8 (qZ x).2])∧Below w.heap.size w w':=by
  have HX:=lI hx
  have HF:Hid (qZ x=(QM (x / 4096%8) [0] [57],73)):=lI xS
  obtain⟨hx0,hx1⟩:=hx
  go_enter Tryz.func51,Tryz.ntmps51
  go_wp2_with (go_at_call 52;first|((with_reducible refine(QX _ _ HX.out).mono ?_);rintro e w' ⟨rfl,rfl⟩)|((with_reducible refine(QH _ _ HX.out).mono ?_);rintro e w' ⟨rfl,rfl⟩)|((with_reducible refine(QD _ _ HX.out).mono ?_);rintro e w' ⟨rfl,rfl⟩))
  refine(Qx _ [0] [57] _ _ _ rfl zL).mono ?_
  rintro e w1 ⟨rfl,hb1⟩
  go_wp2
  go_ret2
  exact⟨by rw[HF.out];first|done|rfl,hb1⟩
theorem form2_115(x:Int)(w:World)(hx:U32 x)(h:x%128=115):
    Calls Tryz.prog 51 #[.int .u32 x] w fun e w'=>e=.returned (.tuple #[.int .i64 (qZ x).1,.int .u8 (qZ x).2])∧Below w.heap.size w w':=by
  have HX:=lI hx
  have HF:Hid (qZ x=(QM (x) [115,1048691] [58,59],69)):=lI xS
  obtain⟨hx0,hx1⟩:=hx
  go_enter Tryz.func51,Tryz.ntmps51
  go_wp2_with (go_at_call 52;first|((with_reducible refine(QX _ _ HX.out).mono ?_);rintro e w' ⟨rfl,rfl⟩)|((with_reducible refine(QH _ _ HX.out).mono ?_);rintro e w' ⟨rfl,rfl⟩)|((with_reducible refine(QD _ _ HX.out).mono ?_);rintro e w' ⟨rfl,rfl⟩))
  refine(Qx _ [115,1048691] [58,59] _ _ _ rfl zL).mono ?_
  rintro e w1 ⟨rfl,hb1⟩
  go_wp2
  go_ret2
  exact⟨by rw[HF.out];first|done|rfl,hb1⟩
theorem form2_no(x:Int)(w:World)(hx:U32 x)(hn:x%128≠55∧x%128≠23∧x%128≠111∧x%128≠103∧x%128≠99∧x%128≠3∧x%128≠35∧x%128≠19∧x%128≠51∧x%128≠47∧x%128≠15∧x%128≠115):
    Calls Tryz.prog 51 #[.int .u32 x] w fun e w'=>e=.returned (.tuple #[.int .i64 (qZ x).1,.int .u8 (qZ x).2])∧Below w.heap.size w w':=by
  have HX:=lI hx
  have HF:Hid (qZ x=(-1,69)):=lI (by unfold qZ;simp[hn])
  obtain⟨hx0,hx1⟩:=hx
  have g55:(x%128==55)=false:=sH.2 om
  have g23:(x%128==23)=false:=sH.2 om
  have g111:(x%128==111)=false:=sH.2 om
  have g103:(x%128==103)=false:=sH.2 om
  have g99:(x%128==99)=false:=sH.2 om
  have g3:(x%128==3)=false:=sH.2 om
  have g35:(x%128==35)=false:=sH.2 om
  have g19:(x%128==19)=false:=sH.2 om
  have g51:(x%128==51)=false:=sH.2 om
  have g47:(x%128==47)=false:=sH.2 om
  have g15:(x%128==15)=false:=sH.2 om
  have g115:(x%128==115)=false:=sH.2 om
  clear hn
  go_enter Tryz.func51,Tryz.ntmps51
  go_wp2_with (go_at_call 52;first|((with_reducible refine(QX _ _ HX.out).mono ?_);rintro e w' ⟨rfl,rfl⟩)|((with_reducible refine(QH _ _ HX.out).mono ?_);rintro e w' ⟨rfl,rfl⟩)|((with_reducible refine(QD _ _ HX.out).mono ?_);rintro e w' ⟨rfl,rfl⟩))
  go_ret2
  exact⟨by rw[HF.out];first|done|rfl,Below.refl _ _⟩
theorem form2_any(x:Int)(w:World)(hx:U32 x):
    Calls Tryz.prog 51 #[.int .u32 x] w fun e w'=>e=.returned (.tuple #[.int .i64 (qZ x).1,.int .u8 (qZ x).2])∧Below w.heap.size w w':=by
  by_cases h55:x%128=55
  · exact form2_55 x w hx h55
  by_cases h23:x%128=23
  · exact form2_23 x w hx h23
  by_cases h111:x%128=111
  · exact form2_111 x w hx h111
  by_cases h103:x%128=103
  · exact form2_103 x w hx h103
  by_cases h99:x%128=99
  · exact form2_99 x w hx h99
  by_cases h3:x%128=3
  · exact form2_3 x w hx h3
  by_cases h35:x%128=35
  · exact form2_35 x w hx h35
  by_cases h19:x%128=19
  · by_cases h2:x / 4096%8=1
    · exact form2_19_1 x w hx h19 h2
    by_cases h3:x / 4096%8=5
    · exact form2_19_5 x w hx h19 h3
    · exact form2_19b x w hx h19 om
  by_cases h51:x%128=51
  · by_cases u0:x / 33554432%128=0
    · exact form2_51_0 x w hx h51 u0
    by_cases u1:x / 33554432%128=32
    · exact form2_51_32 x w hx h51 u1
    by_cases u2:x / 33554432%128=1
    · exact form2_51_1 x w hx h51 u2
    exact form2_51_no x w hx h51 ⟨u0,u1,u2⟩
  by_cases h47:x%128=47
  · by_cases h2:x / 4096%8=2
    · by_cases h3:x / 134217728%32=2
      · by_cases h4:x / 1048576%32=0
        · exact form2_47_0 x w hx h47 h2 h3 h4
        · exact form2_47_r x w hx h47 h2 h3 h4
      · exact form2_47_1 x w hx h47 h2 h3
    · exact form2_47_m x w hx h47 h2
  by_cases h15:x%128=15
  · exact form2_15 x w hx h15
  by_cases h115:x%128=115
  · exact form2_115 x w hx h115
  exact form2_no x w hx ⟨h55,h23,h111,h103,h99,h3,h35,h19,h51,h47,h15,h115⟩
end Go.Proofs.YtlfnddmncbkjaacGreat.W
