import Derived.Test.YtlfnddmncbkjaabGreatDoorZWUndo1
import Derived.Test.YtlfnddmncbkjaabGreatDoorZGO
set_option linter.unusedVariables false
set_option linter.unusedSimpArgs false
set_option maxRecDepth 100000
set_option maxHeartbeats 4000000
namespace Go.Proofs.YtlfnddmncbkjaabGreatDoor.W
open Go.RowKit Fb
theorem info_u32r:(Tryz.prog.info? 40).map (fun i=>(i.zero,i.size,i.bytes))=some (some (.int .u32 0),1,4):=by kernel_rfl
theorem results_ctt{P:Program}{fn:Func}{a x y:Tmp}{t:TypeId}(h:fn.results=#[.cell a t,.tmp x,.tmp y])(tmps:Array Value){p:Addr}{w:World}{v:Value}(hp:tmps.getD a undef=.pointer (some p))(hl:(loadVar t p).run P w=.ok v w):
    (results fn tmps).run P w=.ok (.tuple #[v,tmps.getD x undef,tmps.getD y undef]) w:=by
  have hp':tmps[a]?.getD undef=.pointer (some p):=by rw[←hp];simp
  simp[results,h,hp',hl,Sem.run_bind,asAddr]
theorem jy{w:World}{b o:Nat}{cs:Array Value}{t:TypeId}{v:Value}(h:w.heap[b]? =some (.cells cs t (0,0)))(hv:cs[o]? =some v):w.cell? ⟨b,o,none⟩=some v:=by
  unfold World.cell?;rw[h];simpa using hv
def undoM(m:Mach)(l:List (Int × Int)):List JD:=if qj m l=0 then QC l (qN m)else []
theorem UC:∀(l:List (Int × Int)) (s:St),(∀p∈l,p.2≤400)→(QC l s).length≤400*l.length
  |[],_,_=>sN _
  | p :: r, s, h => by
    unfold QC
    have h1:=UC r (qk p.1.toNat p.2.toNat s) (fun q hq=>h q (by simp[hq]))
    have h2:=undoPick_len (k:=p.1.toNat) p.2.toNat s
    have h3:=h p zC
    rw[sW,List.length_cons]
    omega
theorem UpA.weak{A A':Nat→Prop}{v:Value}{us:List UndD}(h:UpA A v us)(hA:∀q,A q→A' q):UpA A' v us:=⟨fun q e=>hA q (h.1 q e),fun x hx=>⟨fun q e=>hA q ((h.2 x hx).1 q e),fun q e=>hA q ((h.2 x hx).2 q e)⟩⟩
theorem UpA.of_up{B:Nat}{TD TY TL:TypeId}{w:World}{v:Value}{us:List UndD}(h:Up B TD TY TL w v us):UpA (fun q=>B≤q∧q<w.heap.size) v us:=⟨fun q e=>h.own.lt q e,fun x hx=>⟨fun q e=>(h.byt x hx).lt q e,fun q e=>(h.los x hx).lt q e⟩⟩
structure UB (w:World) (bp bh hc rp:Nat) (vm vo v:Value) (us:List UndD) (wr:World) (s:St) (l:List JD):Prop where
  bd:Bd bp bh hc vm vo 40 wr s
  rc:Rc rp bp wr v us
  g1:bp<rp
  eq:us.map (·.d)=l
  bel:Below w.heap.size w wr
  z:wr.heap[w.heap.size+1]? =some (.cells #[.slice none 0 0,.slice none 0 0,.slice none 0 0,.int .i64 0] 50 (0,0))
  beg:Beg w.heap.size 5 43 bh hc vm wr
structure UK (w:World) (bp bh hc rp cp k N n:Nat) (vm vo v:Value) (us:List UndD) (o:List Int) (fr tw:Int) (s0:St) (pb:Nat) (wx:World) (s1:St) (l0:List JD) (j:Nat):Prop where
  wk:Wk bp bh hc cp k vm vo 40 s0.out o fr tw wx s1
  rc:Rc rp bp wx v us
  ua:UpA (fun q=>q≠cp) v us
  good:s1.Good
  out:s1.out=s0.out++o
  hl:s1.harts.length=s0.harts.length
  st:s1.steps≤400*n+j
  ol:o.length≤j
  ul:us.length≤400*n+j
  pk:qk k N s0=qk k (N-j) s1
  us:us.map (·.d)++Qh k (N-j) s1=l0++Qh k N s0
  fr:U32 fr
  tw:U32 tw
  bel:Below w.heap.size w wx
  z:wx.heap[w.heap.size+1]? =some (.cells #[.slice none 0 0,.slice none 0 0,.slice none 0 0,.int .i64 0] 50 (0,0))
  p:wx.heap[pb]? =some (.cells #[.int .i64 k,.int .i64 N] 47 (0,0))
  beg:Beg w.heap.size 5 43 bh hc vm wx
theorem UK.step{w wx w':World}{bp bh hc rp cp k N n pb j:Nat}{vm vo v:Value}{us:List UndD}{o:List Int}{fr tw:Int}{s0 s1:St}{l0:List JD}{e:Ending}(h:UK w bp bh hc rp cp k N n vm vo v us o fr tw s0 pb wx s1 l0 j)
    (hst:(s1.hart k).state=0) (hj:j<N) (g1:w.heap.size+2≤bh) (g2:∀q,vm.ownBlock=some q→w.heap.size+2≤q) (g3:bp<rp) (g4:rp<pb) (g5:pb<cp)
    (hp:UStepPost rp bp bh hc cp k vm vo s0.out o wx s1 v us e w'):∃v' x,UK w bp bh hc rp cp k N n vm vo v' (us++[x]) (o++(je k s1).out) (je k s1).fr (je k s1).tw s0 pb w' (goM k s1) l0 (j+1):=by
  obtain⟨-,v',x,hd,hW,hR,hA,hF,hS⟩:=hp
  have b1:=h.wk.b1
  have b2:=h.wk.b2
  have hcl:=h.wk.clt
  have hml:=h.good.wf.mlen
  have hvb:∀q,v.ownBlock=some q→rp<q∧∃cs f,wx.heap[q]? =some (.cells cs 136 f):=fun q e=>⟨(h.rc.up.own.lt q e).1,Qj h.rc.up.own e⟩
  have hmlt:=h.wk.mlt
  have hn:∀q,(q<w.heap.size+2∨q=pb)→¬UndS rp bp bh cp vm v q:=fun q hq hS=>by
    rcases hS with e|e|e|e|e|e
    · omega
    · omega
    · omega
    · have:=g2 q e
      have:=hmlt q e
      omega
    · obtain⟨h1,cs,f,h2⟩:=hvb q e
      rcases hq with hq|rfl
      · omega
      · rw[h.p]at h2;cases h2
    · omega
  have hf:=goS_fin (s1.hart k) s1.mem (h.good.hart k) hst
  have hwd:(je k s1).Wf:=goS_wf (h.good.wf.core k) zC
  have hz:w.heap.size+1<wx.heap.size:=qR h.z
  have ho1:(je k s1).out.length≤1:=hf.ol
  refine⟨v',x,hW,hR,hA,goM_good h.good hst, ?_,by rw[goM_len];exact h.hl, ?_, ?_, ?_, ?_, ?_,hwd.fr,hwd.tw,h.bel.trans (hF.below (fun q hq=>hn q (.inl om)) om),(hF.block _ hz (hn _ (.inl om))).trans h.z,(hF.block _ (qR h.p) (hn _ (.inr rfl))).trans h.p,h.beg.shp hS b1 (fun q e=>(hmlt q e).1)⟩
  · show s1.out++(je k s1).out=_
    rw[h.out,List.append_assoc]
  · have:=h.st
    show s1.steps+1≤_
    omega
  · have:=h.ol
    rw[sW]
    omega
  · have:=h.ul
    rw[sW,List.length_singleton]
    omega
  · rw[h.pk,show N-j=(N-(j+1))+1 by omega]
    conv=>lhs;unfold qk
    rw[if_pos hst]
  · rw[←h.us,show N-j=(N-(j+1))+1 by omega]
    conv=>rhs;unfold Qh
    rw[if_pos hst,List.map_append,List.append_assoc,List.map_singleton,hd,List.singleton_append]
theorem UK.finish{w wx w1:World}{bp bh hc rp cp k N n pb j:Nat}{vm vo v v3:Value}{us:List UndD}{o:List Int}{fr tw:Int}{s0 s1:St}{l0:List JD}(h:UK w bp bh hc rp cp k N n vm vo v us o fr tw s0 pb wx s1 l0 j)
    (g1:w.heap.size+2≤bh) (g3:bp<rp) (hown:w1.ownsRow (bp+1) 40 1 v3 (s0.out.length+o.length) (s0.out.map (Value.int .u32)++o.map (Value.int .u32))) (hg:wx.drew.grownBy w1 vo.ownBlock) (l1:List JD) (hl1:us.map (·.d)=l1):
    UB w bp bh hc rp vm v3 v us (w1.setCell ⟨bp,2,none⟩ v3) s1 l1∧wx.heap.size≤(w1.setCell ⟨bp,2,none⟩ v3).heap.size:=by
  have b1:=h.wk.b1
  obtain⟨f1,f2,f3,f4⟩:=h.wk.finish (z:=w.heap.size+1) h.out h.bel om om hown hg
  refine⟨⟨f1, ?_,g3,hl1,f2,f3.trans h.z,h.beg.shp (C:=bp) ((Shp.of_grown hg (by have h1:=h.wk.b2;have h2:=h.wk.clt;show bp≤wx.heap.size;omega) (fun k e=>by have:=(h.wk.own.lt k e).1;omega)).set _ _) b1 (fun q e=>(h.wk.mlt q e).1)⟩,f4⟩
  have hA:=UpA.of_up h.rc.up
  obtain⟨cs0,f0,ht0⟩:=h.rc.ty
  refine h.rc.kept hA (fun q h1 h2=> ?_)
  have hqb:q≠bp:=by rcases h2 with h2|h2<;>omega
  refine(sT _ _ _ _ (by show q≠bp;exact hqb)).trans (hg.block q h1 (fun e=> ?_))
  obtain⟨cs,f,h3⟩:=Qj h.wk.own e.symm
  rcases h2 with h2|⟨_,_,h2⟩
  · rw[h2,ht0]at h3;cases h3
  · exact h2 cs f h3
theorem urun_own(vm0 vh0 vs:Value)(m:Mach)(wf:m.Wf)(l:List (Int × Int))(w:World)(hm:jw w vm0 vh0 m)(hs:Picks w vs l)(hp:∀p∈l,QY p.1∧QY p.2):
    Calls Tryz.prog 26 #[.agg #[vm0,vh0],vs] w fun e w'=>(∃vm vh vo v us,e=.returned (.tuple #[.agg #[vm,vh,vo,.int .i64 (runM m l).steps],v,.int .i64 (qj m l)])∧jd w' vm vh vo (runM m l)∧Up w.heap.size 136 5 142 w' v us∧us.map (·.d)=undoM m l∧(qj m l=0→w'.ownsRow w.heap.size 5 1 vm (runM m l).mem.length ((runM m l).mem.map (Value.int .u8))∧w'.ownsRow w.heap.size 43 37 vh (runM m l).harts.length ((runM m l).harts.flatMap qJ)∧∀q,vo.ownBlock=some q→w.heap.size≤q))∧Below w.heap.size w w':=by
  obtain⟨aom,capm,rfl,hcm,hmm,_,_⟩:=hm.1.open
  obtain⟨aoh,caph,rfl,hch,hmh,_,_⟩:=hm.2.open (fun h hh=>qG (wf.harts h hh)) om
  obtain⟨aos,caps,rfl,hcs,hms,_,hos⟩:=hs.open (fun _ _=>rfl) om
  unfold maxLen at hmm hmh hms
  obtain⟨w1,hw1⟩:∃w1,w1=(w.alloc (.cells #[.slice aom m.mem.length capm,.slice aoh m.harts.length caph] 30)).alloc (.cells #[.slice none 0 0,.slice none 0 0,.slice none 0 0,.int .i64 0] 50):=⟨_,rfl⟩
  have hb1:Below w.heap.size w w1:=zI
  have hs1:w1.heap.size=w.heap.size+2:=zO
  have c0:w1.cell? ⟨w.heap.size,0,none⟩=some (.slice aom m.mem.length capm):=zA
  have c1:w1.cell? ⟨w.heap.size,1,none⟩=some (.slice aoh m.harts.length caph):=zA
  have HZ:Hid (w1.heap[w.heap.size+1]? =some (.cells #[.slice none 0 0,.slice none 0 0,.slice none 0 0,.int .i64 0] 50 (0,0))):=lI (by
    have:=sP (w.alloc (.cells #[.slice aom m.mem.length capm,.slice aoh m.harts.length caph] 30)) (.cells #[.slice none 0 0,.slice none 0 0,.slice none 0 0,.int .i64 0] 50)
    rw[World.size_alloc]at this
    rw[hw1];exact this)
  have HM:=lI (hm.below hb1)
  have HS:=lI (hs.below hb1)
  have HOS:=lI hos
  have HP:=lI hp
  have HMAY:=lI (uD _ _ _ m wf l w1 (hm.below hb1) (hs.below hb1) hp)
  have HW1:=lI hw1
  clear hw1 hm hs hos hp
  by_cases hq:qj m l=0
  · have hr:runM m l=qw l (qN m):=if_pos hq
    have hu:undoM m l=QC l (qN m):=if_pos hq
    have hpt:=jx hq
    rw[hr,hu]
    rw[hq]at HMAY ⊢
    have HBG:=lI (fun W hW=>begin_own (.slice aom m.mem.length capm) (.slice aoh m.harts.length caph) m wf W hW om om om)
    have HG:=lI (Jw wf hq)
    obtain⟨p1,p2,p3,p4,p5,p6⟩:=hpt
    have HP6:=lI p6
    obtain⟨sF,hsF⟩:∃s,s=qw l (qN m):=⟨_,rfl⟩
    obtain⟨uF,huF⟩:∃s,s=QC l (qN m):=⟨_,rfl⟩
    rw[←hsF,←huF]
    have HSF:=lI hsF
    have HUF:=lI huF
    clear hq hr hu p4 p6 hsF huF
    go_enter Tryz.func26,Tryz.ntmps26
    go_upto_region 1 with(fail)
    rw[←HW1.out]
    go_wp2_with fail
    refine HMAY.out.mono ?_
    rintro e w2 ⟨rfl,hb2⟩
    have hs2:=hb2.size
    have l1:w.heap.size<w1.heap.size:=om
    have d0:=(hb2.cell (p:=⟨w.heap.size,0,none⟩) l1).trans c0
    have d1:=(hb2.cell (p:=⟨w.heap.size,1,none⟩) l1).trans c1
    have HZ2:=lI ((hb2.block (w.heap.size+1) om).trans HZ.out)
    have HM2:=lI (HM.out.below hb2)
    have HS2:=lI (HS.out.below hb2)
    have HB2:=lI (hb1.trans (hb2.mono om))
    clear c0 c1 hb1 hb2 HM HS HZ HMAY
    go_wp2_with fail
    refine(HBG.out _ HM2.out).mono ?_
    rintro e w3 ⟨⟨bp,bh,hc,vm,rfl,hbd,hbh,hvm,hob,hoh⟩,hb3⟩
    have hs3:=hb3.size
    have HZ3:=lI ((hb3.block (w.heap.size+1) om).trans HZ2.out)
    have HS3:=lI (HS2.out.below hb3)
    have HB3:=lI (HB2.out.trans (hb3.mono om))
    have HVM:Hid (∀q,vm.ownBlock=some q→w.heap.size+2≤q):=lI (fun q e=>by have:=hvm q e;omega)
    have HBH:Hid (w.heap.size+2≤bh):=lI om
    obtain⟨rp,hrp⟩:∃r,r=w3.heap.size:=⟨_,rfl⟩
    obtain⟨wk,hwk⟩:∃x,x=w3.alloc (.cells #[.pointer (some ⟨bp,0,none⟩),.slice none 0 0] 108):=⟨_,rfl⟩
    have hbk:Below w3.heap.size w3 wk:=by rw[hwk];exact Below.alloc br (sN _) _
    have hrb:wk.heap[rp]? =some (.cells #[.pointer (some ⟨bp,0,none⟩),.slice none 0 0] 108 (0,0)):=by rw[hwk,hrp];exact sP _ _
    have HRP:Hid (bp<rp):=lI (by rw[hrp];exact hbd.lt)
    have HUB:Hid (UB w bp bh hc rp vm (.slice none 0 0) (.slice none 0 0) [] wk (qN m) []):=lI ⟨hbd.below hbk,⟨⟨_,_,hrb⟩,(fun j hj=>by
        have hj2:j<2:=hj
        rcases j with _|_|j
        · exact jy (o:=0) hrb rfl
        · exact jy (o:=1) hrb rfl
        · omega),fun o=>by simp[World.frozen?,hrb],Up.nil _⟩,HRP.out,rfl,HB3.out.trans (hbk.mono om),(hbk.block _ om).trans HZ3.out,Beg.below ⟨w3,_,_,_,_,qe hob om,qe hoh om,fun _ _=>QH.refl _⟩ hbk⟩
    have HSK:=lI (HS3.out.below hbk)
    have hsk:rp+1=wk.heap.size:=by rw[hwk,hrp];simp
    have HWK0:=lI hwk
    clear d0 d1 hb3 hbd hvm hob hoh HZ2 HS2 HM2 HB2 HZ3 HS3 HB3 hbk hrb hwk hbh
    go_upto_region 5 with(fail)
    rw[←HWK0.out,←hrp]
    clear hrp
    go_wp2_with fail
    go_loopw [26] (fun i wr=>∃n:Nat,i=.int .i64 n∧n≤l.length∧wk.heap.size≤wr.heap.size∧∃vo v us,Hid (UB w bp bh hc rp vm vo v us wr (qw (l.take n) (qN m)) (QC (l.take n) (qN m)))) (fun i _=>l.length-(intOf i).toNat)
    case atStart=>exact⟨0,rfl,om,sN _,.slice none 0 0,.slice none 0 0,[],lI HUB.out⟩
    case round=>
      obtain⟨n,rfl,hn,hsz,vo,v,us,HR⟩:=hrel
      have HG0:Hid ((qw (l.take n) (qN m)).Good):=lI (playM_good _ HG.out)
      have HL0:Hid ((qw (l.take n) (qN m)).harts.length=m.harts.length):=lI (playM_len _ _)
      have HT0:Hid ((qw (l.take n) (qN m)).steps≤400*n):=lI (by
        have:=uC (l.take n) (qN m) (fun p hp=>(HP6.out p (List.mem_of_mem_take hp)).2.2.2)
        rw[List.length_take,Nat.min_eq_left hn]at this
        have e:(qN m).steps=0:=rfl
        omega)
      have HUL:Hid (us.length≤400*n):=lI (by
        have:=UC (l.take n) (qN m) (fun p hp=>(HP6.out p (List.mem_of_mem_take hp)).2.2.2)
        rw[List.length_take,Nat.min_eq_left hn,←HR.out.eq,sX]at this
        exact this)
      by_cases hlt:n<l.length
      · obtain⟨wo,rfl⟩:∃wo:World,wo=wr:=⟨_,rfl⟩
        obtain⟨b,off,rfl,hbl,hel⟩:=HOS.out zQ
        have hat:=(hel n hlt).below HR.out.bel
        have d0:=hat.get (j:=0) (v:=.int .i64 l[n].1) rfl
        have d1:=hat.get (j:=1) (v:=.int .i64 l[n].2) rfl
        simp only[Nat.add_zero]at d0
        have HNX:Hid (qw (l.take (n+1)) (qN m)=qk l[n].1.toNat l[n].2.toNat (qw (l.take n) (qN m))∧QC (l.take (n+1)) (qN m)=QC (l.take n) (qN m)++Qh l[n].1.toNat l[n].2.toNat (qw (l.take n) (qN m))):=lI (by
          rw[List.take_succ_eq_append_getElem hlt,UQ,undoPlay_append]
          exact⟨rfl,by show _++(Qh _ _ _++[])=_;rw[List.append_nil]⟩)
        obtain⟨q1,q2,q3,q4⟩:=HP6.out _ (sR hlt)
        obtain⟨s0,hs0⟩:∃s,s=qw (l.take n) (qN m):=⟨_,rfl⟩
        obtain⟨sn,hsn⟩:∃s,s=qw (l.take (n+1)) (qN m):=⟨_,rfl⟩
        obtain⟨l0,hl0⟩:∃s,s=QC (l.take n) (qN m):=⟨_,rfl⟩
        obtain⟨ln,hln⟩:∃s,s=QC (l.take (n+1)) (qN m):=⟨_,rfl⟩
        rw[←hs0]at HR HG0 HL0 HT0 HNX
        rw[←hsn]at HNX
        rw[←hl0]at HR HNX
        rw[←hln]at HNX
        have HSN:=lI hsn
        have HLN:=lI hln
        clear hel hat hs0 hsn hl0 hln
        obtain⟨x,hx⟩:∃x,x=l[n].1:=⟨_,rfl⟩
        obtain⟨y,hy⟩:∃y,y=l[n].2:=⟨_,rfl⟩
        rw[←hx]at d0 HNX q1 q2
        rw[←hy]at d1 HNX q3 q4
        clear hx hy
        obtain⟨k,rfl⟩:=sQ q1
        obtain⟨N,rfl⟩:=sQ q3
        rw[sV,sV]at HNX
        have hk:k<m.harts.length:=om
        have hN:N≤400:=om
        clear q1 q2 q3 q4
        obtain⟨w4,hw4⟩:∃w4,w4=wo.alloc (.cells #[.int .i64 k,.int .i64 N] 47):=⟨_,rfl⟩
        have hb4:Below wo.heap.size wo w4:=by rw[hw4];exact Fb.blw
        have hs4:wo.heap.size+1≤w4.heap.size∧w4.heap.size≤wo.heap.size+1:=by rw[hw4];simp
        obtain⟨hs4,hs4'⟩:=hs4
        have t0:w4.cell? ⟨wo.heap.size,0,none⟩=some (.int .i64 k):=zJ
        have HT4:Hid (w4.heap[wo.heap.size]? =some (.cells #[.int .i64 k,.int .i64 N] 47 (0,0))):=lI (by rw[hw4];exact sP _ _)
        have hrpo:rp<wo.heap.size:=by have:=qR HR.out.rc.ty.choose_spec.choose_spec;exact this
        have HBD4:=lI (HR.out.bd.below hb4)
        have HRC4:Hid (Rc rp bp w4 v us):=lI (HR.out.rc.kept (UpA.of_up HR.out.rc.up) (fun q h1 _=>hb4.block q h1))
        have HUA:Hid (UpA (fun q=>q<wo.heap.size) v us):=lI (UpA.weak (UpA.of_up HR.out.rc.up) (fun q h=>h.2))
        have HB4:=lI (HR.out.bel.trans (hb4.mono (HR.out.bel.size)))
        have HZ4:=lI ((hb4.block (w.heap.size+1) (qR HR.out.z)).trans HR.out.z)
        have HEQ:=lI HR.out.eq
        have HBE4:=lI (HR.out.beg.below hb4)
        have HCO:=lI (core_any k w4.drew (HBD4.out.below (Below.drew br)) (by rw[HL0.out];exact hk) (by rw[HL0.out];omega))
        have e0:=HRC4.out.at_.get (j:=0) rfl
        simp only[sM]at e0
        have HW4:=lI hw4
        clear hw4 hb4 HR
        go_upto_region 8 with(fail)
        rw[←HW4.out]
        refine wp_region_held_drew (S:=fun W=>W.cell? ⟨rp,0,none⟩=some (.pointer (some ⟨bp,0,none⟩))∧W.cell? ⟨wo.heap.size,0,none⟩=some (.int .i64 k)) kr ⟨e0,t0⟩ (fun hHeld=> ?_)
        refine tak 0 (.pointer (some ⟨rp,0,none⟩)) ?_
        try simp only[sA,sB,sC,Act.put,sD,sE,sG]
        refine tak 1 (.pointer (some ⟨rp,0,none⟩)) ?_
        try simp only[sA,sB,sC,Act.put,sD,sE,sG]
        refine tak 2 (.pointer (some ⟨rp,0,none⟩)) ?_
        try simp only[sA,sB,sC,Act.put,sD,sE,sG]
        refine tak 3 (.pointer (some ⟨bp,0,none⟩)) ?_
        try simp only[sA,sB,sC,Act.put,sD,sE,sG]
        refine tak 4 (.pointer (some ⟨wo.heap.size,0,none⟩)) ?_
        try simp only[sA,sB,sC,Act.put,sD,sE,sG]
        refine tak 5 (.int .i64 k) ?_
        try simp only[sA,sB,sC,Act.put,sD,sE,sG]
        refine wpAnyH_ready (rs:=[6]) kr zC ?_
        refine sS rfl (fun K hK=> ?_) AllReadyH.nil
        go_simp
        refine HCO.out.mono ?_
        rintro e w5 ⟨nd,rfl,hw5⟩
        obtain⟨cp,hcp⟩:∃cp,cp=w4.heap.size:=⟨_,rfl⟩
        have hds:w4.drew.heap.size=cp:=hcp.symm
        have hwk:=((HBD4.out.below (Below.drew br)).start (tC:=113) (k:=k) HG0.out.wf (by rw[HL0.out];exact hk)).drewN nd
        rw[←hw5]at hwk
        rw[hds]at hwk ⊢
        have hb5:Below w4.heap.size w4 w5:=by rw[hw5];exact qB (Below.alloc (Below.drew br) (sN _) _) _
        have hs5:=hb5.size
        have x0:=(hb5.cell (p:=⟨rp,0,none⟩) (qD e0)).trans e0
        have x1:=(hb5.cell (p:=⟨wo.heap.size,0,none⟩) (qD t0)).trans t0
        have HUK:Hid (UK w bp bh hc rp cp k N n vm vo v us [] 0 0 s0 wo.heap.size w5 s0 l0 0):=lI ⟨hwk,HRC4.out.kept (UpA.of_up HRC4.out.up) (fun q h1 _=>hb5.block q h1),UpA.weak HUA.out (fun q h=>om),HG0.out,by simp,rfl,by have:=HT0.out;omega,sN _,by have:=HUL.out;omega,rfl,by rw[HEQ.out];rfl,⟨by decide,by decide⟩,⟨by decide,by decide⟩,HB4.out.trans (hb5.mono (HB4.out.size)),(hb5.block _ (qR HZ4.out)).trans HZ4.out,(hb5.block _ (qR HT4.out)).trans HT4.out,HBE4.out.below hb5⟩
        have HWO:Hid (wo.heap.size<cp∧w4.heap.size≤w5.heap.size):=lI ⟨om,om⟩
        refine hK.out _ _ ⟨x0,x1⟩ (fun hHeld2=> ?_)
        clear hK K
        refine tak 7 (.pointer (some ⟨cp,0,none⟩)) ?_
        try simp only[sA,sB,sC,Act.put,sD,sE,sG]
        refine wpAnyH_done kr ?_ _
        clear HBE4 hHeld hHeld2 x0 x1 e0 t0 hwk hb5 HCO HBD4 HRC4 HUA HB4 HZ4 HEQ HUL HT4 HW4 hw5 hcp hds
        go_wp2_with fail
        go_loopw [12] (fun i wx=>∃j:Nat,i=.int .i64 j∧j≤N∧w5.heap.size≤wx.heap.size∧∃(s1:St) (v:Value) (us:List UndD) (o:List Int) (fr tw:Int),Hid (UK w bp bh hc rp cp k N n vm vo v us o fr tw s0 wo.heap.size wx s1 l0 j)) (fun i _=>N-(intOf i).toNat)
        case atStart=>exact⟨0,rfl,om,sN _,s0,v,us,[],0,0,lI HUK.out⟩
        case round=>
          obtain⟨j,rfl,hj,hsx,s1,v,us,o,fr,tw,HI⟩:=hrel
          have hp0:wr.cell? ⟨cp,0,none⟩=some (.pointer (some ⟨bh,k*37,none⟩)):=HI.out.wk.core.ptr
          have hg35:wr.cell? ⟨bh,k*37+35,none⟩=some (.int .i64 (s1.hart k).state):=HI.out.wk.core.hart.get (jg (HI.out.good.wf.hart k))
          have t0:=jy (o:=0) HI.out.p rfl
          have t1:=jy (o:=1) HI.out.p rfl
          obtain⟨st,hst⟩:∃x,x=(s1.hart k).state:=⟨_,rfl⟩
          rw[←hst]at hg35
          have HST:=lI hst
          clear hst
          by_cases hgo:j<N∧st=0
          · obtain⟨hjN,rfl⟩:=hgo
            have HSTEP:=lI (ustep_any HI.out.wk HI.out.rc HI.out.ua HI.out.good HST.out.symm HI.out.fr HI.out.tw (fun x hx=>HI.out.good.wf.out x (by rw[HI.out.out];simp[hx])) (by rw[HI.out.hl,HL0.out];omega) HRP.out (by have:=HWO.out;omega) (by have:=HI.out.ul;omega) (by have:=HI.out.st;omega) (by have:=HI.out.ol;omega))
            go_upto_region 12 with(fail)
            clear hg35
            go_wp2_with fail
            refine HSTEP.out.mono ?_
            rintro e w7 hpost
            obtain rfl:=hpost.1
            obtain⟨v',x',hnext⟩:=HI.out.step HST.out.symm hjN HBH.out HVM.out HRP.out hrpo HWO.out.1 hpost
            have hs7:=hpost.2.choose_spec.choose_spec.2.2.2.2.1.size
            have HN:=lI hnext
            clear hpost hnext hp0 t0 t1
            go_wp2_with fail
            go_roundw
            case rel=>exact⟨j+1,by simp,om,om,_,v',us++[x'],_,_,_,lI HN.out⟩
            case measure=>simp[intOf];omega
          · have hfin:qk k N s0=s1∧us.map (·.d)=l0++Qh k N s0:=by
              by_cases e:j<N
              · have hst:¬(s1.hart k).state=0:=fun e2=>hgo ⟨e,by rw[HST.out];exact e2⟩
                have:=HI.out.us
                rw[undoPick_stop hst,List.append_nil]at this
                exact⟨by rw[HI.out.pk,JQ hst],this⟩
              · obtain rfl:j=N:=om
                have:=HI.out.us
                rw[Nat.sub_self]at this
                exact⟨by rw[HI.out.pk,Nat.sub_self];rfl,(List.append_nil _).symm.trans this⟩
            have hs1:qw (l.take (n+1)) (qN m)=s1:=by rw[←HSN.out,HNX.out.1,hfin.1]
            have hus:us.map (·.d)=QC (l.take (n+1)) (qN m):=by rw[←HLN.out,HNX.out.2,hfin.2]
            obtain⟨v2,cv2,own2⟩:=HI.out.wk.core.row
            have cv2':wr.cell? ⟨cp,2,none⟩=some v2:=cv2
            have c2:=HI.out.wk.c2
            have f2:=HI.out.wk.frz 2
            have e0:=HI.out.rc.at_.get (j:=0) rfl
            simp only[sM]at e0
            have hol:s0.out.length+o.length≤200000:=by
              have h1:=HI.out.good.ol
              have h2:=HI.out.st
              rw[HI.out.out,sW]at h1
              omega
            have hex:j=N∨(j<N∧¬st=0):=by
              by_cases e:j<N
              · exact .inr ⟨e,fun e2=>hgo ⟨e,e2⟩⟩
              · exact .inl om
            have HS1:=lI hs1
            have HUS:=lI hus
            have hlo:∀g,vo.ownBlock=some g→bp+1≤g:=fun g e=>(HI.out.wk.own.lt g e).1
            have hfar:Hid (some bp≠vo.ownBlock):=lI (fun e=>by have:=hlo bp e.symm;omega)
            have hbw:Hid (bp<wr.heap.size):=lI (Nat.lt_trans HI.out.wk.b2 HI.out.wk.clt)
            have hfr:Hid (some rp≠vo.ownBlock):=lI (fun e=>by
              obtain⟨cs,f,h3⟩:=Qj HI.out.wk.own e.symm
              obtain⟨cs0,f0,ht0⟩:=HI.out.rc.ty
              rw[ht0]at h3;cases h3)
            have hrl:Hid (rp<wr.heap.size):=lI (by obtain⟨cs0,f0,ht0⟩:=HI.out.rc.ty;exact qR ht0)
            have HOL:=lI hol
            have HSL:=lI ((ql own2).below (Below.drew br))
            have HOW:=lI HI.out.wk.own.drew
            have HSZ:Hid (wk.heap.size≤wr.heap.size):=lI (by have:=HWO.out;omega)
            clear cv2 own2 hfin hs1 hus hlo hol HNX HSN HLN hgo
            obtain⟨i0,hi,hz0,hz1,hz2⟩:=info_parts info_u32r
            rcases hex with rfl|⟨hjN,hst0⟩
            all_goals
              go_upto_region 13 with(fail)
              clear hp0 hg35 t0 t1
              go_region_law (
                refine Qs zK _ _ _ zK (bp+1) 40 i0 _ 1 4 Tryz.underlying36 hi hz0 hz1 hz2 rfl om vo s0.out.length _ zK HOW.out
                    v2 o.length (o.map (Value.int .u32)) zK HSL.out xY (by have:=HOL.out;omega) (by have:=HOL.out;unfold maxLen;omega) (by have:=hbw.out;show _≤wr.heap.size;omega) ?_
                intro v3 w9 hown3 hgrow
                obtain⟨ao3,cp3,rfl⟩:=qE hown3
                have ee:w9.cell? ⟨rp,0,none⟩=some (.pointer (some ⟨bp,0,none⟩)):=(hgrow.cell_far _ hrl.out hfr.out).trans e0
                have e0:w9.cell? ⟨bp,2,none⟩=some vo:=(hgrow.cell_far _ hbw.out hfar.out).trans c2
                have e1:w9.frozen? ⟨bp,2,none⟩=false:=(hgrow.frozen_far _ hbw.out hfar.out).trans f2
                have HO3:=lI hown3
                have HG3:=lI hgrow
                clear hown3 hgrow)
            all_goals
              go_wp2_with fail
              go_roundw
              case rel=>
                obtain⟨f1,f4⟩:=HI.out.finish HBH.out HRP.out HO3.out HG3.out _ HUS.out
                rw[←HS1.out]at f1
                exact⟨n+1,by simp,hlt,Nat.le_trans HSZ.out f4,_,_,_,lI f1⟩
              case measure=>simp[intOf];omega
      · obtain rfl:n=l.length:=om
        rw[List.take_length]at HR HG0
        rw[←HSF.out,←HUF.out]at HR
        rw[←HSF.out]at HG0
        have c0:=HR.out.bd.c0
        have c1:=HR.out.bd.c1
        have c2:=HR.out.bd.c2
        have c3:=HR.out.bd.c3
        have e0:=HR.out.rc.at_.get (j:=0) rfl
        have e1:=HR.out.rc.at_.get (j:=1) rfl
        simp only[sM]at e0 e1
        have hZ:=HR.out.z
        have y0:=jy (o:=0) hZ rfl
        have y1:=jy (o:=1) hZ rfl
        have y2:=jy (o:=2) hZ rfl
        have y3:=jy (o:=3) hZ rfl
        have fy:∀o,wr.frozen? ⟨w.heap.size+1,o,none⟩=false:=fun o=>by simp[World.frozen?,hZ]
        have fy0:=fy 0
        have fy1:=fy 1
        have fy2:=fy 2
        have fy3:=fy 3
        have ht:wr.there (w.heap.size+1) 0 4:=qt hZ rfl
        obtain⟨ax,cx,rfl⟩:∃ao c,vm=.slice ao sF.mem.length c:=by obtain⟨ao,c,e,_⟩:=HR.out.bd.bytes.open;exact⟨ao,c,e⟩
        obtain⟨ay,cy,rfl⟩:=qE HR.out.bd.own
        obtain⟨av,cv,rfl⟩:=qE HR.out.rc.up.own
        have hb5:bh<bp:=HR.out.bd.b1
        have hbge:=HBH.out
        have hrge:=HRP.out
        have hrp1:¬rp=w.heap.size+1:=om
        have hrp2:¬w.heap.size+1=rp:=om
        have hbp1:¬bp=w.heap.size+1:=om
        have HHT:=lI ht
        clear HSF HUF HG HUB HT0 HL0 HUL hZ fy ht
        go_wp2_with fail
        go_region
        go_wp2_with fail
        obtain⟨wz,hwz0⟩:∃wz,wz=((((wr.setCell ⟨w.heap.size+1,0,none⟩ (.slice ax sF.mem.length cx)).setCell ⟨w.heap.size+1,1,none⟩ (.slice (some ⟨bh,0,none⟩) sF.harts.length hc)).setCell ⟨w.heap.size+1,2,none⟩ (.slice ay sF.out.length cy)).setCell ⟨w.heap.size+1,3,none⟩ (.int .i64 sF.steps)).drew:=⟨_,rfl⟩
        rw[←hwz0]
        obtain⟨A,hA⟩:∃A:Array Value,A=#[.slice ax sF.mem.length cx,.slice (some ⟨bh,0,none⟩) sF.harts.length hc,.slice ay sF.out.length cy,.int .i64 sF.steps]:=⟨_,rfl⟩
        have hA4:A.size=4:=by rw[hA];rfl
        have hwz:wz=(wr.setCells (w.heap.size+1) 0 A.toList).drew:=by rw[hwz0,hA];rfl
        clear hwz0
        have hat1:At wz (w.heap.size+1) 0 A.toList:=by rw[hwz];refine At.below ?_ (Below.drew br);exact qv (by rw[Array.length_toList,hA4];exact HHT.out)
        have hi1:(Tryz.prog.info? 50).map (·.size)=some A.size:=by rw[hA4];kernel_rfl
        have hsh:jd wz (.slice ax sF.mem.length cx) (.slice (some ⟨bh,0,none⟩) sF.harts.length hc) (.slice ay sF.out.length cy) sF:=by
          rw[hwz]
          have hdr:∀W:World,jd W (.slice ax sF.mem.length cx) (.slice (some ⟨bh,0,none⟩) sF.harts.length hc) (.slice ay sF.out.length cy) sF→jd W.drew (.slice ax sF.mem.length cx) (.slice (some ⟨bh,0,none⟩) sF.harts.length hc) (.slice ay sF.out.length cy) sF:=fun W h=>⟨h.mach.below (Below.drew br),h.out.below (Below.drew br)⟩
          refine hdr _ ((HR.out.bd.shown HG0.out.wf.harts).setCells (fun k e=> ?_) (fun k e=> ?_) (fun k e=> ?_) _ _)
          · have:=HVM.out k e;omega
          · have e2:bh=k:=by cases e;rfl
            have:=HBH.out
            omega
          · have:=(HR.out.bd.own.lt k e).1
            have:=HBH.out
            omega
        have hbw:Below w.heap.size w wz:=by rw[hwz];exact Below.drew (qL om _ _ _ HR.out.bel)
        have hup:Up w.heap.size 136 5 142 wz (.slice av us.length cv) us:=by
          have hrb:=HBH.out
          have hrp2:=HRP.out
          rw[hwz]
          refine(HR.out.rc.up.keep (fun q h1 h2 _=> ?_)).mono om
          show(wr.setCells (w.heap.size+1) 0 A.toList).heap[q]? =_
          exact qT om _ _ _
        have hown:=(HR.out.beg.on (w':=wz) (fun q hq=>QH.of_eq (by
          have hne:q≠w.heap.size+1:=by
            rcases hq with rfl|e
            · omega
            · have:=HVM.out q e;omega
          rw[hwz]
          show(wr.setCells (w.heap.size+1) 0 A.toList).heap[q]? =_
          exact qT hne _ _ _))).own hsh.mach.1 hsh.mach.2
        have hown2:=And.intro hown.1 (And.intro hown.2 (show ∀q,(Value.slice ay sF.out.length cy).ownBlock=some q→w.heap.size≤q from fun q e=>by have:=(HR.out.bd.own.lt q e).1;have:=HBH.out;omega))
        have hl1:=QL (P:=Tryz.prog) wz (w.heap.size+1) 0 50 A _ hat1 Tryz.underlying50 rfl hi1
        rw[hA]at hl1
        have heq:=HR.out.eq
        clear hat1 hwz hi1 hA4 hA
        refine sO (results_ctt zK _ zK hl1) rfl ⟨⟨_,_,_,_,us,rfl,hsh,hup,heq,fun _=>hown2⟩,hbw⟩
  · have hr:runM m l=⟨[],[],[],0⟩:=if_neg hq
    have hu:undoM m l=[]:=if_neg hq
    rw[hr,hu]
    obtain⟨q,hqq⟩:∃q,q=qj m l:=⟨_,rfl⟩
    rw[←hqq]at HMAY hq ⊢
    clear hqq hr hu
    go_enter Tryz.func26,Tryz.ntmps26
    go_upto_region 1 with(fail)
    rw[←HW1.out]
    go_wp2_with fail
    refine HMAY.out.mono ?_
    rintro e w2 ⟨rfl,hb2⟩
    have hs2:=hb2.size
    have hZ:=(hb2.block (w.heap.size+1) om).trans HZ.out
    have HB2:=lI (hb1.trans (hb2.mono om))
    clear HMAY HM HS c0 c1 hb1 hb2
    have ht:w2.there (w.heap.size+1) 0 4:=qt hZ rfl
    have hsz5:(Tryz.prog.info? 50).map (·.size)=some (#[.slice none 0 0,.slice none 0 0,.slice none 0 0,.int .i64 0]:Array Value).size:=yD
    have hall:(#[.slice none 0 0,.slice none 0 0,.slice none 0 0,.int .i64 0]:Array Value).all (·.oneCell')=true:=zT
    have ht5:∀W:World,W.there (w.heap.size+1) 0 4→W.there (w.heap.size+1) 0 (#[.slice none 0 0,.slice none 0 0,.slice none 0 0,.int .i64 0]:Array Value).size:=fun _ h=>h
    have hld:=QQ (P:=Tryz.prog) (cs:=#[.slice none 0 0,.slice none 0 0,.slice none 0 0,.int .i64 0]) ht Tryz.underlying50 rfl hsz5
    clear hZ HZ
    go_wp2_with (first|(refine wpList_store_mid rfl 50 _ _ rfl (w.heap.size+1) 0 #[.slice none 0 0,.slice none 0 0,.slice none 0 0,.int .i64 0] rfl rfl (ht5 _ ht) hsz5 hall ?_))
    refine sO (results_ctt zK _ zK hld) rfl ⟨⟨_,_,_,_,[],rfl,shown_nil _ _,Up.nil _,rfl,fun h=>absurd h hq⟩,qL om _ _ _ HB2.out⟩
end Go.Proofs.YtlfnddmncbkjaabGreatDoor.W
