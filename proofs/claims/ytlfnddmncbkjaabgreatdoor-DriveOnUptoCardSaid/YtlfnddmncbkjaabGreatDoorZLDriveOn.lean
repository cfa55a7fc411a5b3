import Derived.Test.YtlfnddmncbkjaabGreatDoorZHK
import Derived.Lay
set_option linter.unusedVariables false
set_option linter.unusedSimpArgs false
set_option maxRecDepth 100000
set_option maxHeartbeats 4000000
namespace Go.Proofs.YtlfnddmncbkjaabGreatDoor.DriveOnLaw
open Go.RowKit Fb W
theorem walk(a b:List UInt8)(ha:a.length≤1048576)(hb:b.length≤1048576)(w:World)(HE:Hid (Env w.heap.size w)):
    Calls Tryz.prog 3 #[.string (bs a),.string (bs b)] w fun e w'=>e=.returned (.bool true)∧Below w.heap.size w w':=by
  have HP:=lI (fun W (hW:Below w.heap.size w W) (l:List UInt8) (hl:l.length≤10000000)=>pplay_any l hl W (lI ((HE.out.keep hW).up hW.size)))
  obtain⟨r,hr⟩:=play_on a b
  obtain⟨X,hX⟩:∃X,X=playS (a++[10]):=⟨_,rfl⟩
  have H1:Hid (∀W,Below w.heap.size w W→Calls Tryz.prog 4 #[.string (bs a++⟨#[10]⟩)] W fun e w'=>e=.returned (.string (bs X))∧Below W.heap.size W w'):=lI (fun W hW=>by
    have:=HP.out W hW (a++[10]) zL
    rw[←hX,←jk]at this
    exact this)
  have H2:Hid (∀W,Below w.heap.size w W→Calls Tryz.prog 4 #[.string (bs a++⟨#[10]⟩++bs b)] W fun e w'=>e=.returned (.string (bs X++bs r))∧Below W.heap.size W w'):=lI (fun W hW=>by
    have:=HP.out W hW (a++[10]++b) zL
    rw[hr,←hX,←jk,←jk,←jk]at this
    exact this)
  have H3:Hid (∀W,Below w.heap.size w W→Calls Tryz.prog 4 #[.string ⟨#[63]⟩] W fun e w'=>e=.returned (.string ⟨#[63,10]⟩)∧Below W.heap.size W w'):=lI (fun W hW=>by
    have:=HP.out W hW [63] zC
    rw[play_q]at this
    exact this)
  have hz0:(bs a).size+(⟨#[10]⟩:ByteArray).size≤1048577:=by rw[QU];show _+1≤_;omega
  have hz1:(bs a++(⟨#[10]⟩:ByteArray)).size+(bs b).size≤2097153:=by rw[ByteArray.size_append,QU,QU];show _+1+_≤_;omega
  clear HP hr hX ha hb
  generalize bs a=A at *
  generalize bs b=B at *
  generalize bs X=Y at *
  generalize bs r=R at *
  go_enter Tryz.func3,Tryz.ntmps3
  go_wp2_with fail
  refine(H1.out _ br).mono ?_
  rintro e w1 ⟨rfl,hb1⟩
  have HB1:=lI hb1
  clear hb1
  go_wp2_with fail
  refine(H2.out _ HB1.out).mono ?_
  rintro e w2 ⟨rfl,hb2⟩
  have HB2:=lI (HB1.out.trans (hb2.mono HB1.out.size))
  clear hb2
  go_wp2_with fail
  refine(H3.out _ HB2.out).mono ?_
  rintro e w3 ⟨rfl,hb3⟩
  have HB3:=lI (HB2.out.trans (hb3.mono HB2.out.size))
  clear hb3
  go_wp2_with fail
  go_ret
  exact⟨by rw[ByteArray.extract_append_eq_left rfl];simp,HB3.out⟩
open RowB in
theorem lifted(os:Os)(started:os.Started)(H:Type)(enc:TypeId × Value→H)(F:Stop.Interp):
    ReturnsInHanded {} Tryz.checked os 3 .any (fun w args=>((Rows.OpenSpec.upto Rows.driveOnSpec).pre enc Tryz.prog Tryz.f3 [] false w args∧laidMetH Tryz.prog Rows.driveOnUptoRow.laid w)∧sizedMet enc Tryz.prog Tryz.f3 (Rows.OpenSpec.upto Rows.driveOnSpec) false w args) (((Rows.OpenSpec.upto Rows.driveOnSpec).at F).post enc Tryz.prog Tryz.f3 false true false false):=by
  refine RowB.law_lifted_laid_upto (C:=Tryz.checked) (s:=Rows.driveOnSpec) (k:=Rows.uptoSmall) (laid:=Rows.driveOnUptoRow.laid) (tb:=4) kr started kr kr kr
    (RowB.witness_laid (enc:=enc) (C:=Tryz.checked) (os:=os) (s:=Rows.OpenSpec.upto Rows.driveOnSpec) (k:=Rows.uptoSmall) rfl (X:=fun w _=>laidMetH Tryz.prog Rows.driveOnUptoRow.laid w) (World.laidAll Tryz.prog os Rows.driveOnUptoRow.laid) #[.string ⟨#[]⟩,.string ⟨#[]⟩] 8 (World.laidAll_os _ _ _) (World.shaped_of_ZipB kr kr) kr (x:=([.lit (.string []),.lit (.string [])],[],[])) kr kr kr kr
      (by rw[MakeChecks.laidMetH_plain _ _ _ kr];exact laidMet_laidAll _ kr kr))
    rfl (fun ds h=>by match ds,h with|[_,_],_=>rfl) kr kr kr (of_decide_eq_true kr) ?_
  intro W base args ds ps hval hA _ hz hk hL
  have hp:(Tryz.f3).params.toList=[9,9]:=zE
  rw[hp]at hA hz
  obtain⟨v0,vs0,d0,ds0,p0,q0,hargs,rfl,rfl,h0,r0⟩:=ChangeShapes.trodAll_cons hA
  obtain⟨v1,vs1,d1,ds1,p1,q1,rfl,rfl,rfl,h1,r1⟩:=ChangeShapes.trodAll_cons r0
  obtain⟨rfl,rfl,rfl⟩:=ChangeShapes.trodAll_nil r1
  obtain rfl:args=#[v0,v1]:=by cases args;simp_all
  obtain⟨z0,y0⟩:=weights_cons hz
  obtain⟨z1,y1⟩:=weights_cons y0
  have k0:=hval 0 9 v0 kr rfl
  have k1:=hval 1 9 v1 kr rfl
  obtain⟨s0,rfl,rfl,-,-⟩:=ChangeMaps.open_string Tryz.underlying9 k0 h0
  obtain⟨s1,rfl,rfl,-,-⟩:=ChangeMaps.open_string Tryz.underlying9 k1 h1
  have hb:s0.data.toList.length≤1048576∧s1.data.toList.length≤1048576:=by
    have:=of_decide_eq_true hk
    simp only[Rows.uptoBulkAll,Rows.uptoBulk]at this
    omega
  have e0:s0=bs s0.data.toList:=rfl
  have e1:s1=bs s1.data.toList:=rfl
  rw[e0,e1]
  exact walk s0.data.toList s1.data.toList hb.1 hb.2 W (lI ⟨pow10_of (g:=5) (t:=194) (e:=66) kr kr Tryz.underlying194 Tryz.underlying66 kr kr hL.tail.tail,
    space_of (g:=6) (t:=184) (e:=5) kr kr Tryz.underlying184 Tryz.underlying5 kr kr hL.tail.tail.tail.tail.tail.tail.tail,
    errD_laid (g:=3) hL.tail.tail.tail.tail.tail kr kr,
    errD_laid (g:=4) hL.tail.tail.tail.tail kr kr⟩)
theorem row_holds:Rows.DriveOnUptoSaid:=
  OpenClaim.holds_of_cond 3 Tryz.f3 rfl rfl rfl rfl rfl rfl rfl ⟨rfl,rfl,rfl,rfl,rfl⟩ rfl rfl rfl rfl rfl kr Tryz.func3 kr
    (of_decide_eq_true kr) (by unfold Func.isWrapper;first|(rw[if_pos (by decide+kernel)];kernel_rfl)|(rw[if_neg (by decide+kernel)];exact⟨rfl,rfl⟩))
    (fun os started H enc _ F=>lifted os started H enc F)
theorem proved:Rows.DriveOnUptoCardSaid:=
  Claim7.holds_tied_plain_at .later [] Rows.driveOnUptoCard.laidKinds true (true, "87c377a858c9e0b09764c8703a14ffde3259f267cd1edd2243b98e7c81df95e8") true
    row_holds (fun _ h=>by cases h) kr (fun _ h=>by cases h) driveOnUpto_row_tie rfl ⟨rfl,rfl⟩ kr rfl
    (fun f fn hf hfn=>by
      obtain rfl:f=3:=Option.some.inj ((show Tryz.prog.funcNamed Rows.driveOnUptoRow.func=some 3 by kernel_rfl).symm.trans hf)|>.symm
      obtain rfl:fn=Tryz.f3:=(Option.some.inj (Tryz.func3.symm.trans hfn)).symm
      exact⟨by kernel_rfl,fun j t ht=>by
        have hp:(Tryz.f3).params=#[9,9]:=zE
        rw[hp]at ht
        have hm:t∈[9,9]:=by simpa using Array.mem_of_getElem? ht
        have hall:([9,9].all fun u=> !Tryz.prog.wantsStandIn u)=true:=zE
        exact(show Tryz.prog.wantsStandIn t=false by simpa using List.all_eq_true.1 hall t hm)⟩)
    kr
#print axioms proved
end Go.Proofs.YtlfnddmncbkjaabGreatDoor.DriveOnLaw
