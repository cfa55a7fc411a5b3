import Derived.Test.YtlfnddmncbkjaacZWUndo2
import Derived.Test.YtlfnddmncbkjaacZWCut12
import Derived.Test.YtlfnddmncbkjaacZHD
import Derived.Test.YtlfnddmncbkjaacZFbBackU
import Derived.Test.YtlfnddmncbkjaacZHB
import Derived.Test.YtlfnddmncbkjaacZMA
set_option linter.unusedVariables false
set_option linter.unusedSimpArgs false
set_option maxRecDepth 100000
set_option maxHeartbeats 4000000
namespace Go.Proofs.Ytlfnddmncbkjaac.UndoTakesLaw
open Go.RowKit Fb W
theorem runM_good {m : Mach} {l : List (Int × Int)} (wf : m.Wf) : (runM m l).Good := by
  unfold runM
  split
  · rename_i h; exact playM_good l (startM_good wf h)
  · have h : ∀ {α : Type} {P : α → Prop}, ∀ x ∈ ([] : List α), P x := fun x hx => by cases hx
    exact ⟨⟨h, h, Nat.zero_le _, h⟩, h, Nat.le_refl _⟩
theorem us_take {m : Mach} {l : List (Int × Int)} (wf : m.Wf) (hq : wrong m l = 0) {us : List UndD} (h : us.map (·.d) = undoM m l) : (∀ d ∈ us.map (·.d), URng d) ∧ us.length ≤ 200000 ∧ us.length = (runM m l).steps ∧ ∀ n, n ≤ us.length → backS (runM m l).mach (us.map (·.d)) n = ((playM (cutScr (us.length - n) l (startM m)) (startM m)).mach, 0) := by
  obtain ⟨p1, p2, p3, p4, p5, p6⟩ := wrong_parts hq
  have hl := undoPlay_len l (startM m) (fun p hp => (p6 p hp).2.2.2)
  have e1 : undoM m l = undoPlay l (startM m) := if_pos hq
  have e2 : runM m l = playM l (startM m) := if_pos hq
  rw [e1] at h
  have hn : us.length = (undoPlay l (startM m)).length := by rw [← h, List.length_map]
  rw [h, e2]
  refine ⟨undoPlay_rng l (startM_good wf hq) (fun p hp => ⟨(p6 p hp).1, (p6 p hp).2.1⟩) p3, om, by rw [play_steps, hn], fun n hle => ?_⟩
  unfold backS
  rw [if_pos (play_mach_wrong wf hq), if_pos (play_fits wf hq), if_neg om, Int.toNat_natCast, ← hn]
  have e := back_cut (us.length - n) l (startM_good wf hq) (fun p hp => ⟨(p6 p hp).1, (p6 p hp).2.1, (p6 p hp).2.2.1⟩) (Nat.zero_le _)
  rw [show us.length - n - (startM m).steps = us.length - n from Nat.sub_zero _] at e
  rw [e]
theorem walk (vm vh vs : Value) (m : Mach) (l : List (Int × Int)) (bk : Nat) (hbk : (bk : Int) < 65536) (w : World) (hm : MachAt w vm vh m) (wf : m.Wf) (hs : Picks w vs l) (hp : ∀ p ∈ l, i64ok p.1 ∧ i64ok p.2) :
    Calls Try.prog 6 #[.agg #[vm, vh], vs, .int .u16 bk] w fun e w' => e = .returned (.bool true) ∧ Below w.heap.size w w' := by
  obtain ⟨aom, capm, rfl, hcm, hmm, -, -⟩ := hm.1.open
  obtain ⟨aoh, caph, rfl, hch, hmh, -, -⟩ := hm.2.open (fun h hh => hlist_length (wf.harts h hh)) om
  obtain ⟨aos, caps, rfl, hcs, hms, -, -⟩ := hs.open (fun _ _ => rfl) om
  clear hcm hmm hch hmh hcs hms
  obtain ⟨w1, hw1⟩ : ∃ w1, w1 = w.alloc (.cells #[.slice aom m.mem.length capm, .slice aoh m.harts.length caph] 25) := ⟨_, rfl⟩
  have hb1 : Below w.heap.size w w1 := by rw [hw1]; exact Fb.blw
  have hs1 : w.heap.size + 1 ≤ w1.heap.size := by rw [hw1]; simp
  have c0 : w1.cell? ⟨w.heap.size, 0, none⟩ = some (.slice aom m.mem.length capm) := by rw [hw1]; go_cell
  have c1 : w1.cell? ⟨w.heap.size, 1, none⟩ = some (.slice aoh m.harts.length caph) := by rw [hw1]; go_cell
  have HWR := lI (wrong_any _ _ _ m wf l w1 (hm.below hb1) (hs.below hb1) hp)
  have HWK := lI (fun W hW => work_any (.slice aos l.length caps) l W (hs.below hW))
  have HUR := lI (fun W hW => urun_any _ _ _ m wf l W (hm.below hW) (hs.below hW) hp)
  have HUB : Hid (wrong m l = 0 → ∀ (us : List UndD), us.map (·.d) = undoM m l → (∀ d ∈ us.map (·.d), URng d) ∧ us.length ≤ 200000 ∧ us.length = (runM m l).steps ∧ ∀ n, n ≤ us.length → backS (runM m l).mach (us.map (·.d)) n = ((playM (cutScr (us.length - n) l (startM m)) (startM m)).mach, 0)) := lI (fun hq us h => us_take wf hq h)
  have HCT : Hid (wrong m l = 0 → ∀ (k : Nat) W, k ≤ 200000 → Below w.heap.size w W → _) := lI (fun hq k W hk hW => cut12_any _ _ _ m wf l k W (hm.below hW) (hs.below hW) hq hk)
  have HG : Hid ((runM m l).Good) := lI (runM_good wf)
  have HGP : Hid (wrong m l = 0 → ∀ L, (playM L (startM m)).Good) := lI (fun h L => playM_good L (startM_good wf h))
  have HW1 := lI hw1
  obtain ⟨S, hS⟩ : ∃ S : Nat, S = (runM m l).steps := ⟨_, rfl⟩
  obtain ⟨sF, hsF⟩ : ∃ s, s = runM m l := ⟨_, rfl⟩
  obtain ⟨uF, huF⟩ : ∃ s, s = undoM m l := ⟨_, rfl⟩
  obtain ⟨q, hq⟩ : ∃ q, q = wrong m l := ⟨_, rfl⟩
  simp only [← hS] at HUR HUB
  simp only [← hq, ← hsF, ← huF] at HWR HUR HUB HG HCT HGP
  have HB1 := lI hb1
  have HBN := lI hbk
  clear hw1 hm hs hp hq hsF huF hb1 wf hS hbk
  go_enter Try.func6, Try.ntmps6
  go_upto_region 1 with (fail)
  rw [← HW1.out]
  go_wp2_with fail
  refine HWR.out.mono ?_
  rintro e w2 ⟨rfl, hb2⟩
  have hs2 := hb2.size
  have l1 : w.heap.size < w1.heap.size := om
  have d0 := (hb2.cell (p := ⟨w.heap.size, 0, none⟩) l1).trans c0
  have d1 := (hb2.cell (p := ⟨w.heap.size, 1, none⟩) l1).trans c1
  have HB2 := lI (HB1.out.trans (hb2.mono om))
  clear c0 c1 hb2 HB1 HWR
  by_cases hq : q = 0
  · subst hq
    have HUB2 := lI (HUB.out rfl)
    have HCT2 := lI (HCT.out rfl)
    have HGP2 := lI (HGP.out rfl)
    clear HUB HCT HGP
    go_wp2_with fail
    refine (HWK.out _ HB2.out).mono ?_
    rintro e w2' ⟨⟨n, rfl⟩, rfl⟩
    by_cases h3 : n ≤ 600
    · have h3' : ¬ (600 : Int) < (n : Int) := om
      clear h3
      have HS2 := lI hs2
      clear hs2
      have h3n : (decide ((600 : Int) < (n : Int))) = false := by simpa using h3'
      go_wp2_with fail
      refine (HUR.out _ HB2.out).mono ?_
      rintro e w3 ⟨⟨vm3, vh3, vo3, vu, us, rfl, hsh, hup, heq⟩, hb3⟩
      obtain ⟨hur, hul, hus, hbs⟩ := HUB2.out us heq
      subst hus
      obtain ⟨am2, cm2, rfl, -⟩ := hsh.mach.1.open
      obtain ⟨ah2, ch2, rfl, -⟩ := hsh.mach.2.open (fun h hh => hlist_length (HG.out.wf.harts h hh)) om
      obtain ⟨ao2, co2, rfl, -⟩ := hsh.out.open
      obtain ⟨au, cu, rfl⟩ := owns_slice hup.own
      have l2 : w.heap.size < w2'.heap.size := by have := HS2.out; omega
      have e0 := (hb3.cell (p := ⟨w.heap.size, 0, none⟩) l2).trans d0
      have e1 := (hb3.cell (p := ⟨w.heap.size, 1, none⟩) l2).trans d1
      have hs3 := hb3.size
      have HB3 := lI (HB2.out.trans (hb3.mono om))
      obtain ⟨w4, hw4⟩ : ∃ w4, w4 = w3.alloc (.cells #[.slice am2 sF.mach.mem.length cm2, .slice ah2 sF.mach.harts.length ch2, .slice ao2 sF.out.length co2, .int .i64 us.length] 29) := ⟨_, rfl⟩
      have hb4 : Below w3.heap.size w3 w4 := by rw [hw4]; exact Fb.blw
      have hs4 : w3.heap.size + 1 ≤ w4.heap.size := by rw [hw4]; simp
      have l3 : w.heap.size < w3.heap.size := om
      have f0 := (hb4.cell (p := ⟨w.heap.size, 0, none⟩) l3).trans e0
      have f1 := (hb4.cell (p := ⟨w.heap.size, 1, none⟩) l3).trans e1
      have g0 : (w4).cell? ⟨w3.heap.size, 0, none⟩ = some (.slice am2 sF.mach.mem.length cm2) := by rw [hw4]; go_cell
      have g1 : (w4).cell? ⟨w3.heap.size, 1, none⟩ = some (.slice ah2 sF.mach.harts.length ch2) := by rw [hw4]; go_cell
      have g2 : (w4).cell? ⟨w3.heap.size, 2, none⟩ = some (.slice ao2 sF.out.length co2) := by rw [hw4]; go_cell
      have g3 : (w4).cell? ⟨w3.heap.size, 3, none⟩ = some (.int .i64 us.length) := by rw [hw4]; go_cell
      obtain ⟨r, hr⟩ : ∃ r : Nat, r = bk % (us.length + 1) := ⟨_, rfl⟩
      have hrl : r ≤ us.length := by have := Nat.mod_lt bk (show us.length + 1 > 0 by omega); omega
      have hrem : (bk : Int).tmod ((us.length : Int) + 1) = (r : Int) := by rw [hr]; rfl
      have hbkc := back_any _ _ _ sF.mach ⟨HG.out.wf.mem, HG.out.wf.harts⟩ us r w4 (hsh.mach.below hb4) (UR.of_up (hup.below hb4) hur) (by unfold i64ok; omega) (Nat.le_trans hul zN)
      rw [hbs r hrl] at hbkc
      obtain ⟨mF, hmF⟩ : ∃ s, s = playM (cutScr (us.length - r) l (startM m)) (startM m) := ⟨_, rfl⟩
      rw [← hmF] at hbkc
      have HBK := lI hbkc
      have HCU := lI (fun W hW => HCT2.out (us.length - r) W om hW)
      simp only [← hmF] at HCU
      have HGF : Hid mF.Good := lI (by rw [hmF]; exact HGP2.out _)
      have HB4 := lI (HB3.out.trans (hb4.mono om))
      have HW4 := lI hw4
      have HUL := lI hul
      have HRL := lI hrl
      have hwr : wrap64 (bk : Int) = (bk : Int) := by have h := HBN.out; unfold wrap64; omega
      have HWB := lI hwr
      have hsub : ((us.length : Int) - (r : Int)) = ((us.length - r : Nat) : Int) := om
      have HSB := lI hsub
      have HRM := lI hrem
      clear d0 d1 e0 e1 hsh hb3 hw4 HB3 hup heq hur hbs hbkc hmF hr hwr hsub hrem HUR HUB2 HCT2 hb4 hul hrl h3n h3'
      go_upto_region 6 with (fail)
      rw [← HW4.out]
      have hwr := HWB.out
      have hrem := HRM.out
      have hnz : ¬ ((us.length : Int) + 1 = 0) := om
      have hwl : wrap64 ((us.length : Int) + 1) = (us.length : Int) + 1 := by have := HUL.out; unfold wrap64; omega
      have hwq : wrap64 (r : Int) = (r : Int) := by have := HUL.out; have := HRL.out; unfold wrap64; omega
      go_upto_region 7 with (fail)
      clear hwr hrem hnz hwl hwq
      go_wp2_with fail
      refine HBK.out.mono ?_
      rintro e w7 ⟨⟨vm7, vh7, rfl, hm7⟩, hb7⟩
      obtain ⟨am7, cm7, rfl, -⟩ := hm7.1.open
      obtain ⟨ah7, ch7, rfl, -⟩ := hm7.2.open (fun h hh => hlist_length (HGF.out.wf.harts h hh)) om
      have l4 : w.heap.size < w4.heap.size := om
      have hs7 := hb7.size
      obtain ⟨w8, hw8⟩ : ∃ w8, w8 = w7.alloc (.cells #[.slice am7 mF.mach.mem.length cm7, .slice ah7 mF.mach.harts.length ch7] 25) := ⟨_, rfl⟩
      have hb8 : Below w7.heap.size w7 w8 := by rw [hw8]; exact Fb.blw
      have hs8 : w7.heap.size + 1 ≤ w8.heap.size := by rw [hw8]; simp
      have hb48 : Below w4.heap.size w4 w8 := hb7.trans (hb8.mono om)
      have n0 := (hb48.cell (p := ⟨w.heap.size, 0, none⟩) l4).trans f0
      have n1 := (hb48.cell (p := ⟨w.heap.size, 1, none⟩) l4).trans f1
      have r0 : (w8).cell? ⟨w7.heap.size, 0, none⟩ = some (.slice am7 mF.mach.mem.length cm7) := by rw [hw8]; go_cell
      have r1 : (w8).cell? ⟨w7.heap.size, 1, none⟩ = some (.slice ah7 mF.mach.harts.length ch7) := by rw [hw8]; go_cell
      have HB8 := lI (HB4.out.trans (hb48.mono HB4.out.size))
      have HM8 := lI (hm7.below hb8)
      have HW8 := lI hw8
      have HC8 := lI (HCU.out w8 HB8.out)
      clear f0 f1 g0 g1 g2 g3 hb7 hb8 hb48 hw8 hm7 HBK HCU
      go_upto_region 8 with (fail)
      rw [← HW8.out]
      have hws : wrap64 ((us.length : Int) - (r : Int)) = ((us.length - r : Nat) : Int) := by have := HUL.out; have := HRL.out; unfold wrap64; omega
      go_wp2_with fail
      (try rw [hws])
      refine HC8.out.mono ?_
      rintro e w9 ⟨⟨vm9, vh9, vo9, rfl, hm9, ax, nx, cx, rfl⟩, hb9⟩
      obtain ⟨am9, cm9, rfl, -⟩ := hm9.1.open
      obtain ⟨ah9, ch9, rfl, -⟩ := hm9.2.open (fun h hh => hlist_length (HGF.out.wf.harts h hh)) om
      have l8 : w7.heap.size < w8.heap.size := om
      have hs9 := hb9.size
      obtain ⟨wa, hwa⟩ : ∃ x, x = w9.alloc (.cells #[.slice am9 mF.mach.mem.length cm9, .slice ah9 mF.mach.harts.length ch9, .slice ax nx cx, .int .i64 mF.steps] 29) := ⟨_, rfl⟩
      have hba : Below w9.heap.size w9 wa := by rw [hwa]; exact Fb.blw
      have hb8a : Below w8.heap.size w8 wa := hb9.trans (hba.mono om)
      have v0 : (wa).cell? ⟨w7.heap.size, 0, none⟩ = some (.slice am7 mF.mach.mem.length cm7) := (hb8a.cell (p := ⟨w7.heap.size, 0, none⟩) (l8)).trans r0
      have v1 : (wa).cell? ⟨w7.heap.size, 1, none⟩ = some (.slice ah7 mF.mach.harts.length ch7) := (hb8a.cell (p := ⟨w7.heap.size, 1, none⟩) (l8)).trans r1
      have z0 : (wa).cell? ⟨w9.heap.size, 0, none⟩ = some (.slice am9 mF.mach.mem.length cm9) := by rw [hwa]; go_cell
      have z1 : (wa).cell? ⟨w9.heap.size, 1, none⟩ = some (.slice ah9 mF.mach.harts.length ch9) := by rw [hwa]; go_cell
      have z2 : (wa).cell? ⟨w9.heap.size, 2, none⟩ = some (.slice ax nx cx) := by rw [hwa]; go_cell
      have z3 : (wa).cell? ⟨w9.heap.size, 3, none⟩ = some (.int .i64 mF.steps) := by rw [hwa]; go_cell
      have HMA := lI (machines12 _ _ _ _ mF.mach wa ⟨HGF.out.wf.mem, HGF.out.wf.harts⟩ (HM8.out.below hb8a) (hm9.below hba))
      have HBA := lI (HB8.out.trans (hb8a.mono HB8.out.size))
      have HWA := lI hwa
      clear n0 n1 r0 r1 hb9 hba hb8a hwa hm9 hws HC8
      go_upto_region 9 with (fail)
      rw [← HWA.out]
      go_wp2_with fail
      refine HMA.out.mono ?_
      rintro e wb ⟨rfl, hbb⟩
      go_wp2_with fail
      go_ret
      exact ⟨rfl, HBA.out.trans (hbb.mono HBA.out.size)⟩
    · have h3' : (600 : Int) < (n : Int) := om
      clear h3
      go_wp2_with fail
      go_ret
      exact ⟨rfl, HB2.out⟩
  · go_wp2_with fail
    go_ret
    exact ⟨rfl, HB2.out⟩
open RowB in
theorem lifted (os : Os) (started : os.Started) (H : Type) (enc : TypeId × Value → H) :
    ReturnsInHanded {} Try.checked os 6 .any (Rows.undoTakesSpec.pre6 enc Try.prog Try.f6 Rows.undoTakesRow.domain false) (Rows.undoTakesSpec.post enc Try.prog Try.f6 false true false false) := by
  refine RowB.law_lifted (C := Try.checked) (tb := 4) kr started kr kr
    (ChangeSpec.witness6 (enc := enc) (C := Try.checked) false ⟨#[], #[.agg #[.slice none 0 0, .slice none 0 0], .slice none 0 0, .int .u16 0], []⟩ 8 kr kr kr kr)
    rfl (fun ds h => by match ds, h with | [_, _, _], _ => rfl) kr kr kr (of_decide_eq_true kr) ?_
  intro W base args ds ps hval hA _ hz
  have hp : (Try.f6).params.toList = [25, 26, 35] := by kernel_rfl
  rw [hp] at hA hz
  obtain ⟨v0, vs0, d0, ds0, p0, q0, hargs, rfl, rfl, h0, r0⟩ := ChangeShapes.trodAll_cons hA
  obtain ⟨v1, vs1, d1, ds1, p1, q1, rfl, rfl, rfl, h1, r1⟩ := ChangeShapes.trodAll_cons r0
  obtain ⟨v2, vs2, d2, ds2, p2, q2, rfl, rfl, rfl, h2, r2⟩ := ChangeShapes.trodAll_cons r1
  obtain ⟨rfl, rfl, rfl⟩ := ChangeShapes.trodAll_nil r2
  obtain rfl : args = #[v0, v1, v2] := by cases args; simp_all
  obtain ⟨z0, y0⟩ := weights_cons hz
  obtain ⟨z1, y1⟩ := weights_cons y0
  obtain ⟨z2, y2⟩ := weights_cons y1
  have k0 := hval 0 25 v0 kr rfl
  have k1 := hval 1 26 v1 kr rfl
  have k2 := hval 2 35 v2 kr rfl
  obtain ⟨⟨vm, vh, m⟩, rfl, hm, wf, _, _⟩ := opens_machine.arg Try.underlying25 k0 h0 z0
  obtain ⟨⟨vs, l⟩, rfl, hs, hp, _⟩ := opens_picks.argSlice (g := fun p : Value × List (Int × Int) => p.1) Try.underlying26 k1 h1 z1
  obtain ⟨c, rfl, rfl, rfl, wc⟩ := ChangeShapes.open_int Try.underlying35 k2 h2
  obtain ⟨n, rfl⟩ := Int.eq_ofNat_of_zero_le (Fb.wf_u16 wc).1
  exact walk vm vh v1 m l n (Fb.wf_u16 wc).2 W hm wf hs hp
theorem proved : Rows.UndoTakesSaid :=
  OpenClaim.holds_of_wide 6 Try.f6 rfl rfl rfl rfl rfl rfl rfl ⟨rfl, rfl, rfl, rfl, rfl⟩ rfl rfl rfl rfl rfl kr Try.func6 kr
    (of_decide_eq_true kr) (by unfold Func.isWrapper; first | (rw [if_pos (by decide +kernel)]; kernel_rfl) | (rw [if_neg (by decide +kernel)]; exact ⟨rfl, rfl⟩))
    (fun os started H enc _ => lifted os started H enc)
#print axioms proved
end Go.Proofs.Ytlfnddmncbkjaac.UndoTakesLaw
