/- TransMay: for every block the program makes small steps that may be; and of that of any memory at any place not too many. No condition. -/
import Derived.Test.YtlfnddmncbkjaabZWTrans4
import Derived.Test.YtlfnddmncbkjaabZWMay7
import Derived.Test.YtlfnddmncbkjaabZWBlock6
import Derived.Test.YtlfnddmncbkjaabZOpenCache
namespace Go.Proofs.Ytlfnddmncbkjaab.TransMayLaw
set_option linter.unusedVariables false
set_option linter.unusedSimpArgs false
open Go.RowKit Fb W
set_option maxRecDepth 100000 in
set_option maxHeartbeats 1600000 in
theorem walk (y : BlkD) (vm : Value) (ml : List Int) (pc : Int) (w : World) (hy : BlkOk w y) (hyi : ∀ i ∈ y.ins, I32 i.imm) (hv : Ints .u8 w vm ml) (hpc : U32 pc) (hb : ∀ i, 0 ≤ ml.getD i 0 ∧ ml.getD i 0 < 256) (hl : ml.length ≤ 140737488351232) :
    Calls Try.prog 8 #[.agg #[.int .u32 y.pc, y.vi], vm, .int .u32 pc] w fun e w' => e = .returned (.bool true) ∧ Below w.heap.size w w' := by
  obtain ⟨ay, cy, hyv, -⟩ := hy.at_.open (fun _ _ => rfl) (by omega)
  rw [hyv]
  obtain ⟨am, cm, rfl, -⟩ := hv.open
  obtain ⟨w1, hw1⟩ : ∃ w1, w1 = w.alloc (.cells #[.int .u32 y.pc, .slice ay y.ins.length cy] 47) := ⟨_, rfl⟩
  have hb1 : Below w.heap.size w w1 := by rw [hw1]; exact (by repeat (first | with_reducible exact Below.refl _ _ | with_reducible refine below_drewN ?_ _ | ((with_reducible refine Below.setCell ?_ ?hq _); case hq => (first | (simp; done) | (simp; omega))) | ((with_reducible refine Below.alloc ?_ ?hq _); case hq => (first | (simp; done) | (simp; omega)))))
  have c0 : (w1).cell? ⟨w.heap.size, 0, none⟩ = some (.int .u32 y.pc) := by rw [hw1]; go_cell
  have c1 : (w1).cell? ⟨w.heap.size, 1, none⟩ = some (.slice ay y.ins.length cy) := by rw [hw1]; go_cell
  have HM1 := Lib.hid (tmake_any y.vi y.ins y.pc w1 (hy.below hb1).at_ hyi)
  rw [hyv] at HM1
  have HB1 := Lib.hid hb1
  have HV1 := Lib.hid (hv.below hb1)
  have HW1 := Lib.hid hw1
  have HM6 := Lib.hid (fun W (hW : Ints .u8 W (.slice am ml.length cm) ml) => make6_any (.slice am ml.length cm) ml pc W hW hpc hb hl)
  have HIS := Lib.hid (makeS_is ml pc)
  have HLN := Lib.hid (makeS_len ml pc)
  obtain ⟨p6, hp6⟩ : ∃ p, p = (makeS ml pc).1 := ⟨_, rfl⟩
  obtain ⟨l6, hl6⟩ : ∃ l, l = (makeS ml pc).2 := ⟨_, rfl⟩
  rw [← hl6] at HIS HLN
  simp only [← hp6, ← hl6] at HM6
  have HLC : Hid ((mkM y.pc y.ins).length ≤ 200 ∧ mayL (mkM y.pc y.ins) = true ∧ ∀ m ∈ mkM y.pc y.ins, m.Ok) := Lib.hid ⟨by have := mkM_may y.pc y.ins; unfold mayL at this; rw [Bool.and_eq_true, decide_eq_true_eq] at this; exact this.1, mkM_may _ _, mkM_ok _ _⟩
  obtain ⟨lc, hlc⟩ : ∃ lc, lc = mkM y.pc y.ins := ⟨_, rfl⟩
  rw [← hlc] at HLC HM1
  clear hy hyi hv hpc hb hl hb1 hw1 hyv hp6 hl6 hlc
  go_enter Try.func8, Try.ntmps8
  go_upto_region 1 with (fail)
  rw [← HW1.out]
  go_wp2_with fail
  refine HM1.out.mono ?_
  rintro e w2 ⟨⟨vc, rfl, hc⟩, hb2⟩
  clear c0 c1
  obtain ⟨ac, cc, rfl, -⟩ := hc.open (fun _ _ => rfl) (by omega)
  have HC2 := Lib.hid hc
  have HB2 := Lib.hid (HB1.out.trans (hb2.mono HB1.out.size))
  obtain ⟨w3, hw3⟩ : ∃ w3, w3 = w2.alloc (.cells #[.int .i64 58, .int .i64 0, .int .i64 0, .int .i64 0, .int .i32 0] 38) := ⟨_, rfl⟩
  have hb3 : Below w2.heap.size w2 w3 := by rw [hw3]; exact (by repeat (first | with_reducible exact Below.refl _ _ | with_reducible refine below_drewN ?_ _ | ((with_reducible refine Below.setCell ?_ ?hq _); case hq => (first | (simp; done) | (simp; omega))) | ((with_reducible refine Below.alloc ?_ ?hq _); case hq => (first | (simp; done) | (simp; omega)))))
  have HEC : Hid (BlockAt w3 (.slice (some ⟨w2.heap.size, 0, none⟩) 1 1) [⟨58, 0, 0, 0, 0⟩]) := Lib.hid (by rw [hw3]; exact ⟨rfl, _, 1, rfl, Nat.le_refl _, by decide, (by intro e; cases e), fun x hx _ => by cases hx; exact ⟨rfl, at_alloc w2 [.int .i64 58, .int .i64 0, .int .i64 0, .int .i64 0, .int .i32 0] 38 (0, 0)⟩⟩)
  have HMK := Lib.hid (tmake_any (.slice (some ⟨w2.heap.size, 0, none⟩) 1 1) [⟨58, 0, 0, 0, 0⟩] 0 w3 HEC.out (by intro i hi; rw [List.mem_singleton] at hi; subst hi; exact ⟨by dsimp only; omega, by dsimp only; omega⟩))
  have hk2 : (mkM 0 [⟨58, 0, 0, 0, 0⟩]).length = 2 := by decide
  rw [hk2] at HMK
  have HB3 := Lib.hid (HB2.out.trans (hb3.mono HB2.out.size))
  have HC3 := Lib.hid (HC2.out.below hb3)
  have HV3 := Lib.hid ((HV1.out.below hb2).below hb3)
  have HW3 := Lib.hid hw3
  clear hc hb2 hw3 hb3 hk2
  go_wp2_with fail
  rw [← HW3.out]
  refine HMK.out.mono ?_
  rintro e w4 ⟨⟨vk, rfl, hk⟩, hb4⟩
  obtain ⟨ak, ck, rfl, -⟩ : ∃ ak ck, vk = .slice ak 2 ck ∧ True := by
    obtain ⟨_, ao, cap, e, -⟩ := hk
    exact ⟨ao, cap, e, trivial⟩
  have HB4 := Lib.hid (HB3.out.trans (hb4.mono HB3.out.size))
  have HC4 := Lib.hid (HC3.out.below hb4)
  have HV4 := Lib.hid (HV3.out.below hb4)
  have HMA := Lib.hid (may7_any (.slice ac lc.length cc) lc w4 HC4.out HLC.out.2.2)
  rw [HLC.out.2.1] at HMA
  clear hk hb4
  go_wp2_with fail
  refine HMA.out.mono ?_
  rintro e w5 ⟨rfl, hb5⟩
  have HB5 := Lib.hid (HB4.out.trans (hb5.mono HB4.out.size))
  have HM65 := Lib.hid (HM6.out w5 (HV4.out.below hb5))
  clear hb5
  go_upto_region 5 with (fail)
  go_wp2_with fail
  refine HM65.out.mono ?_
  rintro e w6 ⟨⟨v6, rfl, h6⟩, hb6⟩
  obtain ⟨a6, c6, rfl, -⟩ := h6.open (fun _ _ => rfl) (by omega)
  obtain ⟨w7, hw7⟩ : ∃ w7, w7 = w6.alloc (.cells #[.int .u32 p6, .slice a6 l6.length c6] 47) := ⟨_, rfl⟩
  have hb7 : Below w6.heap.size w6 w7 := by rw [hw7]; exact (by repeat (first | with_reducible exact Below.refl _ _ | with_reducible refine below_drewN ?_ _ | ((with_reducible refine Below.setCell ?_ ?hq _); case hq => (first | (simp; done) | (simp; omega))) | ((with_reducible refine Below.alloc ?_ ?hq _); case hq => (first | (simp; done) | (simp; omega)))))
  have hs7 : w6.heap.size < w7.heap.size := by rw [hw7]; simp
  have d0 : (w7).cell? ⟨w6.heap.size, 0, none⟩ = some (.int .u32 p6) := by rw [hw7]; go_cell
  have d1 : (w7).cell? ⟨w6.heap.size, 1, none⟩ = some (.slice a6 l6.length c6) := by rw [hw7]; go_cell
  have HB7 := Lib.hid ((HB5.out.trans (hb6.mono HB5.out.size)).trans (hb7.mono (by have := HB5.out.size; have := hb6.size; omega)))
  have HMC := Lib.hid (tmake_any (.slice a6 l6.length c6) l6 p6 w7 (Sl.below h6 hb7) (fun i hi => (HIS.out i hi).2))
  have HLD : Hid ((mkM p6 l6).length ≤ 4 * l6.length ∧ mayL (mkM p6 l6) = true ∧ ∀ m ∈ mkM p6 l6, m.Ok) := Lib.hid ⟨mkM_len _ _, mkM_may _ _, mkM_ok _ _⟩
  obtain ⟨ld, hld⟩ : ∃ ld, ld = mkM p6 l6 := ⟨_, rfl⟩
  rw [← hld] at HLD HMC
  have HW7 := Lib.hid hw7
  clear h6 hb6 hb7 hw7 hld
  go_upto_region 6 with (fail)
  rw [← HW7.out]
  go_wp2_with fail
  refine HMC.out.mono ?_
  rintro e w8 ⟨⟨v8, rfl, h8⟩, hb8⟩
  obtain ⟨a8, c8, rfl, -⟩ := h8.open (fun _ _ => rfl) (by omega)
  have HB8 := Lib.hid (HB7.out.trans (hb8.mono HB7.out.size))
  have HMD := Lib.hid (may7_any (.slice a8 ld.length c8) ld w8 h8 HLD.out.2.2)
  rw [HLD.out.2.1] at HMD
  have f0 : (w8).cell? ⟨w6.heap.size, 0, none⟩ = some (.int .u32 p6) := (hb8.cell (p := ⟨w6.heap.size, 0, none⟩) (hs7)).trans d0
  have f1 : (w8).cell? ⟨w6.heap.size, 1, none⟩ = some (.slice a6 l6.length c6) := (hb8.cell (p := ⟨w6.heap.size, 1, none⟩) (hs7)).trans d1
  have hs8 : w6.heap.size < w8.heap.size := by have := hb8.size; omega
  clear h8 hb8 d0 d1
  go_wp2_with fail
  refine HMD.out.mono ?_
  rintro e w9 ⟨rfl, hb9⟩
  have g0 : (w9).cell? ⟨w6.heap.size, 0, none⟩ = some (.int .u32 p6) := (hb9.cell (p := ⟨w6.heap.size, 0, none⟩) (hs8)).trans f0
  have g1 : (w9).cell? ⟨w6.heap.size, 1, none⟩ = some (.slice a6 l6.length c6) := (hb9.cell (p := ⟨w6.heap.size, 1, none⟩) (hs8)).trans f1
  have HB9 := Lib.hid (HB8.out.trans (hb9.mono HB8.out.size))
  have hln := HLN.out
  have k1 : wrap64 (12 * (l6.length : Int)) = 12 * (l6.length : Int) := by unfold wrap64; omega
  have k2 : wrap64 (12 * (l6.length : Int) + 1) = 12 * (l6.length : Int) + 1 := by unfold wrap64; omega
  have hl1 := HLD.out.1
  have k3 : decide ((ld.length : Int) ≤ 12 * (l6.length : Int) + 1) = true := decide_eq_true (by omega)
  clear hb9 f0 f1
  go_wp2_with fail
  go_ret
  exact ⟨rfl, HB9.out⟩
open RowB in
set_option maxRecDepth 100000 in
set_option maxHeartbeats 1600000 in
theorem lifted (os : Os) (started : os.Started) (H : Type) (enc : TypeId × Value → H) :
    ReturnsInHanded {} Try.checked os 8 .any (Rows.transMaySpec.pre6 enc Try.prog Try.f8 Rows.transMayRow.domain false) (Rows.transMaySpec.post enc Try.prog Try.f8 false true false false) := by
  refine RowB.law_lifted (C := Try.checked) (tb := 4) (by kernel_rfl) started (by kernel_rfl) (by kernel_rfl)
    (ChangeSpec.witness6 (enc := enc) (C := Try.checked) false ⟨#[], #[.agg #[.int .u32 0, .slice none 0 0], .slice none 0 0, .int .u32 0], []⟩ 8 (by kernel_rfl) (by kernel_rfl) (by kernel_rfl) (by kernel_rfl))
    rfl (fun ds h => by match ds, h with | [_, _, _], _ => rfl) (by kernel_rfl) (by kernel_rfl) (by kernel_rfl) (of_decide_eq_true (by kernel_rfl)) ?_
  intro W base args ds ps hval hA _ hz
  have hp : (Try.f8).params.toList = [47, 22, 34] := by kernel_rfl
  rw [hp] at hA hz
  obtain ⟨v0, vs0, d0, ds0, p0, q0, hargs, rfl, rfl, h0, r0⟩ := ChangeShapes.trodAll_cons hA
  obtain ⟨v1, vs1, d1, ds1, p1, q1, rfl, rfl, rfl, h1, r1⟩ := ChangeShapes.trodAll_cons r0
  obtain ⟨v2, vs2, d2, ds2, p2, q2, rfl, rfl, rfl, h2, r2⟩ := ChangeShapes.trodAll_cons r1
  obtain ⟨rfl, rfl, rfl⟩ := ChangeShapes.trodAll_nil r2
  obtain rfl : args = #[v0, v1, v2] := by cases args; simp_all
  obtain ⟨z0, y0⟩ := weights_cons hz
  obtain ⟨z1, y1⟩ := weights_cons y0
  obtain ⟨z2, y2⟩ := weights_cons y1
  have k0 := hval 0 47 v0 (by kernel_rfl) rfl
  have k1 := hval 1 22 v1 (by kernel_rfl) rfl
  have k2 := hval 2 34 v2 (by kernel_rfl) rfl
  obtain ⟨y, rfl, hy, hyi, -⟩ := opens_block.arg Try.underlying47 k0 h0 z0
  obtain ⟨l, hv, hb, hr⟩ := open_bytes Try.underlying22 Try.underlying5 (by kernel_rfl) (by kernel_rfl) k1 h1 z1
  obtain ⟨a, rfl, rfl, rfl, wa⟩ := ChangeShapes.open_int Try.underlying34 k2 h2
  exact walk y v1 l a W hy (fun i hi => (hyi i hi).imm) hv (Fb.wf_u32 wa) hb.getD (by omega)
/-- THE STATEMENT -/
theorem proved : Rows.TransMaySaid :=
  OpenClaim.holds_of_wide 8 Try.f8 rfl rfl rfl rfl rfl rfl rfl ⟨rfl, rfl, rfl, rfl, rfl⟩ rfl rfl rfl rfl rfl (by kernel_rfl) Try.func8 (by kernel_rfl)
    (of_decide_eq_true (by kernel_rfl)) (by unfold Func.isWrapper; first | (rw [if_pos (by decide +kernel)]; kernel_rfl) | (rw [if_neg (by decide +kernel)]; exact ⟨rfl, rfl⟩))
    (fun os started H enc _ => lifted os started H enc)
#print axioms proved
end Go.Proofs.Ytlfnddmncbkjaab.TransMayLaw
