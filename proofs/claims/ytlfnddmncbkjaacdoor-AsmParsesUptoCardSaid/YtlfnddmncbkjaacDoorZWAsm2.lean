/- Names of instructions, walked: the program's and the document's. -/
import Derived.Test.YtlfnddmncbkjaacDoorZWAsm1
import Derived.StillTailTactics
import Derived.Lib.AppendIntMem
import Derived.Test.YtlfnddmncbkjaacDoorZMA
namespace Go.Proofs.YtlfnddmncbkjaacDoor.W
set_option linter.unusedVariables false
set_option linter.unusedSimpArgs false
open Go.RowKit Fb
set_option maxRecDepth 100000 in
theorem names_fields : Lib.fields namesL = fullL := by kernel_rfl
set_option maxRecDepth 100000 in
theorem names_ascii : ∀ (j : Nat) b, (bs namesL).data.toList[j]? = some b → b.toNat < 128 := by
  have h : ∀ b ∈ namesL, b.toNat < 128 := by decide
  intro j b hb
  exact h b (List.mem_of_getElem? (by simpa [bs] using hb))
set_option maxRecDepth 100000 in
theorem fields_names (W : World) (htab : Lib.TabIs Tryd.prog W "strings.asciiSpace" .u8 Lib.asciiSpaceTab) :
    Calls Tryd.prog 28 #[.string (bs namesL)] W fun e w' => e = .returned (.slice (some ⟨W.heap.size, 0, none⟩) 59 59) ∧ ∃ cs : Array Value, w' = W.alloc (.cells cs 9) ∧ ∀ k, k < 59 → cs[k]? = some (.string (bs (fullL.getD k []))) := by
  have h := Tryd.strings_Fields_laid (bs namesL) W (by rw [bs_size]; decide) names_ascii htab
  have e : (bs namesL).data.toList = namesL := by simp [bs]
  rw [e, names_fields] at h
  refine h.mono fun e w' ⟨h1, h2⟩ => ⟨h1, _, h2, fun k hk => ?_⟩
  have hl : k < fullL.length := by rw [full_len]; exact hk
  rw [List.getElem?_toArray, List.getElem?_map, List.getElem?_eq_getElem hl, List.getD, List.getElem?_eq_getElem hl]
  rfl
set_option maxRecDepth 100000 in
set_option maxHeartbeats 3200000 in
theorem name_any (op rd rs1 rs2 imm : Int) (hop : 1 ≤ op ∧ op ≤ 59) (hi : 46 ≤ op ∧ op ≤ 56 → 0 ≤ imm ∧ imm ≤ 3) (w : World) (HT : Hid (Go.Lib.TabBelow Tryd.prog w.heap.size w "strings.asciiSpace" .u8 Lib.asciiSpaceTab)) :
    Calls Tryd.prog 19 #[.agg #[.int .i64 op, .int .i64 rd, .int .i64 rs1, .int .i64 rs2, .int .i32 imm]] w fun e w' => e = .returned (.string (bs (nameS op imm))) ∧ Below w.heap.size w w' := by
  obtain ⟨k, hk⟩ := Int.eq_ofNat_of_zero_le (show 0 ≤ op - 1 by omega)
  obtain rfl : op = (k : Int) + 1 := by omega
  have hk59 : k < 59 := by omega
  obtain ⟨w1, hw1⟩ : ∃ w1, w1 = w.alloc (.cells #[.int .i64 ((k : Int) + 1), .int .i64 rd, .int .i64 rs1, .int .i64 rs2, .int .i32 imm] 23) := ⟨_, rfl⟩
  have hb1 : Below w.heap.size w w1 := by rw [hw1]; exact (by repeat (first | with_reducible exact Below.refl _ _ | with_reducible refine below_drewN ?_ _ | ((with_reducible refine Below.setCell ?_ ?hq _); case hq => (first | (simp; done) | (simp; omega))) | ((with_reducible refine Below.alloc ?_ ?hq _); case hq => (first | (simp; done) | (simp; omega)))))
  have hs1 : w1.heap.size = w.heap.size + 1 := by rw [hw1]; simp
  have c0 : w1.cell? ⟨w.heap.size, 0, none⟩ = some (.int .i64 ((k : Int) + 1)) := by rw [hw1]; go_cell
  have c4 : w1.cell? ⟨w.heap.size, 4, none⟩ = some (.int .i32 imm) := by rw [hw1]; go_cell
  obtain ⟨b0, hb0⟩ : ∃ b, b = bs (fullL.getD k []) := ⟨_, rfl⟩
  obtain ⟨bF, hbF⟩ : ∃ b, b = bs (nameS ((k : Int) + 1) imm) := ⟨_, rfl⟩
  rw [← hbF]
  have hz0 : b0.size ≤ 10 := by rw [hb0, bs_size]; exact full_short k hk59
  have HCK : Hid (∀ cs : Array Value, (∀ k, k < 59 → cs[k]? = some (.string (bs (fullL.getD k [])))) → cs[k]? = some (.string b0)) := Lib.hid (fun cs h => by rw [hb0]; exact h k hk59)
  have HN : Hid (bF = b0 ++ bs (if 46 ≤ (k : Int) + 1 ∧ (k : Int) + 1 ≤ 56 then sfx imm else [])) := Lib.hid (by
    rw [hbF, hb0, bs_app]
    unfold nameS
    rw [show ((k : Int) + 1 - 1).toNat = k by omega])
  have HB1 := Lib.hid hb1
  have HW1 := Lib.hid hw1
  have HS1 := Lib.hid hs1
  have hlw : w.heap.size < w1.heap.size := by omega
  clear hw1 hb0 hbF hb1 hs1
  go_enter Tryd.func19, Tryd.ntmps19
  go_upto_region 1 with (fail)
  rw [← HW1.out]
  have i0 : (0 : Int) ≤ (k : Int) := by omega
  have i1 : (k : Int) < 59 := by omega
  go_cut [3] from 4 to 9 (fun t3 wx => t3 = .string b0 ∧ Hid (Below w1.heap.size w1 wx))
  case first =>
    refine wp_region_held_drew (S := fun W => Below w1.heap.size w1 W) (by kernel_rfl) (Below.drew (Below.refl _ _)) (fun hHeld => ?_)
    refine wpAnyH_take (i := 1) (v := .pointer (some ⟨w.heap.size, 0, none⟩)) rfl (by kernel_rfl) (by kernel_rfl) (by kernel_rfl) (fun _ _ _ h => h) (Or.inl ⟨by rfl, ?_⟩) (by assumption) ?_
    · (try simp only [List.getElem_toArray, List.getElem_cons_zero, List.getElem_cons_succ]); intro w hSw; (try dsimp only at hSw); go_simp
    try simp only [List.getElem_toArray, List.getElem_cons_zero, List.getElem_cons_succ, Act.put, List.setIfInBounds_toArray, List.set_cons_zero, List.set_cons_succ]
    refine wpAnyH_take (i := 2) (v := .int .i64 ((k : Int) + 1)) rfl (by kernel_rfl) (by kernel_rfl) (by kernel_rfl) (fun _ _ _ h => h) (Or.inl ⟨by rfl, ?_⟩) (by assumption) ?_
    · (try simp only [List.getElem_toArray, List.getElem_cons_zero, List.getElem_cons_succ]); intro w' hSw; (try dsimp only at hSw); have c0' := (hSw.cell (p := ⟨w.heap.size, 0, none⟩) (by show w.heap.size < _; omega)).trans c0; go_simp
    try simp only [List.getElem_toArray, List.getElem_cons_zero, List.getElem_cons_succ, Act.put, List.setIfInBounds_toArray, List.set_cons_zero, List.set_cons_succ]
    refine wpAnyH_take (i := 3) (v := .int .i64 (k : Int)) rfl (by kernel_rfl) (by kernel_rfl) (by kernel_rfl) (fun _ _ _ h => h) (Or.inl ⟨by rfl, ?_⟩) (by assumption) ?_
    · (try simp only [List.getElem_toArray, List.getElem_cons_zero, List.getElem_cons_succ]); intro w' hSw; (try dsimp only at hSw); go_simp; simp (disch := omega) only [IntWalk.i64_in]
    try simp only [List.getElem_toArray, List.getElem_cons_zero, List.getElem_cons_succ, Act.put, List.setIfInBounds_toArray, List.set_cons_zero, List.set_cons_succ]
    refine wpAnyH_ready (rs := [0]) (by kernel_rfl) (by simp) ?_
    refine AllReadyH.cons rfl (fun K hK => ?_) AllReadyH.nil
    go_simp
    refine (fields_names _ (HT.out _ (HB1.out.trans (Below.mono (Below.drew (Below.refl w1.heap.size w1)) (by omega))))).mono ?_
    rintro e w7 ⟨rfl, cs, rfl, hcs⟩
    have hck := HCK.out cs hcs
    clear hcs
    have hS7 : Below w1.heap.size w1 (w1.drew.alloc (.cells cs 9)) := (Below.drew (Below.refl _ _)).alloc (Nat.le_refl _) _
    refine hK.out _ _ hS7 (fun hHeld2 => ?_)
    clear hK K
    refine wpAnyH_take (i := 4) (v := .pointer (some ⟨w1.heap.size, k, none⟩)) rfl (by kernel_rfl) (by kernel_rfl) (by kernel_rfl) (fun _ _ _ h => h) (Or.inl ⟨by rfl, ?_⟩) (by assumption) ?_
    · (try simp only [List.getElem_toArray, List.getElem_cons_zero, List.getElem_cons_succ]); intro w hSw; (try dsimp only at hSw); go_simp
    try simp only [List.getElem_toArray, List.getElem_cons_zero, List.getElem_cons_succ, Act.put, List.setIfInBounds_toArray, List.set_cons_zero, List.set_cons_succ]
    refine wpAnyH_ready (rs := [5]) (by kernel_rfl) (by simp) ?_
    refine AllReadyH.cons rfl (fun K hK => ?_) AllReadyH.nil
    go_simp
    refine hK.out _ _ hS7 (fun hHeld3 => ?_)
    clear hK K
    refine wpAnyH_take (i := 6) (v := .string b0) rfl (by kernel_rfl) (by kernel_rfl) (by kernel_rfl) (fun _ _ _ h => h) (Or.inl ⟨by rfl, ?_⟩) (by assumption) ?_
    · (try simp only [List.getElem_toArray, List.getElem_cons_zero, List.getElem_cons_succ]); intro w hSw; (try dsimp only at hSw); go_simp
    try simp only [List.getElem_toArray, List.getElem_cons_zero, List.getElem_cons_succ, Act.put, List.setIfInBounds_toArray, List.set_cons_zero, List.set_cons_succ]
    refine wpAnyH_done (by kernel_rfl) ?_ _
    go_wp2_with fail
    go_meet
    case rel => exact ⟨rfl, Lib.hid hS7⟩
  case rest =>
    obtain ⟨rfl, HW⟩ := hcut
    have hbw := HW.out
    have d0 := (hbw.cell (p := ⟨w.heap.size, 0, none⟩) (by show w.heap.size < _; omega)).trans c0
    have d4 := (hbw.cell (p := ⟨w.heap.size, 4, none⟩) (by show w.heap.size < _; omega)).trans c4
    clear hbw c0 c4
    have HBE := Lib.hid (HB1.out.trans (HW.out.mono HB1.out.size))
    by_cases ha : 46 ≤ (k : Int) + 1 ∧ (k : Int) + 1 ≤ 56
    · obtain ⟨ha1, ha2⟩ := ha
      have him := hi ⟨ha1, ha2⟩
      have HN2 : Hid (bF = b0 ++ bs (sfx imm)) := Lib.hid (by rw [HN.out, if_pos ⟨ha1, ha2⟩])
      have hx0 : ∀ (W : World), (Instr.index 56 (.agg #[.string ⟨#[]⟩, .string ⟨#[46, 114, 108]⟩, .string ⟨#[46, 97, 113]⟩, .string ⟨#[46, 97, 113, 114, 108]⟩]) (.int .i32 0)).run Tryd.prog W = .ok (.string (bs (sfx 0))) W := fun W => by kernel_rfl
      have hx1 : ∀ (W : World), (Instr.index 56 (.agg #[.string ⟨#[]⟩, .string ⟨#[46, 114, 108]⟩, .string ⟨#[46, 97, 113]⟩, .string ⟨#[46, 97, 113, 114, 108]⟩]) (.int .i32 1)).run Tryd.prog W = .ok (.string (bs (sfx 1))) W := fun W => by kernel_rfl
      have hx2 : ∀ (W : World), (Instr.index 56 (.agg #[.string ⟨#[]⟩, .string ⟨#[46, 114, 108]⟩, .string ⟨#[46, 97, 113]⟩, .string ⟨#[46, 97, 113, 114, 108]⟩]) (.int .i32 2)).run Tryd.prog W = .ok (.string (bs (sfx 2))) W := fun W => by kernel_rfl
      have hx3 : ∀ (W : World), (Instr.index 56 (.agg #[.string ⟨#[]⟩, .string ⟨#[46, 114, 108]⟩, .string ⟨#[46, 97, 113]⟩, .string ⟨#[46, 97, 113, 114, 108]⟩]) (.int .i32 3)).run Tryd.prog W = .ok (.string (bs (sfx 3))) W := fun W => by kernel_rfl
      have hsz : ∀ v : Int, b0.size + (bs (sfx v)).size ≤ 100 := fun v => by rw [bs_size]; have := sfx_len v; omega
      have HSZ := Lib.hid hsz
      clear hi HN hsz
      have hbt : ∀ v : Int, v = 0 ∨ v = 1 ∨ v = 2 ∨ v = 3 → bits BinOp.and IntKind.i32 v 3 = v := by rintro v (rfl | rfl | rfl | rfl) <;> rfl
      have HBT := Lib.hid hbt
      clear hbt
      obtain rfl | rfl | rfl | rfl : imm = 0 ∨ imm = 1 ∨ imm = 2 ∨ imm = 3 := by omega
      · have hb := HBT.out 0 (by omega)
        have hs0 := HSZ.out 0
        clear hx1 hx2 hx3
        go_wp2_with fail
        go_ret
        exact ⟨by rw [HN2.out]; rfl, HBE.out⟩
      · have hb := HBT.out 1 (by omega)
        have hs0 := HSZ.out 1
        clear hx0 hx2 hx3
        go_wp2_with fail
        go_ret
        exact ⟨by rw [HN2.out]; rfl, HBE.out⟩
      · have hb := HBT.out 2 (by omega)
        have hs0 := HSZ.out 2
        clear hx0 hx1 hx3
        go_wp2_with fail
        go_ret
        exact ⟨by rw [HN2.out]; rfl, HBE.out⟩
      · have hb := HBT.out 3 (by omega)
        have hs0 := HSZ.out 3
        clear hx0 hx1 hx2
        go_wp2_with fail
        go_ret
        exact ⟨by rw [HN2.out]; rfl, HBE.out⟩
    · have HN2 : Hid (bF = b0) := Lib.hid (by
        rw [HN.out, if_neg ha, show bs [] = ByteArray.empty from rfl]
        exact ByteArray.append_empty)
      by_cases h46 : 46 ≤ (k : Int) + 1
      · have h56 : ¬ (k : Int) + 1 ≤ 56 := fun h => ha ⟨h46, h⟩
        clear ha hi HN
        go_wp2_with fail
        go_ret
        exact ⟨by rw [HN2.out]; rfl, HBE.out⟩
      · clear ha hi HN
        go_wp2_with fail
        go_ret
        exact ⟨by rw [HN2.out]; rfl, HBE.out⟩
end Go.Proofs.YtlfnddmncbkjaacDoor.W
