/- The document's reader of texts, walked. -/
import Derived.Test.YtlfnddmncbkjaacDoorZWAsm18
import Derived.Test.YtlfnddmncbkjaacDoorZZF
import Derived.Test.YtlfnddmncbkjaacDoorZWAsm3
import Derived.Test.YtlfnddmncbkjaacDoorZWIs
import Derived.Deep.CutBlock
namespace Go.Proofs.YtlfnddmncbkjaacDoor.W
set_option linter.unusedVariables false
set_option linter.unusedSimpArgs false
open Go.RowKit Fb
set_option maxRecDepth 100000 in
set_option maxHeartbeats 3200000 in
theorem read_end (op a : Int) (l : List UInt8) (hop : op = 58 ∨ op = 59) (w : World) :
    Calls Tryd.prog 21 #[.int .i64 op, .int .i32 a, .string (bs l)] w fun e w' => e = .returned (.tuple #[.agg (icells (readO op a l).1), .bool (readO op a l).2]) ∧ Below w.heap.size w w' := by
  have HRD := Lib.hid (show readO op a l = (⟨op, 0, 0, 0, 0⟩, decide (l = [])) by unfold readO; rw [if_pos hop])
  generalize readO op a l = ro at *
  obtain ⟨w1, hw1⟩ : ∃ w1, w1 = w.alloc (.cells #[.int .i64 0, .int .i64 0, .int .i64 0, .int .i64 0, .int .i32 0] 23) := ⟨_, rfl⟩
  obtain ⟨w2, hw2⟩ : ∃ w2, w2 = w1.alloc (.cells #[.int .i64 op, .int .i64 0, .int .i64 0, .int .i64 0, .int .i32 0] 23) := ⟨_, rfl⟩
  have hs1 : w1.heap.size = w.heap.size + 1 := by rw [hw1]; simp
  have hb1 : Below w.heap.size w w1 := by rw [hw1]; exact (by repeat (first | with_reducible exact Below.refl _ _ | with_reducible refine below_drewN ?_ _ | ((with_reducible refine Below.setCell ?_ ?hq _); case hq => (first | (simp; done) | (simp; omega))) | ((with_reducible refine Below.alloc ?_ ?hq _); case hq => (first | (simp; done) | (simp; omega)))))
  have hb2 : Below w1.heap.size w1 w2 := by rw [hw2]; exact (by repeat (first | with_reducible exact Below.refl _ _ | with_reducible refine below_drewN ?_ _ | ((with_reducible refine Below.setCell ?_ ?hq _); case hq => (first | (simp; done) | (simp; omega))) | ((with_reducible refine Below.alloc ?_ ?hq _); case hq => (first | (simp; done) | (simp; omega)))))
  have hi1 : I5 w1 w.heap.size ⟨0, 0, 0, 0, 0⟩ := by rw [hw1]; exact ⟨⟨by go_cell, by go_cell, by go_cell, by go_cell, by go_cell⟩, World.frozen?_alloc_new _ _ _ _, World.frozen?_alloc_new _ _ _ _, World.frozen?_alloc_new _ _ _ _, World.frozen?_alloc_new _ _ _ _, World.frozen?_alloc_new _ _ _ _⟩
  have hi2 : I5 w2 w1.heap.size ⟨op, 0, 0, 0, 0⟩ := by rw [hw2]; exact ⟨⟨by go_cell, by go_cell, by go_cell, by go_cell, by go_cell⟩, World.frozen?_alloc_new _ _ _ _, World.frozen?_alloc_new _ _ _ _, World.frozen?_alloc_new _ _ _ _, World.frozen?_alloc_new _ _ _ _, World.frozen?_alloc_new _ _ _ _⟩
  have HS := Lib.hid (show I5 w2 w.heap.size ⟨0, 0, 0, 0, 0⟩ ∧ I5 w2 w1.heap.size ⟨op, 0, 0, 0, 0⟩ ∧ Below w.heap.size w w2 from
    ⟨hi1.below hb2 (by omega), hi2, hb1.trans (hb2.mono (by omega))⟩)
  have HW1 := Lib.hid hw1
  have HW2 := Lib.hid hw2
  have hne1 : ¬ w.heap.size = w1.heap.size := by omega
  clear hs1 hb1 hb2 hi1 hi2 hw1 hw2
  obtain ⟨⟨⟨d0, d1, d2, d3, d4⟩, g0, g1, g2, g3, g4⟩, ⟨⟨c0, c1, c2, c3, c4⟩, f0, f1, f2, f3, f4⟩, -⟩ := HS.out
  rcases hop with rfl | rfl
  · go_enter Tryd.func21, Tryd.ntmps21
    go_upto_region 1 with fail
    rw [← HW1.out]
    go_upto_region 2 with fail
    rw [← HW2.out]
    cases l with
    | nil =>
      have hro := HRD.out
      rw [decide_eq_true rfl] at hro
      subst hro
      have hT : (bs ([] : List UInt8)).toList.isEmpty = true := by rw [ByteArray.toList_eq]; rfl
      generalize bs [] = X at *
      try simp only [icells]
      go_wp2_with fail
      have hbs := below_set5 (b := w.heap.size) HS.out.2.2 (Nat.le_refl _) ⟨58, 0, 0, 0, 0⟩
      have hld := I5.load (HS.out.1.set5 ⟨58, 0, 0, 0, 0⟩)
      unfold W.set5 at hbs hld
      refine bodyPost_ret (results_c1u (by rfl) _ (by rfl) hld) rfl ⟨rfl, ?_⟩
      exact hbs
    | cons x r =>
      have hro := HRD.out
      rw [decide_eq_false (by simp)] at hro
      subst hro
      have hT : (bs (x :: r)).toList.isEmpty = false := by rw [ByteArray.toList_eq]; rfl
      generalize bs (x :: r) = X at *
      try simp only [icells]
      go_wp2_with fail
      have hbs := below_set5 (b := w.heap.size) HS.out.2.2 (Nat.le_refl _) ⟨58, 0, 0, 0, 0⟩
      have hld := I5.load (HS.out.1.set5 ⟨58, 0, 0, 0, 0⟩)
      unfold W.set5 at hbs hld
      refine bodyPost_ret (results_c1u (by rfl) _ (by rfl) hld) rfl ⟨rfl, ?_⟩
      exact hbs
  · go_enter Tryd.func21, Tryd.ntmps21
    go_upto_region 1 with fail
    rw [← HW1.out]
    go_upto_region 2 with fail
    rw [← HW2.out]
    cases l with
    | nil =>
      have hro := HRD.out
      rw [decide_eq_true rfl] at hro
      subst hro
      have hT : (bs ([] : List UInt8)).toList.isEmpty = true := by rw [ByteArray.toList_eq]; rfl
      generalize bs [] = X at *
      try simp only [icells]
      go_wp2_with fail
      have hbs := below_set5 (b := w.heap.size) HS.out.2.2 (Nat.le_refl _) ⟨59, 0, 0, 0, 0⟩
      have hld := I5.load (HS.out.1.set5 ⟨59, 0, 0, 0, 0⟩)
      unfold W.set5 at hbs hld
      refine bodyPost_ret (results_c1u (by rfl) _ (by rfl) hld) rfl ⟨rfl, ?_⟩
      exact hbs
    | cons x r =>
      have hro := HRD.out
      rw [decide_eq_false (by simp)] at hro
      subst hro
      have hT : (bs (x :: r)).toList.isEmpty = false := by rw [ByteArray.toList_eq]; rfl
      generalize bs (x :: r) = X at *
      try simp only [icells]
      go_wp2_with fail
      have hbs := below_set5 (b := w.heap.size) HS.out.2.2 (Nat.le_refl _) ⟨59, 0, 0, 0, 0⟩
      have hld := I5.load (HS.out.1.set5 ⟨59, 0, 0, 0, 0⟩)
      unfold W.set5 at hbs hld
      refine bodyPost_ret (results_c1u (by rfl) _ (by rfl) hld) rfl ⟨rfl, ?_⟩
      exact hbs
theorem read_any11 (op a : Int) (l : List UInt8) (hop : 1 ≤ op ∧ op ≤ 59) (ha : 0 ≤ a ∧ a ≤ 3) (hl : l.length ≤ 4294967296) (w : World) :
    Calls Tryd.prog 21 #[.int .i64 op, .int .i32 a, .string (bs l)] w fun e w' => e = .returned (.tuple #[.agg (icells (readO op a l).1), .bool (readO op a l).2]) ∧ Below w.heap.size w w' := by
  by_cases h : op ≤ 57
  · exact read_some op a l ⟨hop.1, h⟩ ha hl w
  · exact read_end op a l (by omega) w
set_option maxRecDepth 100000 in
set_option maxHeartbeats 3200000 in
theorem parse11_any (l : List UInt8) (hl : l.length ≤ 4294967296) (w : World) :
    Calls Tryd.prog 11 #[.string (bs l)] w fun e w' => (∃ i c, ParsedAs l i c ∧ e = .returned (.tuple #[.agg (icells i), .int .i64 c])) ∧ Below w.heap.size w w' := by
  have hq : (tailL l).length ≤ l.length := by unfold tailL; rw [List.length_drop]; omega
  have HN := Lib.hid (fun (W : World) (op a : Int) (ho : 1 ≤ op ∧ op ≤ 59) (ha : 0 ≤ a ∧ a ≤ 3) => name11_any op a ho (fun _ => ha) W)
  have HR := Lib.hid (fun (W : World) (op a : Int) (ho : 1 ≤ op ∧ op ≤ 59) (ha : 0 ≤ a ∧ a ≤ 3) => read_any11 op a (tailL l) ho ha (by omega) W)
  have HI := Lib.hid (fun (W : World) (i : InsD) (wf : I32 i.imm) => is2_any i W wf)
  have HH : Hid (∀ (op a : Int), 1 ≤ op ∧ op ≤ 59 → 0 ≤ a ∧ a ≤ 3 → nameS op a = headL l → ∀ i ok, readO op a (tailL l) = (i, ok) → I32 i.imm ∧ (ok = true ∧ isS i = true → ParsedAs l i 0) ∧ (¬ (ok = true ∧ isS i = true) → ParsedAs l ⟨0, 0, 0, 0, 0⟩ 2)) := Lib.hid (fun op a ho ha hn i ok hr => by
    refine ⟨by have := read_i32 op a (tailL l); rw [hr] at this; exact this, fun h => ?_, fun h => read_miss ho ha hn hr h⟩
    obtain ⟨rfl, h2⟩ := h
    exact read_hit ho ha hn hr h2)
  have hhl := head_le l
  have hx1 : (bs l).extract 0 (headL l).length = bs (headL l) := by rw [bs_extract]; simp [head_take]
  have hx2 : (bs l).extract (headL l).length (bs l).size = bs (tailL l) := by
    rw [bs_extract, bs_size, List.take_of_length_le (by rw [List.length_drop]; omega)]
    rfl
  have HJ := Lib.hid (head_get l)
  have HK := Lib.hid (head_stop l)
  obtain ⟨h, hh⟩ : ∃ x, x = (headL l).length := ⟨_, rfl⟩
  rw [← hh] at hx1 hx2 HJ HK hhl
  have HLN := Lib.hid (And.intro hl hhl)
  have hz0 : (0 : Int) ≤ (h : Int) := by omega
  have hz1 : (h : Int) ≤ ((bs l).size : Int) := by rw [bs_size]; omega
  have hz2 : (h : Int).toNat = h := by omega
  clear hq hh hhl hl
  obtain ⟨w1, hw1⟩ : ∃ w1, w1 = w.alloc (.cells #[.int .i64 0, .int .i64 0, .int .i64 0, .int .i64 0, .int .i32 0] 23) := ⟨_, rfl⟩
  have HB1 := Lib.hid (show Below w.heap.size w w1 by rw [hw1]; exact (by repeat (first | with_reducible exact Below.refl _ _ | with_reducible refine below_drewN ?_ _ | ((with_reducible refine Below.setCell ?_ ?hq _); case hq => (first | (simp; done) | (simp; omega))) | ((with_reducible refine Below.alloc ?_ ?hq _); case hq => (first | (simp; done) | (simp; omega))))))
  have HI1 := Lib.hid (show I5 w1 w.heap.size ⟨0, 0, 0, 0, 0⟩ by rw [hw1]; exact ⟨⟨by go_cell, by go_cell, by go_cell, by go_cell, by go_cell⟩, World.frozen?_alloc_new _ _ _ _, World.frozen?_alloc_new _ _ _ _, World.frozen?_alloc_new _ _ _ _, World.frozen?_alloc_new _ _ _ _, World.frozen?_alloc_new _ _ _ _⟩)
  have hs1 : w.heap.size < w1.heap.size := by rw [hw1]; simp
  have HS1 := Lib.hid hs1
  have HW1 := Lib.hid hw1
  clear hw1 hs1
  go_enter Tryd.func11, Tryd.ntmps11
  go_upto_region 1 with fail
  rw [← HW1.out]
  go_upto_block 0 with fail
  go_cut [4] from 9 to 20 (fun t4 wx => t4 = .int .i64 h ∧ wx = w1)
  case first =>
    go_wp2_with fail
    go_loopg [4] h (fun gf s4 wx => ∃ j : Nat, s4 = .int .i64 j ∧ Hid (gf + j = h) ∧ wx = w1)
    case atStart => exact ⟨0, rfl, Lib.hid rfl, rfl⟩
    case round =>
      obtain ⟨j, rfl, K, rfl⟩ := hrel
      have hgj := K.out
      have hln := HLN.out
      have hi0 : (0 : Int) ≤ (j : Int) := by omega
      have hi3 : (j : Int).toNat = j := by omega
      by_cases hj : j < h
      · obtain ⟨c, hc, hne⟩ := HJ.out j hj
        have hi2 : j < (bs l).size := by rw [bs_size]; omega
        have hi1 : (j : Int) < ((bs l).size : Int) := by omega
        have hd : decide ((j : Int) < ((bs l).size : Int)) = true := decide_eq_true hi1
        have hcc := bs_at hi2 hc
        have hcn : (((c.toNat : Nat) : Int) != 32) = true := by
          rw [bne_iff_ne]
          intro e
          exact hne (UInt8.toNat_inj.1 (by simp; omega))
        have hcn2 : (((c.toNat : Nat) : Int) == 32) = false := by
          rw [beq_eq_false_iff_ne]
          intro e
          exact hne (UInt8.toNat_inj.1 (by simp; omega))
        have hw : IntKind.i64.wrap ((j : Int) + 1) = ((j + 1 : Nat) : Int) := by
          rw [show (j : Int) + 1 = ((j + 1 : Nat) : Int) by omega]
          simp (disch := omega) only [IntWalk.i64_in]
        have HG := Lib.hid (And.intro hgj hj)
        clear hgj hln hj hc hne
        go_wp2_with fail
        go_roundg (gk - 1)
        case measure => have := HG.out; omega
        case rel => exact ⟨j + 1, by first | rfl | rw [hw], Lib.hid (by have := HG.out; omega), rfl⟩
      · obtain rfl : j = h := by omega
        rcases HK.out with e | e
        · have hd : decide ((j : Int) < ((bs l).size : Int)) = false := decide_eq_false (by rw [bs_size]; omega)
          have hd' : decide (j < (bs l).size) = false := decide_eq_false (by rw [bs_size]; omega)
          clear hgj hln hj e
          go_wp2_with fail
          go_meet
          case rel => exact ⟨rfl, rfl⟩
        · have hjl := (List.getElem?_eq_some_iff.1 e).1
          have hi2 : j < (bs l).size := by rw [bs_size]; exact hjl
          have hi1 : (j : Int) < ((bs l).size : Int) := by omega
          have hd : decide ((j : Int) < ((bs l).size : Int)) = true := decide_eq_true hi1
          have hcc := bs_at hi2 e
          have hcc2 : (bs l)[j].toNat = 32 := by rw [hcc]; rfl
          clear hgj hln hj e hjl
          go_wp2_with fail
          go_meet
          case rel => exact ⟨rfl, rfl⟩
  case rest =>
  obtain ⟨rfl, hwx⟩ := hcut
  rw [hwx]
  clear hwx
  go_wp2_with fail
  go_loopg [5] 59 (fun gf s5 wx => ∃ op : Int, s5 = .int .i64 op ∧ Hid ((gf : Int) = 60 - op ∧ 1 ≤ op ∧ Below w1.heap.size w1 wx ∧ NoName l op))
  case atStart => exact ⟨1, rfl, Lib.hid ⟨by omega, by omega, Below.refl _ _, noname_one l⟩⟩
  case round =>
    obtain ⟨op, rfl, H⟩ := hrel
    by_cases ho : op ≤ 59
    · have ho1 : 1 ≤ op := H.out.2.1
      go_wp2_with fail
      obtain ⟨wo, rfl⟩ : ∃ wo : World, wo = wr := ⟨_, rfl⟩
      obtain ⟨gq, rfl⟩ : ∃ g : Nat, g = gk := ⟨_, rfl⟩
      go_loopg [6] 4 (fun gf s6 wx => ∃ a : Int, s6 = .int .i32 a ∧ Hid ((gf : Int) = 4 - a ∧ 0 ≤ a ∧ Below w1.heap.size w1 wx ∧ NoNameAt l op a))
      case atStart => exact ⟨0, rfl, Lib.hid ⟨by omega, by omega, H.out.2.2.1, noname_zero l op⟩⟩
      case round =>
        obtain ⟨a, rfl, K0⟩ := hrel
        by_cases ha : a < 4
        · have ha0 : 0 ≤ a := K0.out.2.1
          go_wp2_with fail
          by_cases hm : nameS op a = headL l
          · have hT : ((bs (nameS op a)).toList == (bs (headL l)).toList) = true := by rw [hm]; simp
            have HM := Lib.hid hm
            clear hm
            obtain ⟨wq, rfl⟩ : ∃ x : World, x = wr := ⟨_, rfl⟩
            refine wp_region_held_drew (S := fun W => Below wq.heap.size wq W) (by kernel_rfl) (Below.drew (Below.refl _ _)) (fun hHeld => ?_)
            refine wpAnyH_take (i := 0) (v := .int .i64 op) rfl (by kernel_rfl) (by kernel_rfl) (by kernel_rfl) (fun _ _ _ h => h) (Or.inl ⟨by rfl, ?_⟩) (by assumption) ?_
            · (try simp only [List.getElem_toArray, List.getElem_cons_zero, List.getElem_cons_succ]); intro w hSw; (try dsimp only at hSw); go_simp
            try simp only [List.getElem_toArray, List.getElem_cons_zero, List.getElem_cons_succ, Act.put, List.setIfInBounds_toArray, List.set_cons_zero, List.set_cons_succ]
            refine wpAnyH_take (i := 1) (v := .int .i32 a) rfl (by kernel_rfl) (by kernel_rfl) (by kernel_rfl) (fun _ _ _ h => h) (Or.inl ⟨by rfl, ?_⟩) (by assumption) ?_
            · (try simp only [List.getElem_toArray, List.getElem_cons_zero, List.getElem_cons_succ]); intro w hSw; (try dsimp only at hSw); go_simp
            try simp only [List.getElem_toArray, List.getElem_cons_zero, List.getElem_cons_succ, Act.put, List.setIfInBounds_toArray, List.set_cons_zero, List.set_cons_succ]
            refine wpAnyH_take (i := 3) (v := .string (bs l)) rfl (by kernel_rfl) (by kernel_rfl) (by kernel_rfl) (fun _ _ _ h => h) (Or.inl ⟨by rfl, ?_⟩) (by assumption) ?_
            · (try simp only [List.getElem_toArray, List.getElem_cons_zero, List.getElem_cons_succ]); intro w hSw; (try dsimp only at hSw); go_simp
            try simp only [List.getElem_toArray, List.getElem_cons_zero, List.getElem_cons_succ, Act.put, List.setIfInBounds_toArray, List.set_cons_zero, List.set_cons_succ]
            refine wpAnyH_take (i := 4) (v := .int .i64 h) rfl (by kernel_rfl) (by kernel_rfl) (by kernel_rfl) (fun _ _ _ h => h) (Or.inl ⟨by rfl, ?_⟩) (by assumption) ?_
            · (try simp only [List.getElem_toArray, List.getElem_cons_zero, List.getElem_cons_succ]); intro w hSw; (try dsimp only at hSw); go_simp
            try simp only [List.getElem_toArray, List.getElem_cons_zero, List.getElem_cons_succ, Act.put, List.setIfInBounds_toArray, List.set_cons_zero, List.set_cons_succ]
            refine wpAnyH_take (i := 5) (v := .string (bs (headL l))) rfl (by kernel_rfl) (by kernel_rfl) (by kernel_rfl) (fun _ _ _ h => h) (Or.inl ⟨by rfl, ?_⟩) (by assumption) ?_
            · (try simp only [List.getElem_toArray, List.getElem_cons_zero, List.getElem_cons_succ]); intro w hSw; (try dsimp only at hSw); go_simp
            try simp only [List.getElem_toArray, List.getElem_cons_zero, List.getElem_cons_succ, Act.put, List.setIfInBounds_toArray, List.set_cons_zero, List.set_cons_succ]
            refine wpAnyH_ready (rs := [2]) (by kernel_rfl) (by simp) ?_
            refine AllReadyH.cons rfl (fun K hK => ?_) AllReadyH.nil
            go_simp
            refine (HN.out _ op a ⟨ho1, ho⟩ ⟨ha0, by omega⟩).mono ?_
            rintro e w7 ⟨rfl, hb7⟩
            have hS7 : Below wq.heap.size wq w7 := (Below.drew (Below.refl wq.heap.size wq)).trans (hb7.mono (Nat.le_refl _))
            refine hK.out _ _ hS7 (fun hHeld2 => ?_)
            clear hK K
            refine wpAnyH_take (i := 6) (v := .bool false) rfl (by kernel_rfl) (by kernel_rfl) (by kernel_rfl) (fun _ _ _ h => h) (Or.inl ⟨by rfl, ?_⟩) (by assumption) ?_
            · (try simp only [List.getElem_toArray, List.getElem_cons_zero, List.getElem_cons_succ]); intro w hSw; (try dsimp only at hSw); go_simp
            try simp only [List.getElem_toArray, List.getElem_cons_zero, List.getElem_cons_succ, Act.put, List.setIfInBounds_toArray, List.set_cons_zero, List.set_cons_succ]
            refine wpAnyH_done (by kernel_rfl) ?_ _
            have HB7 := Lib.hid (K0.out.2.2.1.trans (hS7.mono K0.out.2.2.1.size))
            clear hHeld hHeld2 hb7 hS7
            go_wp2_with fail
            refine (HR.out _ op a ⟨ho1, ho⟩ ⟨ha0, by omega⟩).mono ?_
            rintro e w8 ⟨rfl, hb8⟩
            have HB8 := Lib.hid (HB7.out.trans (hb8.mono HB7.out.size))
            have HQ := Lib.hid (HH.out op a ⟨ho1, ho⟩ ⟨ha0, by omega⟩ HM.out)
            generalize readO op a (tailL l) = ro at *
            obtain ⟨i, ok⟩ := ro
            have HQ2 := Lib.hid (HQ.out i ok rfl)
            clear hb8 HQ HR HN HH HB7
            obtain ⟨o1, r1, r2, r3, im⟩ := i
            simp only [icells]
            obtain ⟨w9, hw9⟩ : ∃ w9, w9 = w8.alloc (.cells #[.int .i64 o1, .int .i64 r1, .int .i64 r2, .int .i64 r3, .int .i32 im] 23) := ⟨_, rfl⟩
            have HB9 := Lib.hid (show Below w1.heap.size w1 w9 by rw [hw9]; exact HB8.out.alloc HB8.out.size _)
            have hs9 : w8.heap.size < w9.heap.size := by rw [hw9]; simp
            have c0 : (w9).cell? ⟨w8.heap.size, 0, none⟩ = some (.int .i64 o1) := by rw [hw9]; go_cell
            have c1 : (w9).cell? ⟨w8.heap.size, 1, none⟩ = some (.int .i64 r1) := by rw [hw9]; go_cell
            have c2 : (w9).cell? ⟨w8.heap.size, 2, none⟩ = some (.int .i64 r2) := by rw [hw9]; go_cell
            have c3 : (w9).cell? ⟨w8.heap.size, 3, none⟩ = some (.int .i64 r3) := by rw [hw9]; go_cell
            have c4 : (w9).cell? ⟨w8.heap.size, 4, none⟩ = some (.int .i32 im) := by rw [hw9]; go_cell
            have HW9 := Lib.hid hw9
            have HI9 := Lib.hid (HI1.out.below HB9.out HS1.out)
            clear hw9
            go_upto_region 12 with fail
            rw [← HW9.out]
            cases ok with
            | false =>
              have HPP := Lib.hid (HQ2.out.2.2 (fun h => by cases h.1))
              clear HQ2 HI
              obtain ⟨⟨e0, e1, e2, e3, e4⟩, k0, k1, k2, k3, k4⟩ := HI9.out
              go_wp2_with fail
              have hbs := below_set5 (b := w.heap.size) (HB1.out.trans (HB9.out.mono HB1.out.size)) (Nat.le_refl _) ⟨0, 0, 0, 0, 0⟩
              have hld := I5.load (HI9.out.set5 ⟨0, 0, 0, 0, 0⟩)
              unfold W.set5 at hbs hld
              refine bodyPost_ret (results_c1u (by rfl) _ (by rfl) hld) rfl ⟨⟨_, _, HPP.out, rfl⟩, ?_⟩
              exact hbs
            | true =>
              have HX := Lib.hid (fun W => HI.out W ⟨o1, r1, r2, r3, im⟩ HQ2.out.1)
              simp only [icells] at HX
              clear HI
              go_wp2_with fail
              refine (HX.out _).mono ?_
              rintro e w10 ⟨rfl, hb10⟩
              have HB10 := Lib.hid (HB9.out.trans (hb10.mono HB9.out.size))
              have HI10 := Lib.hid (HI9.out.below hb10 (Nat.lt_of_lt_of_le HS1.out HB9.out.size))
              have d0 : (w10).cell? ⟨w8.heap.size, 0, none⟩ = some (.int .i64 o1) := (hb10.cell (p := ⟨w8.heap.size, 0, none⟩) (hs9)).trans c0
              have d1 : (w10).cell? ⟨w8.heap.size, 1, none⟩ = some (.int .i64 r1) := (hb10.cell (p := ⟨w8.heap.size, 1, none⟩) (hs9)).trans c1
              have d2 : (w10).cell? ⟨w8.heap.size, 2, none⟩ = some (.int .i64 r2) := (hb10.cell (p := ⟨w8.heap.size, 2, none⟩) (hs9)).trans c2
              have d3 : (w10).cell? ⟨w8.heap.size, 3, none⟩ = some (.int .i64 r3) := (hb10.cell (p := ⟨w8.heap.size, 3, none⟩) (hs9)).trans c3
              have d4 : (w10).cell? ⟨w8.heap.size, 4, none⟩ = some (.int .i32 im) := (hb10.cell (p := ⟨w8.heap.size, 4, none⟩) (hs9)).trans c4
              clear c0 c1 c2 c3 c4 hb10 HX hs9
              obtain ⟨⟨e0, e1, e2, e3, e4⟩, k0, k1, k2, k3, k4⟩ := HI10.out
              have HQ3 := Lib.hid HQ2.out.2
              clear HQ2
              generalize isS ⟨o1, r1, r2, r3, im⟩ = bi at *
              cases bi with
              | false =>
                have HPP := Lib.hid (HQ3.out.2 (fun h => by cases h.2))
                clear HQ3
                go_wp2_with fail
                have hbs := below_set5 (b := w.heap.size) (HB1.out.trans (HB10.out.mono HB1.out.size)) (Nat.le_refl _) ⟨0, 0, 0, 0, 0⟩
                have hld := I5.load (HI10.out.set5 ⟨0, 0, 0, 0, 0⟩)
                unfold W.set5 at hbs hld
                refine bodyPost_ret (results_c1u (by rfl) _ (by rfl) hld) rfl ⟨⟨_, _, HPP.out, rfl⟩, ?_⟩
                exact hbs
              | true =>
                have HPP := Lib.hid (HQ3.out.1 ⟨by first | rfl | trivial, by first | rfl | trivial⟩)
                clear HQ3
                go_wp2_with fail
                have hbs := below_set5 (b := w.heap.size) (HB1.out.trans (HB10.out.mono HB1.out.size)) (Nat.le_refl _) ⟨o1, r1, r2, r3, im⟩
                have hld := I5.load (HI10.out.set5 ⟨o1, r1, r2, r3, im⟩)
                unfold W.set5 at hbs hld
                refine bodyPost_ret (results_c1u (by rfl) _ (by rfl) hld) rfl ⟨⟨_, _, HPP.out, rfl⟩, ?_⟩
                exact hbs
          · have hT : ((bs (nameS op a)).toList == (bs (headL l)).toList) = false := by
              rw [beq_eq_false_iff_ne]
              exact fun e => hm (by simpa [ByteArray.toList_eq, bs] using e)
            have HM := Lib.hid hm
            clear hm
            obtain ⟨wq, rfl⟩ : ∃ x : World, x = wr := ⟨_, rfl⟩
            refine wp_region_held_drew (S := fun W => Below wq.heap.size wq W) (by kernel_rfl) (Below.drew (Below.refl _ _)) (fun hHeld => ?_)
            refine wpAnyH_take (i := 0) (v := .int .i64 op) rfl (by kernel_rfl) (by kernel_rfl) (by kernel_rfl) (fun _ _ _ h => h) (Or.inl ⟨by rfl, ?_⟩) (by assumption) ?_
            · (try simp only [List.getElem_toArray, List.getElem_cons_zero, List.getElem_cons_succ]); intro w hSw; (try dsimp only at hSw); go_simp
            try simp only [List.getElem_toArray, List.getElem_cons_zero, List.getElem_cons_succ, Act.put, List.setIfInBounds_toArray, List.set_cons_zero, List.set_cons_succ]
            refine wpAnyH_take (i := 1) (v := .int .i32 a) rfl (by kernel_rfl) (by kernel_rfl) (by kernel_rfl) (fun _ _ _ h => h) (Or.inl ⟨by rfl, ?_⟩) (by assumption) ?_
            · (try simp only [List.getElem_toArray, List.getElem_cons_zero, List.getElem_cons_succ]); intro w hSw; (try dsimp only at hSw); go_simp
            try simp only [List.getElem_toArray, List.getElem_cons_zero, List.getElem_cons_succ, Act.put, List.setIfInBounds_toArray, List.set_cons_zero, List.set_cons_succ]
            refine wpAnyH_take (i := 3) (v := .string (bs l)) rfl (by kernel_rfl) (by kernel_rfl) (by kernel_rfl) (fun _ _ _ h => h) (Or.inl ⟨by rfl, ?_⟩) (by assumption) ?_
            · (try simp only [List.getElem_toArray, List.getElem_cons_zero, List.getElem_cons_succ]); intro w hSw; (try dsimp only at hSw); go_simp
            try simp only [List.getElem_toArray, List.getElem_cons_zero, List.getElem_cons_succ, Act.put, List.setIfInBounds_toArray, List.set_cons_zero, List.set_cons_succ]
            refine wpAnyH_take (i := 4) (v := .int .i64 h) rfl (by kernel_rfl) (by kernel_rfl) (by kernel_rfl) (fun _ _ _ h => h) (Or.inl ⟨by rfl, ?_⟩) (by assumption) ?_
            · (try simp only [List.getElem_toArray, List.getElem_cons_zero, List.getElem_cons_succ]); intro w hSw; (try dsimp only at hSw); go_simp
            try simp only [List.getElem_toArray, List.getElem_cons_zero, List.getElem_cons_succ, Act.put, List.setIfInBounds_toArray, List.set_cons_zero, List.set_cons_succ]
            refine wpAnyH_take (i := 5) (v := .string (bs (headL l))) rfl (by kernel_rfl) (by kernel_rfl) (by kernel_rfl) (fun _ _ _ h => h) (Or.inl ⟨by rfl, ?_⟩) (by assumption) ?_
            · (try simp only [List.getElem_toArray, List.getElem_cons_zero, List.getElem_cons_succ]); intro w hSw; (try dsimp only at hSw); go_simp
            try simp only [List.getElem_toArray, List.getElem_cons_zero, List.getElem_cons_succ, Act.put, List.setIfInBounds_toArray, List.set_cons_zero, List.set_cons_succ]
            refine wpAnyH_ready (rs := [2]) (by kernel_rfl) (by simp) ?_
            refine AllReadyH.cons rfl (fun K hK => ?_) AllReadyH.nil
            go_simp
            refine (HN.out _ op a ⟨ho1, ho⟩ ⟨ha0, by omega⟩).mono ?_
            rintro e w7 ⟨rfl, hb7⟩
            have hS7 : Below wq.heap.size wq w7 := (Below.drew (Below.refl wq.heap.size wq)).trans (hb7.mono (Nat.le_refl _))
            refine hK.out _ _ hS7 (fun hHeld2 => ?_)
            clear hK K
            refine wpAnyH_take (i := 6) (v := .bool true) rfl (by kernel_rfl) (by kernel_rfl) (by kernel_rfl) (fun _ _ _ h => h) (Or.inl ⟨by rfl, ?_⟩) (by assumption) ?_
            · (try simp only [List.getElem_toArray, List.getElem_cons_zero, List.getElem_cons_succ]); intro w hSw; (try dsimp only at hSw); go_simp
            try simp only [List.getElem_toArray, List.getElem_cons_zero, List.getElem_cons_succ, Act.put, List.setIfInBounds_toArray, List.set_cons_zero, List.set_cons_succ]
            refine wpAnyH_done (by kernel_rfl) ?_ _
            have HB7 := Lib.hid (K0.out.2.2.1.trans (hS7.mono K0.out.2.2.1.size))
            clear hHeld hHeld2 hb7 hS7
            go_wp2_with fail
            go_roundg (gk - 1)
            case measure => have := K0.out.1; omega
            case rel => exact ⟨a + 1, rfl, Lib.hid ⟨by have := K0.out.1; omega, by omega, HB7.out, K0.out.2.2.2.next HM.out⟩⟩
        · have ha4 : a = 4 := by have := K0.out.1; omega
          subst ha4
          clear ha
          go_wp2_with fail
          go_roundg (gq - 1)
          case measure => have := H.out.1; omega
          case rel => exact ⟨op + 1, rfl, Lib.hid ⟨by have := H.out.1; omega, by omega, K0.out.2.2.1, H.out.2.2.2.next K0.out.2.2.2⟩⟩
    · have ho6 : op = 60 := by have := H.out.1; omega
      subst ho6
      clear ho
      have hp := noname_all H.out.2.2.2
      have HPP := Lib.hid hp
      have HI7 := Lib.hid (HI1.out.below H.out.2.2.1 HS1.out)
      clear hp
      obtain ⟨⟨e0, e1, e2, e3, e4⟩, k0, k1, k2, k3, k4⟩ := HI7.out
      go_wp2_with fail
      have hbs := below_set5 (b := w.heap.size) (HB1.out.trans (H.out.2.2.1.mono HB1.out.size)) (Nat.le_refl _) ⟨0, 0, 0, 0, 0⟩
      have hld := I5.load (HI7.out.set5 ⟨0, 0, 0, 0, 0⟩)
      unfold W.set5 at hbs hld
      refine bodyPost_ret (results_c1u (by rfl) _ (by rfl) hld) rfl ⟨⟨_, _, HPP.out, rfl⟩, ?_⟩
      exact hbs
end Go.Proofs.YtlfnddmncbkjaacDoor.W
