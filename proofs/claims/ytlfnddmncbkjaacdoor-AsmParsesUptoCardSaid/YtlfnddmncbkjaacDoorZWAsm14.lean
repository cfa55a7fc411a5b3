/- asm.Parse, walked. -/
import Derived.Test.YtlfnddmncbkjaacDoorZWAsm7
import Derived.Test.YtlfnddmncbkjaacDoorZZC
import Derived.Test.YtlfnddmncbkjaacDoorZZE
import Derived.WalkMore
namespace Go.Proofs.YtlfnddmncbkjaacDoor.W
set_option linter.unusedVariables false
set_option linter.unusedSimpArgs false
open Go.RowKit Fb
set_option maxRecDepth 100000 in
set_option maxHeartbeats 3200000 in
theorem parse_any (l : List UInt8) (hl : l.length ≤ 4294967296) (w : World)
    (HT : Hid (Lib.TabBelow Tryd.prog w.heap.size w "internal/strconv.uint64pow10" .u64 Lib.pow10Tab)) (HS : Hid (Lib.TabBelow Tryd.prog w.heap.size w "strings.asciiSpace" .u8 Lib.asciiSpaceTab))
    (HY : Hid (ErrAt w.heap.size w "strconv.ErrSyntax")) (HR : Hid (ErrAt w.heap.size w "strconv.ErrRange")) :
    Calls Tryd.prog 10 #[.string (bs l)] w fun e w' => (∃ i c, ParsedAs l i c ∧ e = .returned (.tuple #[.agg (icells i), .int .i64 c])) ∧ Below w.heap.size w w' := by
  have HC := Lib.hid (fun W => cut_any l (by omega) W)
  have hrl : (restL l).length ≤ l.length := by
    unfold restL
    rw [List.length_drop]
    have := (List.dropWhile_sublist (· != 32) (l := l)).length_le
    omega
  have HN := Lib.hid (fun (W : World) (hW : Below w.heap.size w W) (op a : Int) (ho : 1 ≤ op ∧ op ≤ 59) (ha : 0 ≤ a ∧ a ≤ 3) => name_any op 0 0 0 a ho (fun _ => ha) W (Lib.hid (tab_at HS.out hW hW.size)))
  have HG := Lib.hid (fun (W : World) (hW : Below w.heap.size w W) (op a : Int) (ho : 1 ≤ op ∧ op ≤ 59) => guess_any op a (restL l) (by omega) (Nat.le_trans (words_len _) (by omega)) ho W (Lib.hid (HY.out.on hW hW.size)) (Lib.hid (HR.out.on hW hW.size)))
  have HP := Lib.hid (fun (W : World) (hW : Below w.heap.size w W) (i : InsD) (wf : I32 i.imm) => print_any i wf W (Lib.hid (tab_at HT.out hW hW.size)) (Lib.hid (tab_at HS.out hW hW.size)))
  have HI32 := Lib.hid (fun (op a : Int) (ha : 0 ≤ a ∧ a ≤ 3) => guess_i32 op a (restL l) ha)
  clear hrl
  obtain ⟨w1, hw1⟩ : ∃ w1, w1 = w.alloc (.cells #[.int .i64 0, .int .i64 0, .int .i64 0, .int .i64 0, .int .i32 0] 23) := ⟨_, rfl⟩
  have HB1 := Lib.hid (show Below w.heap.size w w1 by rw [hw1]; exact (by repeat (first | with_reducible exact Below.refl _ _ | with_reducible refine below_drewN ?_ _ | ((with_reducible refine Below.setCell ?_ ?hq _); case hq => (first | (simp; done) | (simp; omega))) | ((with_reducible refine Below.alloc ?_ ?hq _); case hq => (first | (simp; done) | (simp; omega))))))
  have HI1 := Lib.hid (show I5 w1 w.heap.size ⟨0, 0, 0, 0, 0⟩ by rw [hw1]; exact ⟨⟨by go_cell, by go_cell, by go_cell, by go_cell, by go_cell⟩, World.frozen?_alloc_new _ _ _ _, World.frozen?_alloc_new _ _ _ _, World.frozen?_alloc_new _ _ _ _, World.frozen?_alloc_new _ _ _ _, World.frozen?_alloc_new _ _ _ _⟩)
  have hs1 : w.heap.size < w1.heap.size := by rw [hw1]; simp
  have HW1 := Lib.hid hw1
  clear hw1 HT HS HY HR
  go_enter Tryd.func10, Tryd.ntmps10
  go_upto_region 1 with (fail)
  rw [← HW1.out]
  go_wp2_with fail
  refine (HC.out w1).mono ?_
  rintro e w2 ⟨b, rfl, hb2⟩
  have HB2 := Lib.hid (HB1.out.trans (hb2.mono HB1.out.size))
  have HI2 := Lib.hid (HI1.out.below hb2 hs1)
  have hs2 : w.heap.size < w2.heap.size := Nat.lt_of_lt_of_le hs1 hb2.size
  have HS2 := Lib.hid hs2
  clear HI1 HB1 HC HW1 hb2 hs1 hs2
  go_wp2_with fail
  go_loopg [7] 59 (fun gf s7 wx => ∃ op : Int, s7 = .int .i64 op ∧ Hid ((gf : Int) = 60 - op ∧ 1 ≤ op ∧ Below w2.heap.size w2 wx ∧ NoneTo l op))
  case atStart => exact ⟨1, rfl, Lib.hid ⟨by omega, by omega, Below.refl _ _, none_one l⟩⟩
  case round =>
    obtain ⟨op, rfl, H⟩ := hrel
    by_cases ho : op ≤ 59
    · have ho1 : 1 ≤ op := H.out.2.1
      go_wp2_with fail
      obtain ⟨wo, rfl⟩ : ∃ wo : World, wo = wr := ⟨_, rfl⟩
      obtain ⟨gq, rfl⟩ : ∃ g : Nat, g = gk := ⟨_, rfl⟩
      go_loopg [23] 4 (fun gf s23 wx => ∃ a : Int, s23 = .int .i32 a ∧ Hid ((gf : Int) = 4 - a ∧ 0 ≤ a ∧ Below w2.heap.size w2 wx ∧ NoneAt l op a))
      case atStart => exact ⟨0, rfl, Lib.hid ⟨by omega, by omega, H.out.2.2.1, none_zero l op⟩⟩
      case round =>
        obtain ⟨a, rfl, K⟩ := hrel
        by_cases ha : a < 4
        · have ha0 : 0 ≤ a := K.out.2.1
          go_wp2_with fail
          have HBr := Lib.hid (HB2.out.trans (K.out.2.2.1.mono HB2.out.size))
          refine (HN.out _ HBr.out op a ⟨ho1, ho⟩ ⟨ha0, by omega⟩).mono ?_
          rintro e w4 ⟨rfl, hb4⟩
          have HB4 := Lib.hid (K.out.2.2.1.trans (hb4.mono K.out.2.2.1.size))
          clear hb4 HBr
          by_cases hm : nameS op a = headL l
          · have hT : bs (nameS op a) = bs (headL l) := by rw [hm]
            rw [hT]
            go_wp2_with fail
            have HG4 := Lib.hid (HG.out w4 (HB2.out.trans (HB4.out.mono HB2.out.size)) op a ⟨ho1, ho⟩)
            have hi32 : I32 (guessS op a (numsF (restL l))).1.imm := HI32.out op a ⟨ha0, by omega⟩
            have HHIT := Lib.hid (show ∀ i b, i = (guessS op a (numsF (restL l))).1 → b = (guessS op a (numsF (restL l))).2 → (b = true ∧ isS i = true ∧ textS i = l → ParsedAs l i 0) ∧ (¬ (b = true ∧ isS i = true ∧ textS i = l) → NoneAt l op (a + 1)) from fun i b hi hb => by
              subst hi hb
              exact ⟨fun h => parsed_hit ⟨ha0, by omega⟩ ⟨hm, h⟩, fun h => K.out.2.2.2.next (fun H => h H.2)⟩)
            generalize guessS op a (numsF (restL l)) = gs at *
            obtain ⟨i, ok⟩ := gs
            have HH := Lib.hid (HHIT.out i ok rfl rfl)
            have HI := Lib.hid hi32
            clear HHIT hi32 hm hT
            refine HG4.out.mono ?_
            rintro e w5 ⟨rfl, hb5⟩
            have HB5 := Lib.hid (HB4.out.trans (hb5.mono HB4.out.size))
            clear hb5 HB4 HG4
            obtain ⟨o1, r1, r2, r3, im⟩ := i
            simp only [icells]
            obtain ⟨w6, hw6⟩ : ∃ w6, w6 = w5.alloc (.cells #[.int .i64 o1, .int .i64 r1, .int .i64 r2, .int .i64 r3, .int .i32 im] 23) := ⟨_, rfl⟩
            have HB6 := Lib.hid (show Below w2.heap.size w2 w6 by rw [hw6]; exact HB5.out.alloc HB5.out.size _)
            have hs6 : w5.heap.size < w6.heap.size := by rw [hw6]; simp
            have c0 : (w6).cell? ⟨w5.heap.size, 0, none⟩ = some (.int .i64 o1) := by rw [hw6]; go_cell
            have c1 : (w6).cell? ⟨w5.heap.size, 1, none⟩ = some (.int .i64 r1) := by rw [hw6]; go_cell
            have c2 : (w6).cell? ⟨w5.heap.size, 2, none⟩ = some (.int .i64 r2) := by rw [hw6]; go_cell
            have c3 : (w6).cell? ⟨w5.heap.size, 3, none⟩ = some (.int .i64 r3) := by rw [hw6]; go_cell
            have c4 : (w6).cell? ⟨w5.heap.size, 4, none⟩ = some (.int .i32 im) := by rw [hw6]; go_cell
            have HW6 := Lib.hid hw6
            clear hw6
            have HP6 := Lib.hid (HP.out w6 (HB2.out.trans (HB6.out.mono HB2.out.size)) ⟨o1, r1, r2, r3, im⟩ HI.out)
            simp only [icells] at HP6
            go_upto_region 10 with (fail)
            rw [← HW6.out]
            go_wp2_with fail
            refine HP6.out.mono ?_
            rintro e w7 ⟨rfl, hb7⟩
            have hb7' := HB6.out.trans (hb7.mono HB6.out.size)
            have HB7 := Lib.hid hb7'
            have HI7 := Lib.hid (HI2.out.below hb7' HS2.out)
            have d0 : (w7).cell? ⟨w5.heap.size, 0, none⟩ = some (.int .i64 o1) := (hb7.cell (p := ⟨w5.heap.size, 0, none⟩) (hs6)).trans c0
            have d1 : (w7).cell? ⟨w5.heap.size, 1, none⟩ = some (.int .i64 r1) := (hb7.cell (p := ⟨w5.heap.size, 1, none⟩) (hs6)).trans c1
            have d2 : (w7).cell? ⟨w5.heap.size, 2, none⟩ = some (.int .i64 r2) := (hb7.cell (p := ⟨w5.heap.size, 2, none⟩) (hs6)).trans c2
            have d3 : (w7).cell? ⟨w5.heap.size, 3, none⟩ = some (.int .i64 r3) := (hb7.cell (p := ⟨w5.heap.size, 3, none⟩) (hs6)).trans c3
            have d4 : (w7).cell? ⟨w5.heap.size, 4, none⟩ = some (.int .i32 im) := (hb7.cell (p := ⟨w5.heap.size, 4, none⟩) (hs6)).trans c4
            clear hb7 hb7' HP6 HB6 HB5 HW6 c0 c1 c2 c3 c4 hs6
            cases ok with
            | false =>
              generalize (if isS ⟨o1, r1, r2, r3, im⟩ = true then bs (textS ⟨o1, r1, r2, r3, im⟩) else ⟨#[]⟩) = tb at *
              generalize (if isS ⟨o1, r1, r2, r3, im⟩ = true then (0 : Int) else 2) = ec at *
              go_wp2_with fail
              go_roundg (gk - 1)
              case measure => have := K.out.1; omega
              case rel => exact ⟨a + 1, rfl, Lib.hid ⟨by have := K.out.1; omega, by omega, HB7.out, HH.out.2 (fun h => by cases h.1)⟩⟩
            | true =>
              by_cases hs : isS ⟨o1, r1, r2, r3, im⟩ = true
              · rw [if_pos hs, if_pos hs]
                by_cases ht : textS ⟨o1, r1, r2, r3, im⟩ = l
                · have hp := HH.out.1 ⟨rfl, hs, ht⟩
                  rw [ht]
                  have HPP := Lib.hid hp
                  clear hp HH hs ht
                  obtain ⟨⟨e0, e1, e2, e3, e4⟩, k0, k1, k2, k3, k4⟩ := HI7.out
                  go_wp2_with fail
                  have hbs := below_set5 (b := w.heap.size) (HB2.out.trans (HB7.out.mono HB2.out.size)) (Nat.le_refl _) ⟨o1, r1, r2, r3, im⟩
                  have hld := I5.load (HI7.out.set5 ⟨o1, r1, r2, r3, im⟩)
                  unfold W.set5 at hbs hld
                  refine bodyPost_ret (results_c1u (by rfl) _ (by rfl) hld) rfl ⟨⟨_, _, HPP.out, rfl⟩, ?_⟩
                  exact hbs
                · have hT : ((bs (textS ⟨o1, r1, r2, r3, im⟩)).toList == (bs l).toList) = false := by
                    rw [beq_eq_false_iff_ne]
                    exact fun e => ht (by simpa [ByteArray.toList_eq, bs] using e)
                  have hn := HH.out.2 (fun h => ht h.2.2)
                  have HNN := Lib.hid hn
                  clear hn HH hs ht
                  generalize bs (textS ⟨o1, r1, r2, r3, im⟩) = tb at *
                  go_wp2_with fail
                  go_roundg (gk - 1)
                  case measure => have := K.out.1; omega
                  case rel => exact ⟨a + 1, rfl, Lib.hid ⟨by have := K.out.1; omega, by omega, HB7.out, HNN.out⟩⟩
              · rw [if_neg hs, if_neg hs]
                have HNN := Lib.hid (HH.out.2 (fun h => hs h.2.1))
                clear HH hs
                go_wp2_with fail
                go_roundg (gk - 1)
                case measure => have := K.out.1; omega
                case rel => exact ⟨a + 1, rfl, Lib.hid ⟨by have := K.out.1; omega, by omega, HB7.out, HNN.out⟩⟩
          · have hT : ((bs (nameS op a)).toList == (bs (headL l)).toList) = false := by
              rw [beq_eq_false_iff_ne]
              exact fun e => hm (by simpa [ByteArray.toList_eq, bs] using e)
            have HM := Lib.hid hm
            clear hm
            go_wp2_with fail
            go_roundg (gk - 1)
            case measure => have := K.out.1; omega
            case rel => exact ⟨a + 1, rfl, Lib.hid ⟨by have := K.out.1; omega, by omega, HB4.out, K.out.2.2.2.next (fun H => HM.out H.1)⟩⟩
        · have ha4 : a = 4 := by have := K.out.1; omega
          subst ha4
          clear ha
          go_wp2_with fail
          go_roundg (gq - 1)
          case measure => have := H.out.1; omega
          case rel => exact ⟨op + 1, rfl, Lib.hid ⟨by have := H.out.1; omega, by omega, K.out.2.2.1, H.out.2.2.2.next K.out.2.2.2⟩⟩
    · have ho6 : op = 60 := by have := H.out.1; omega
      subst ho6
      clear ho
      have hp := parsed_none H.out.2.2.2
      have HPP := Lib.hid hp
      have HI7 := Lib.hid (HI2.out.below H.out.2.2.1 HS2.out)
      clear hp
      obtain ⟨⟨e0, e1, e2, e3, e4⟩, k0, k1, k2, k3, k4⟩ := HI7.out
      go_wp2_with fail
      have hbs := below_set5 (b := w.heap.size) (HB2.out.trans (H.out.2.2.1.mono HB2.out.size)) (Nat.le_refl _) ⟨0, 0, 0, 0, 0⟩
      have hld := I5.load (HI7.out.set5 ⟨0, 0, 0, 0, 0⟩)
      unfold W.set5 at hbs hld
      refine bodyPost_ret (results_c1u (by rfl) _ (by rfl) hld) rfl ⟨⟨_, _, HPP.out, rfl⟩, ?_⟩
      exact hbs
end Go.Proofs.YtlfnddmncbkjaacDoor.W
