/- ferrybridgeref13.number and Bytes, walked. -/
import Derived.Test.YtlfnddmncbkjaaaZMA
import Derived.Test.YtlfnddmncbkjaaaZWMay
namespace Go.Proofs.Ytlfnddmncbkjaaa.W
set_option linter.unusedVariables false
set_option linter.unusedSimpArgs false
open Go.RowKit Fb
set_option maxHeartbeats 1000000 in
theorem number13_any (n : Int) (w : World) (hn : U32 n) :
    Calls Try.prog 44 #[.int .i64 n] w fun e w' => e = .returned (.string (strOfNums (quad n))) ∧ Below w.heap.size w w' := by
  obtain ⟨h0, h1⟩ := hn
  have hconv : ∀ (W : World) (x : Int), (convert 22 9 (.slice (some ⟨W.heap.size, 0, none⟩) 1 1)).run Try.prog (W.alloc (.cells #[.int .u8 x] 5)) = .ok (.string (strOfNums [x])) (W.alloc (.cells #[.int .u8 x] 5)) := fun W x =>
    conv_any _ _ [x] _ _ _ Try.underlying22 Try.underlying5 Try.underlying9 (Ints.mk (at_alloc W [.int .u8 x] 5 (0, 0)) rfl (by decide) (by decide))
  have h4 := Lib.hid hconv
  go_enter Try.func44, Try.ntmps44
  go_wp2_with fail
  go_loopw [3, 0, 4] (fun s y i wr => ∃ (j : Nat) (b : ByteArray) (x : Int), s = .string b ∧ y = .int .i64 x ∧ i = .int .i64 j ∧ j ≤ 4 ∧ 0 ≤ x ∧ x < 4294967296 ∧ Hid (b = strOfNums ((quad n).take j) ∧ x = n / 256 ^ j) ∧ ∃ w2, wr = w2 ∧ Below w.heap.size w w2) (fun _ _ i _ => 4 - (intOf i).toNat)
  case atStart => exact ⟨0, _, n, rfl, rfl, rfl, by omega, h0, h1, Lib.hid ⟨rfl, by simp⟩, _, rfl, Below.refl _ _⟩
  case round =>
    obtain ⟨j, b, x, rfl, rfl, rfl, hj, hx0, hx1, HS, w2, hw2, hb⟩ := hrel
    subst hw2
    by_cases hlt : j < 4
    · have hz := hb.size
      have hsz : b.size + (strOfNums [x % 256]).size ≤ 100 := by rw [HS.out.1, strOfNums_size, strOfNums_size, List.length_take]; simp; omega
      have hS : Hid (b ++ strOfNums [x % 256] = strOfNums ((quad n).take (j + 1)) ∧ x / 256 = n / 256 ^ (j + 1)) := Lib.hid (num_step n j b x hlt HS.out.1 HS.out.2)
      clear HS
      go_wp2
      go_roundw
      case rel => exact ⟨j + 1, _, _, rfl, by go_num, by go_num, by omega, by omega, by omega, hS, _, rfl, by go_grown⟩
      case measure => simp [intOf]; omega
    · obtain rfl : j = 4 := by omega
      go_wp2
      go_ret
      refine ⟨?_, hb⟩
      have := HS.out.1
      rw [show (quad n).take 4 = quad n from rfl] at this
      rw [this]
      rfl
theorem number13_keep (w0 W : World) (B : Nat) (h : Below B w0 W) (hB : B ≤ w0.heap.size) (n : Int) (hn : U32 n) :
    Calls Try.prog 44 #[.int .i64 n] W fun e w' => e = .returned (.string (strOfNums (quad n))) ∧ Below B w0 w' :=
  (number13_any n W hn).mono fun _ _ ⟨h1, h2⟩ => ⟨h1, h.trans (h2.mono (Nat.le_trans hB h.size))⟩
set_option maxRecDepth 100000 in
set_option maxHeartbeats 3200000 in
theorem bytes13_any (vm vh : Value) (m : Mach) (wf : m.Wf) (w : World) (hm : MachAt w vm vh m) (hw : wrong m [] = 0) :
    Calls Try.prog 16 #[.agg #[vm, vh]] w fun e w' => e = .returned (.string (strOfNums (mbytes m))) ∧ Below w.heap.size w w' := by
  obtain ⟨aom, capm, rfl, hcm, hmm, _, _⟩ := hm.1.open
  obtain ⟨aoh, caph, rfl, hch, hmh, _, hoh⟩ := hm.2.open (fun h hh => hlist_length (wf.harts h hh)) (by omega)
  have HO := Lib.hid hoh
  unfold maxLen at hmm hmh
  have HM := Lib.hid hm
  clear hm hoh
  obtain ⟨hq1, hq2, hq3⟩ := wrong_mem hw
  have HK := Lib.hid (wrong_harts hw)
  clear hw
  go_enter Try.func16, Try.ntmps16
  go_wp2_with fail
  have hb0 : Below w.heap.size w (w.alloc (.cells #[.slice aom m.mem.length capm, .slice aoh m.harts.length caph] 25)) := by go_grown
  have c0 : (w.alloc (.cells #[.slice aom m.mem.length capm, .slice aoh m.harts.length caph] 25)).cell? ⟨w.heap.size, 0, none⟩ = some (.slice aom m.mem.length capm) := by go_cell
  have c1 : (w.alloc (.cells #[.slice aom m.mem.length capm, .slice aoh m.harts.length caph] 25)).cell? ⟨w.heap.size, 1, none⟩ = some (.slice aoh m.harts.length caph) := by go_cell
  have hs0 : (w.alloc (.cells #[.slice aom m.mem.length capm, .slice aoh m.harts.length caph] 25)).heap.size = w.heap.size + 1 := by simp
  generalize w.alloc (.cells #[.slice aom m.mem.length capm, .slice aoh m.harts.length caph] 25) = w0 at *
  have hlt0 : w.heap.size < w0.heap.size := by omega
  have hconv : ∀ W : World, Below w0.heap.size w0 W → (convert 22 9 (.slice aom m.mem.length capm)).run Try.prog W = .ok (.string (strOfNums m.mem)) W := fun W hW =>
    conv_any _ _ m.mem _ _ _ Try.underlying22 Try.underlying5 Try.underlying9 (HM.out.1.below (hb0.trans (hW.mono (by omega))))
  have HC := Lib.hid hconv
  have hc0 := hconv w0 (Below.refl _ _)
  have hc1 := hconv w0.drew (Below.refl _ _).drew
  clear hconv
  have hu1 : Hid (U32 (m.mem.length : Int)) := Lib.hid (by unfold U32; omega)
  have hu2 : Hid (U32 (m.harts.length : Int)) := Lib.hid (by unfold U32; omega)
  have z1 : (strOfNums (quad m.mem.length)).size = 4 := by rw [strOfNums_size, quad_len]
  have z2 : (strOfNums (quad m.harts.length)).size = 4 := by rw [strOfNums_size, quad_len]
  have z3 : (strOfNums m.mem).size = m.mem.length := by rw [strOfNums_size]
  have n1 : ¬ 9223372036854775807 < 4 + m.mem.length := by omega
  have n2 : ¬ 9223372036854775807 < 4 + m.mem.length + 4 := by omega
  have C0 := Lib.hid c0
  have C1 := Lib.hid c1
  have hbK : Below w0.heap.size w0 w0 := Below.refl _ _
  go_cut [3] from 8 to 20 (fun s wx => s = .string (strOfNums (quad m.mem.length) ++ strOfNums m.mem ++ strOfNums (quad m.harts.length)) ∧ Below w0.heap.size w0 wx)
  case first =>
    go_region_held3 (fun w' => Below w0.heap.size w0 w' ∧ w'.cell? ⟨w.heap.size, 0, none⟩ = some (.slice aom m.mem.length capm) ∧ w'.cell? ⟨w.heap.size, 1, none⟩ = some (.slice aoh m.harts.length caph) ∧ (convert 22 9 (.slice aom m.mem.length capm)).run Try.prog w' = .ok (.string (strOfNums m.mem)) w')
      (first | exact ⟨hbK, (hbK.cell (p := ⟨w.heap.size, 0, none⟩) hlt0).trans C0.out, (hbK.cell (p := ⟨w.heap.size, 1, none⟩) hlt0).trans C1.out, HC.out _ hbK⟩ | exact ⟨hbK.drew, (hbK.cell (p := ⟨w.heap.size, 0, none⟩) hlt0).trans C0.out, (hbK.cell (p := ⟨w.heap.size, 1, none⟩) hlt0).trans C1.out, HC.out _ hbK.drew⟩ | (go_keep; done))
      ((go_at_call 44; refine (number13_keep w0 _ w0.heap.size ?h (Nat.le_refl _) _ ?hn).mono ?_; (case h => first | exact hbK | exact hbK.drew); (case hn => first | exact hu1.out | exact hu2.out); rintro e w3 ⟨rfl, hbK⟩; have hc2 := HC.out w3 hbK))
    all_goals
      go_wp2_with fail
      go_meet
      case rel => exact ⟨rfl, hbK⟩
  case rest =>
  obtain ⟨rfl, hbc⟩ := hcut
  clear hc0 hc1 hbK c0 c1
  have e0 : wc.cell? ⟨w.heap.size, 1, none⟩ = some (.slice aoh m.harts.length caph) := (hbc.cell (p := ⟨w.heap.size, 1, none⟩) hlt0).trans C1.out
  go_wp2_with fail
  have HP : Hid (strOfNums (quad m.mem.length) ++ strOfNums m.mem ++ strOfNums (quad m.harts.length) = strOfNums (quad m.mem.length ++ m.mem ++ quad m.harts.length)) := Lib.hid (by rw [strOfNums_append, strOfNums_append])
  have HPL : Hid ((quad m.mem.length ++ m.mem ++ quad m.harts.length).length ≤ 4104) := Lib.hid (by rw [List.length_append, List.length_append, quad_len, quad_len]; omega)
  have HPM : Hid (∀ ls, quad m.mem.length ++ m.mem ++ quad m.harts.length ++ ls = quad m.mem.length ++ m.mem ++ quad m.harts.length ++ ls) := Lib.hid (fun _ => rfl)
  generalize strOfNums (quad m.mem.length) ++ strOfNums m.mem ++ strOfNums (quad m.harts.length) = b0 at *
  obtain ⟨pre, hpre⟩ : ∃ pre, pre = quad m.mem.length ++ m.mem ++ quad m.harts.length := ⟨_, rfl⟩
  rw [← hpre] at HP HPL
  have HPRE := Lib.hid hpre
  clear hpre HPM z1 z2 z3 hu1 hu2 e0
  go_loopw [3, 4] (fun s i wr => ∃ (k : Nat) (b : ByteArray), s = .string b ∧ i = .int .i64 k ∧ k ≤ m.harts.length ∧ Hid (b = strOfNums (pre ++ (m.harts.take k).flatMap hbytes)) ∧ ∃ w2, wr = w2 ∧ Below w0.heap.size w0 w2) (fun _ i _ => m.harts.length - (intOf i).toNat)
  case atStart => exact ⟨0, _, rfl, rfl, by omega, Lib.hid (by simpa using HP.out), _, rfl, hbc⟩
  case round =>
    obtain ⟨k, bs, rfl, rfl, hk, HB, w2, hw2, hbr⟩ := hrel
    subst hw2
    have e0 : wr.cell? ⟨w.heap.size, 1, none⟩ = some (.slice aoh m.harts.length caph) := (hbr.cell (p := ⟨w.heap.size, 1, none⟩) hlt0).trans C1.out
    by_cases hlt : k < m.harts.length
    · obtain ⟨b, off, rfl, hbl, hel⟩ := HO.out (by intro e; rw [e] at hlt; simp at hlt)
      have hat : At wr b (off + k * 37) (hlist m.harts[k]) := (hel k hlt).below (hb0.trans (hbr.mono (by omega)))
      clear hel
      have wfk : m.harts[k].Wf := wf.harts _ (List.getElem_mem hlt)
      have okk := HK.out m.harts[k] (List.getElem_mem hlt)
      obtain ⟨s1, s2⟩ := ok_state okk
      obtain ⟨s3, s4⟩ := ok_cause okk
      have HX : Hid (∀ xs : List Int, xs ++ m.harts[k].regs.flatMap quad ++ [m.harts[k].pc, m.harts[k].heldInt, m.harts[k].heldAt, m.harts[k].state, m.harts[k].cause].flatMap quad = xs ++ hbytes m.harts[k]) :=
        Lib.hid (fun xs => by rw [hbytes_parts, List.append_assoc])
      have HT : Hid ((m.harts.take (k + 1)).flatMap hbytes = (m.harts.take k).flatMap hbytes ++ hbytes m.harts[k]) := Lib.hid (flat_take' hlt)
      have HL : Hid (((m.harts.take k).flatMap hbytes).length ≤ 4 * 148) := Lib.hid (by
        rw [flats_len (fun h hh => wf.harts h (List.mem_of_mem_take hh)), List.length_take]; omega)
      generalize m.harts[k] = h at *
      have hsz : (Try.prog.info? 86).map (·.size) = some (hcells h).size := by rw [hcells_size wfk]; kernel_rfl
      have hbox := box_hart h wr 86
      go_wp2_with (first | (refine wpList_load_at rfl 86 _ rfl b (off + k * 37) rfl (hcells h) _ hat Try.underlying86 rfl hsz ?_) | (refine wpList_store_new rfl 86 _ _ rfl wr _ (hcells h) rfl rfl rfl hsz (by rw [hcells_size wfk]; rfl) (hlist_one _) ?_))
      have hbB : Below w0.heap.size w0 (wr.alloc (.cells (hcells h) 86)) := Below.alloc hbr hbr.size _
      have hsB : (wr.alloc (.cells (hcells h) 86)).heap.size = wr.heap.size + 1 := by simp
      have hgr := hbr.size
      generalize wr.alloc (.cells (hcells h) 86) = wB at *
      obtain ⟨wA, rfl⟩ : ∃ wA : World, wA = wr := ⟨_, rfl⟩
      go_loopw [3, 6] (fun s i wx => ∃ (j : Nat) (b2 : ByteArray), s = .string b2 ∧ i = .int .i64 j ∧ j ≤ 32 ∧ Hid (b2 = strOfNums (pre ++ (m.harts.take k).flatMap hbytes ++ (h.regs.take j).flatMap quad)) ∧ ∃ w2, wx = w2 ∧ Below wB.heap.size wB w2) (fun _ i _ => 32 - (intOf i).toNat)
      case atStart => exact ⟨0, _, rfl, rfl, by omega, Lib.hid (by simpa using HB.out), _, rfl, Below.refl _ _⟩
      case round =>
        obtain ⟨j, b2, rfl, rfl, hj, HB2, w2, hw2, hbx⟩ := hrel
        subst hw2
        by_cases hjl : j < 32
        · have hjr : j < h.regs.length := by rw [wfk.len]; exact hjl
          have cr : wr.cell? ⟨wA.heap.size, j, none⟩ = some (.int .u32 h.regs[j]) := by
            have := (hbox.below hbx).get (j := j) (v := .int .u32 h.regs[j]) (by simp [hlist, List.getElem?_append, hjr])
            simpa using this
          have hx := wfk.regs h.regs[j] (List.getElem_mem hjr)
          have HX1 := Lib.hid hx
          obtain ⟨hx0, hx1⟩ := hx
          have HS : Hid (b2 ++ strOfNums (quad h.regs[j]) = strOfNums (pre ++ (m.harts.take k).flatMap hbytes ++ (h.regs.take (j + 1)).flatMap quad)) := Lib.hid (by
            rw [HB2.out, ← strOfNums_append, flat_take hjr, List.append_assoc])
          have hz : b2.size + (strOfNums (quad h.regs[j])).size ≤ 100000 := by
            have := HL.out
            have := HPL.out
            rw [HB2.out, strOfNums_size, strOfNums_size, quad_len, List.length_append, List.length_append, quads_len, List.length_take]; omega
          generalize h.regs[j] = x at *
          have HBX := Lib.hid hbx
          clear hat hbox HB2
          go_wp2_with fail
          refine (number13_keep wB _ wB.heap.size HBX.out (Nat.le_refl _) x HX1.out).mono ?_
          rintro e w3 ⟨rfl, hb3⟩
          go_wp2_with fail
          go_roundw
          case rel => exact ⟨j + 1, _, rfl, by go_num, by omega, HS, _, rfl, hb3⟩
          case measure => simp [intOf]; omega
        · obtain rfl : j = 32 := by omega
          have hfull : (h.regs.take 32).flatMap quad = h.regs.flatMap quad := by rw [List.take_of_length_le (by rw [wfk.len]; omega)]
          have HB3 : Hid (b2 = strOfNums (pre ++ (m.harts.take k).flatMap hbytes ++ h.regs.flatMap quad)) := Lib.hid (by rw [← hfull]; exact HB2.out)
          have hbA : At wr wA.heap.size 0 (hlist h) := hbox.below hbx
          clear HB2 hfull hat hbox
          have hlA : wA.heap.size < wr.heap.size := by have := hbx.size; omega
          have c33 : wr.cell? ⟨wA.heap.size, 33, none⟩ = some (.bool h.held) := by simpa using hbA.get (hlist_held wfk)
          have p32 : wr.cell? ⟨wA.heap.size, 32, none⟩ = some (.int .u32 h.pc) := by simpa using hbA.get (hlist_pc wfk)
          have p34 : wr.cell? ⟨wA.heap.size, 34, none⟩ = some (.int .u32 h.heldAt) := by simpa using hbA.get (hlist_heldAt wfk)
          have p35 : wr.cell? ⟨wA.heap.size, 35, none⟩ = some (.int .i64 h.state) := by simpa using hbA.get (hlist_state wfk)
          have p36 : wr.cell? ⟨wA.heap.size, 36, none⟩ = some (.int .i64 h.cause) := by simpa using hbA.get (hlist_cause wfk)
          have HPP := Lib.hid (And.intro p32 (And.intro p34 (And.intro p35 p36)))
          have hpu := wfk.pc
          have hau := wfk.heldAt
          have u1 := Lib.hid hpu
          have u2 := Lib.hid hau
          have u3 : Hid (U32 h.state) := Lib.hid (by unfold U32; omega)
          have u4 : Hid (U32 h.cause) := Lib.hid (by unfold U32; omega)
          obtain ⟨pu0, pu1⟩ := hpu
          obtain ⟨au0, au1⟩ := hau
          have wr1 : IntKind.i64.wrap h.pc = h.pc := by simp (disch := omega) only [IntWalk.i64_in]
          have wr2 : IntKind.i64.wrap h.heldAt = h.heldAt := by simp (disch := omega) only [IntWalk.i64_in]
          have hqs : ∀ x : Int, (strOfNums (quad x)).size = 4 := fun x => by rw [strOfNums_size, quad_len]
          have hbz : b2.size ≤ 100000 := by
            have := HL.out
            have := HPL.out
            rw [HB3.out, strOfNums_size, List.length_append, List.length_append, quads_len, wfk.len]; omega
          have HBX := Lib.hid hbx
          clear hbA
          cases hhd : h.held with
          | false =>
            rw [hhd] at c33
            have HH : Hid (h.heldInt = 0) := Lib.hid (by simp [Hart.heldInt, hhd])
            have u5' : Hid (U32 0) := Lib.hid (by unfold U32; omega)
            have n1 : ¬ 9223372036854775807 < b2.size + 4 := by omega
            have n2 : ¬ 9223372036854775807 < b2.size + 4 + 4 := by omega
            have n3 : ¬ 9223372036854775807 < b2.size + 4 + 4 + 4 := by omega
            have n4 : ¬ 9223372036854775807 < b2.size + 4 + 4 + 4 + 4 := by omega
            have n5 : ¬ 9223372036854775807 < b2.size + 4 + 4 + 4 + 4 + 4 := by omega
            have m2 : ¬ 9223372036854775807 < b2.size + 8 := by omega
            have m3 : ¬ 9223372036854775807 < b2.size + 12 := by omega
            have m4 : ¬ 9223372036854775807 < b2.size + 16 := by omega
            have m5 : ¬ 9223372036854775807 < b2.size + 20 := by omega
            go_wp2_with fail
            have hbK : Below wr.heap.size wr wr := Below.refl _ _
            go_region_held3 (fun w' => Below wr.heap.size wr w' ∧ w'.cell? ⟨wA.heap.size, 32, none⟩ = some (.int .u32 h.pc) ∧ w'.cell? ⟨wA.heap.size, 34, none⟩ = some (.int .u32 h.heldAt) ∧ w'.cell? ⟨wA.heap.size, 35, none⟩ = some (.int .i64 h.state) ∧ w'.cell? ⟨wA.heap.size, 36, none⟩ = some (.int .i64 h.cause))
              (first | exact ⟨hbK, (hbK.cell (p := ⟨wA.heap.size, 32, none⟩) hlA).trans HPP.out.1, (hbK.cell (p := ⟨wA.heap.size, 34, none⟩) hlA).trans HPP.out.2.1, (hbK.cell (p := ⟨wA.heap.size, 35, none⟩) hlA).trans HPP.out.2.2.1, (hbK.cell (p := ⟨wA.heap.size, 36, none⟩) hlA).trans HPP.out.2.2.2⟩ | exact ⟨hbK.drew, (hbK.cell (p := ⟨wA.heap.size, 32, none⟩) hlA).trans HPP.out.1, (hbK.cell (p := ⟨wA.heap.size, 34, none⟩) hlA).trans HPP.out.2.1, (hbK.cell (p := ⟨wA.heap.size, 35, none⟩) hlA).trans HPP.out.2.2.1, (hbK.cell (p := ⟨wA.heap.size, 36, none⟩) hlA).trans HPP.out.2.2.2⟩ | (go_keep; done))
              ((go_at_call 44; refine (number13_keep wr _ wr.heap.size ?h (Nat.le_refl _) _ ?hn).mono ?_; (case h => first | exact hbK | exact hbK.drew); (case hn => first | exact u1.out | exact u2.out | exact u3.out | exact u4.out | exact u5'.out); rintro e w3 ⟨rfl, hbK⟩))
            have HF : Hid (b2 ++ strOfNums (quad h.pc) ++ strOfNums (quad 0) ++ strOfNums (quad h.heldAt) ++ strOfNums (quad h.state) ++ strOfNums (quad h.cause) = strOfNums (pre ++ (m.harts.take (k + 1)).flatMap hbytes)) := Lib.hid (by
              rw [HB3.out, HT.out, ← List.append_assoc, ← HX.out, HH.out]
              simp only [← strOfNums_append, List.append_assoc, List.flatMap_cons, List.flatMap_nil, List.append_nil])
            have hbF := hbB.trans ((hbx.trans (hbK.mono (by omega))).mono (by omega))
            go_wp2_with fail
            go_roundw
            case rel => exact ⟨k + 1, _, rfl, by go_num, by omega, HF, _, rfl, hbF⟩
            case measure => simp [intOf]; omega
          | true =>
            rw [hhd] at c33
            have HH : Hid (h.heldInt = 1) := Lib.hid (by simp [Hart.heldInt, hhd])
            have u5' : Hid (U32 1) := Lib.hid (by unfold U32; omega)
            have n1 : ¬ 9223372036854775807 < b2.size + 4 := by omega
            have n2 : ¬ 9223372036854775807 < b2.size + 4 + 4 := by omega
            have n3 : ¬ 9223372036854775807 < b2.size + 4 + 4 + 4 := by omega
            have n4 : ¬ 9223372036854775807 < b2.size + 4 + 4 + 4 + 4 := by omega
            have n5 : ¬ 9223372036854775807 < b2.size + 4 + 4 + 4 + 4 + 4 := by omega
            have m2 : ¬ 9223372036854775807 < b2.size + 8 := by omega
            have m3 : ¬ 9223372036854775807 < b2.size + 12 := by omega
            have m4 : ¬ 9223372036854775807 < b2.size + 16 := by omega
            have m5 : ¬ 9223372036854775807 < b2.size + 20 := by omega
            go_wp2_with fail
            have hbK : Below wr.heap.size wr wr := Below.refl _ _
            go_region_held3 (fun w' => Below wr.heap.size wr w' ∧ w'.cell? ⟨wA.heap.size, 32, none⟩ = some (.int .u32 h.pc) ∧ w'.cell? ⟨wA.heap.size, 34, none⟩ = some (.int .u32 h.heldAt) ∧ w'.cell? ⟨wA.heap.size, 35, none⟩ = some (.int .i64 h.state) ∧ w'.cell? ⟨wA.heap.size, 36, none⟩ = some (.int .i64 h.cause))
              (first | exact ⟨hbK, (hbK.cell (p := ⟨wA.heap.size, 32, none⟩) hlA).trans HPP.out.1, (hbK.cell (p := ⟨wA.heap.size, 34, none⟩) hlA).trans HPP.out.2.1, (hbK.cell (p := ⟨wA.heap.size, 35, none⟩) hlA).trans HPP.out.2.2.1, (hbK.cell (p := ⟨wA.heap.size, 36, none⟩) hlA).trans HPP.out.2.2.2⟩ | exact ⟨hbK.drew, (hbK.cell (p := ⟨wA.heap.size, 32, none⟩) hlA).trans HPP.out.1, (hbK.cell (p := ⟨wA.heap.size, 34, none⟩) hlA).trans HPP.out.2.1, (hbK.cell (p := ⟨wA.heap.size, 35, none⟩) hlA).trans HPP.out.2.2.1, (hbK.cell (p := ⟨wA.heap.size, 36, none⟩) hlA).trans HPP.out.2.2.2⟩ | (go_keep; done))
              ((go_at_call 44; refine (number13_keep wr _ wr.heap.size ?h (Nat.le_refl _) _ ?hn).mono ?_; (case h => first | exact hbK | exact hbK.drew); (case hn => first | exact u1.out | exact u2.out | exact u3.out | exact u4.out | exact u5'.out); rintro e w3 ⟨rfl, hbK⟩))
            have HF : Hid (b2 ++ strOfNums (quad h.pc) ++ strOfNums (quad 1) ++ strOfNums (quad h.heldAt) ++ strOfNums (quad h.state) ++ strOfNums (quad h.cause) = strOfNums (pre ++ (m.harts.take (k + 1)).flatMap hbytes)) := Lib.hid (by
              rw [HB3.out, HT.out, ← List.append_assoc, ← HX.out, HH.out]
              simp only [← strOfNums_append, List.append_assoc, List.flatMap_cons, List.flatMap_nil, List.append_nil])
            have hbF := hbB.trans ((hbx.trans (hbK.mono (by omega))).mono (by omega))
            go_wp2_with fail
            go_roundw
            case rel => exact ⟨k + 1, _, rfl, by go_num, by omega, HF, _, rfl, hbF⟩
            case measure => simp [intOf]; omega
    · have hkn : k = m.harts.length := by omega
      subst hkn
      go_wp2
      go_ret
      have hh := HB.out
      rw [List.take_length, HPRE.out] at hh
      exact ⟨by rw [hh]; rfl, hb0.trans (hbr.mono (by omega))⟩
end Go.Proofs.Ytlfnddmncbkjaaa.W
