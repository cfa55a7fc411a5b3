/- The writer of package image: numbers as bytes. -/
import Derived.Test.YtlfnddmncbkjaabZMA
namespace Go.Proofs.Ytlfnddmncbkjaab.W
set_option linter.unusedVariables false
set_option linter.unusedSimpArgs false
open Go.RowKit Fb
theorem info_u8n : (Try.prog.info? 5).map (fun i => (i.zero, i.size, i.bytes)) = some (some (.int .u8 0), 1, 1) := by kernel_rfl
set_option maxRecDepth 100000 in
set_option maxHeartbeats 3200000 in
theorem num_any (pw : Nat) (xs : List Int) (b off cap : Nat) (l : List Int) (w : World) (hw : Wrt pw 5 w xs) (hl : At w b off (l.map (Value.int .u32)))
    (hne : pw < b ∧ ∀ cs fr, w.heap[b]? ≠ some (.cells cs 5 fr)) (hU : ∀ x ∈ l, U32 x) (hc : l.length ≤ cap) (hcm : cap ≤ maxLen) (hb : xs.length + 4 * l.length ≤ 1000000) :
    Calls Try.prog 50 #[.pointer (some ⟨pw, 0, none⟩), .slice (some ⟨b, off, none⟩) l.length cap] w fun e w' => e = .returned (.tuple #[]) ∧ Wrt pw 5 w' (xs ++ l.flatMap quad) ∧ Grew pw 5 w w' := by
  obtain ⟨i0, hi, hz0, hz1, hz2⟩ := info_parts info_u8n
  unfold maxLen at hcm
  have HL := Lib.hid hl
  have HN := Lib.hid hne.2
  have HU := Lib.hid hU
  have HW := Lib.hid hw
  clear hl hU hw
  obtain ⟨hne1, _⟩ := hne
  go_enter Try.func50, Try.ntmps50
  go_wp2_with fail
  go_loopw [9] (fun i wr => ∃ k : Nat, i = .int .i64 k ∧ k ≤ l.length ∧ Hid (Wrt pw 5 wr (xs ++ (l.take k).flatMap quad) ∧ Grew pw 5 w wr)) (fun i _ => l.length - (intOf i).toNat)
  case atStart => exact ⟨0, rfl, by omega, Lib.hid ⟨by simpa using HW.out, Grew.refl _ _ _⟩⟩
  case round =>
    obtain ⟨k, rfl, hk, HR⟩ := hrel
    obtain ⟨wk, rfl⟩ : ∃ wk : World, wk = wr := ⟨_, rfl⟩
    by_cases hlt : k < l.length
    · have hce := (HR.out.2.at HL.out (.inr ⟨hne1, HN.out⟩)).get (j := k) (v := .int .u32 l[k]) (by simp [hlt])
      obtain ⟨hx0, hx1⟩ := HU.out l[k] (List.getElem_mem hlt)
      obtain ⟨x, hx⟩ : ∃ x, x = l[k] := ⟨_, rfl⟩
      rw [← hx] at hce hx0 hx1
      have HX := Lib.hid hx
      clear hx
      go_wp2_with fail
      go_loopw [6] (fun i wq => ∃ j : Nat, i = .int .i64 (8 * j) ∧ j ≤ 4 ∧ Hid (Wrt pw 5 wq (xs ++ (l.take k).flatMap quad ++ (quad x).take j) ∧ Grew pw 5 w wq)) (fun i _ => 32 - (intOf i).toNat)
      case atStart => exact ⟨0, rfl, by omega, Lib.hid ⟨by simpa using HR.out.1, HR.out.2⟩⟩
      case round =>
        obtain ⟨j, rfl, hj, HQ⟩ := hrel
        have hj5 : j = 0 ∨ j = 1 ∨ j = 2 ∨ j = 3 ∨ j = 4 := by omega
        rcases hj5 with rfl | rfl | rfl | rfl | rfl
        · have hlen := num_len xs l k x 0 hk hj
          have HE : Hid ((xs ++ (l.take k).flatMap quad ++ (quad x).take 0) ++ [x % 256] = xs ++ (l.take k).flatMap quad ++ (quad x).take 1) := Lib.hid (by rw [List.append_assoc]; rfl)
          generalize xs ++ (l.take k).flatMap quad ++ (quad x).take 0 = ys at HQ HE hlen
          obtain ⟨v, hv1, hv2, hv3⟩ := HQ.out.1
          have hpw := lt_of_cell hv1
          have hfar : Hid (some pw ≠ v.ownBlock) := Lib.hid (fun e => by have := (hv3.lt pw e.symm).1; omega)
          have HM : Hid (ys.length + 1 ≤ maxLen) := Lib.hid (by rw [hlen]; unfold maxLen; omega)
          have HB : Hid ((ys.length + 1) * 1 ≤ 140737488355328) := Lib.hid (by rw [hlen]; omega)
          have H3 := Lib.hid hv3
          have HV := Lib.hid (And.intro hv1 hv2)
          clear hv3 hlen
          go_wp2_with fail
          go_region_law (
            refine step_append_lies _ (by rfl) _ _ _ (by rfl) (pw + 1) 5 i0 _ 1 1 Try.underlying22 hi hz0 hz1 hz2 rfl (by omega) v ys.length _ (by rfl) ((H3.out.alloc _).drew)
                ⟨wr.heap.size, 0, none⟩ 1 1 [.int .u8 (x % 256)] (by rfl) (by rfl) (World.news_of_block (cs := #[.int .u8 (x % 256)]) (t := 5) (fr := (0, 0)) (heap_alloc_new wr _)) (by simp [Value.oneCell'])
                (by omega) HM.out HB.out (by simp; omega) (wr.heap.size + 1) (by simp) ?_
            intro gg cap w1 hown1 hgrow hat hlt
            have hc1 : w1.cell? ⟨pw, 0, none⟩ = some v := (hgrow.cell_far _ (by simp; omega) hfar.out).trans (by simp [World.cell?_alloc_some, HV.out.1])
            have hf1 : w1.frozen? ⟨pw, 0, none⟩ = false := (hgrow.frozen_far _ (by simp; omega) hfar.out).trans ((frozen_da (p := ⟨pw, 0, none⟩) _ hpw).trans HV.out.2))
          all_goals
            go_wp2
            go_roundw
            case rel => exact ⟨1, by go_num, by omega, Lib.hid ⟨HE.out ▸ Wrt.next hown1 hc1 hf1, HQ.out.2.next H3.out hgrow⟩⟩
            case measure => simp [intOf]
        · have hlen := num_len xs l k x 1 hk hj
          have HE : Hid ((xs ++ (l.take k).flatMap quad ++ (quad x).take 1) ++ [x / 256 % 256] = xs ++ (l.take k).flatMap quad ++ (quad x).take 2) := Lib.hid (by rw [List.append_assoc]; rfl)
          generalize xs ++ (l.take k).flatMap quad ++ (quad x).take 1 = ys at HQ HE hlen
          obtain ⟨v, hv1, hv2, hv3⟩ := HQ.out.1
          have hpw := lt_of_cell hv1
          have hfar : Hid (some pw ≠ v.ownBlock) := Lib.hid (fun e => by have := (hv3.lt pw e.symm).1; omega)
          have HM : Hid (ys.length + 1 ≤ maxLen) := Lib.hid (by rw [hlen]; unfold maxLen; omega)
          have HB : Hid ((ys.length + 1) * 1 ≤ 140737488355328) := Lib.hid (by rw [hlen]; omega)
          have H3 := Lib.hid hv3
          have HV := Lib.hid (And.intro hv1 hv2)
          clear hv3 hlen
          go_wp2_with fail
          go_region_law (
            refine step_append_lies _ (by rfl) _ _ _ (by rfl) (pw + 1) 5 i0 _ 1 1 Try.underlying22 hi hz0 hz1 hz2 rfl (by omega) v ys.length _ (by rfl) ((H3.out.alloc _).drew)
                ⟨wr.heap.size, 0, none⟩ 1 1 [.int .u8 (x / 256 % 256)] (by rfl) (by rfl) (World.news_of_block (cs := #[.int .u8 (x / 256 % 256)]) (t := 5) (fr := (0, 0)) (heap_alloc_new wr _)) (by simp [Value.oneCell'])
                (by omega) HM.out HB.out (by simp; omega) (wr.heap.size + 1) (by simp) ?_
            intro gg cap w1 hown1 hgrow hat hlt
            have hc1 : w1.cell? ⟨pw, 0, none⟩ = some v := (hgrow.cell_far _ (by simp; omega) hfar.out).trans (by simp [World.cell?_alloc_some, HV.out.1])
            have hf1 : w1.frozen? ⟨pw, 0, none⟩ = false := (hgrow.frozen_far _ (by simp; omega) hfar.out).trans ((frozen_da (p := ⟨pw, 0, none⟩) _ hpw).trans HV.out.2))
          all_goals
            go_wp2
            go_roundw
            case rel => exact ⟨2, by go_num, by omega, Lib.hid ⟨HE.out ▸ Wrt.next hown1 hc1 hf1, HQ.out.2.next H3.out hgrow⟩⟩
            case measure => simp [intOf]
        · have hlen := num_len xs l k x 2 hk hj
          have HE : Hid ((xs ++ (l.take k).flatMap quad ++ (quad x).take 2) ++ [x / 65536 % 256] = xs ++ (l.take k).flatMap quad ++ (quad x).take 3) := Lib.hid (by rw [List.append_assoc]; rfl)
          generalize xs ++ (l.take k).flatMap quad ++ (quad x).take 2 = ys at HQ HE hlen
          obtain ⟨v, hv1, hv2, hv3⟩ := HQ.out.1
          have hpw := lt_of_cell hv1
          have hfar : Hid (some pw ≠ v.ownBlock) := Lib.hid (fun e => by have := (hv3.lt pw e.symm).1; omega)
          have HM : Hid (ys.length + 1 ≤ maxLen) := Lib.hid (by rw [hlen]; unfold maxLen; omega)
          have HB : Hid ((ys.length + 1) * 1 ≤ 140737488355328) := Lib.hid (by rw [hlen]; omega)
          have H3 := Lib.hid hv3
          have HV := Lib.hid (And.intro hv1 hv2)
          clear hv3 hlen
          go_wp2_with fail
          go_region_law (
            refine step_append_lies _ (by rfl) _ _ _ (by rfl) (pw + 1) 5 i0 _ 1 1 Try.underlying22 hi hz0 hz1 hz2 rfl (by omega) v ys.length _ (by rfl) ((H3.out.alloc _).drew)
                ⟨wr.heap.size, 0, none⟩ 1 1 [.int .u8 (x / 65536 % 256)] (by rfl) (by rfl) (World.news_of_block (cs := #[.int .u8 (x / 65536 % 256)]) (t := 5) (fr := (0, 0)) (heap_alloc_new wr _)) (by simp [Value.oneCell'])
                (by omega) HM.out HB.out (by simp; omega) (wr.heap.size + 1) (by simp) ?_
            intro gg cap w1 hown1 hgrow hat hlt
            have hc1 : w1.cell? ⟨pw, 0, none⟩ = some v := (hgrow.cell_far _ (by simp; omega) hfar.out).trans (by simp [World.cell?_alloc_some, HV.out.1])
            have hf1 : w1.frozen? ⟨pw, 0, none⟩ = false := (hgrow.frozen_far _ (by simp; omega) hfar.out).trans ((frozen_da (p := ⟨pw, 0, none⟩) _ hpw).trans HV.out.2))
          all_goals
            go_wp2
            go_roundw
            case rel => exact ⟨3, by go_num, by omega, Lib.hid ⟨HE.out ▸ Wrt.next hown1 hc1 hf1, HQ.out.2.next H3.out hgrow⟩⟩
            case measure => simp [intOf]
        · have hlen := num_len xs l k x 3 hk hj
          have HE : Hid ((xs ++ (l.take k).flatMap quad ++ (quad x).take 3) ++ [x / 16777216 % 256] = xs ++ (l.take k).flatMap quad ++ (quad x).take 4) := Lib.hid (by rw [List.append_assoc]; rfl)
          generalize xs ++ (l.take k).flatMap quad ++ (quad x).take 3 = ys at HQ HE hlen
          obtain ⟨v, hv1, hv2, hv3⟩ := HQ.out.1
          have hpw := lt_of_cell hv1
          have hfar : Hid (some pw ≠ v.ownBlock) := Lib.hid (fun e => by have := (hv3.lt pw e.symm).1; omega)
          have HM : Hid (ys.length + 1 ≤ maxLen) := Lib.hid (by rw [hlen]; unfold maxLen; omega)
          have HB : Hid ((ys.length + 1) * 1 ≤ 140737488355328) := Lib.hid (by rw [hlen]; omega)
          have H3 := Lib.hid hv3
          have HV := Lib.hid (And.intro hv1 hv2)
          clear hv3 hlen
          go_wp2_with fail
          go_region_law (
            refine step_append_lies _ (by rfl) _ _ _ (by rfl) (pw + 1) 5 i0 _ 1 1 Try.underlying22 hi hz0 hz1 hz2 rfl (by omega) v ys.length _ (by rfl) ((H3.out.alloc _).drew)
                ⟨wr.heap.size, 0, none⟩ 1 1 [.int .u8 (x / 16777216 % 256)] (by rfl) (by rfl) (World.news_of_block (cs := #[.int .u8 (x / 16777216 % 256)]) (t := 5) (fr := (0, 0)) (heap_alloc_new wr _)) (by simp [Value.oneCell'])
                (by omega) HM.out HB.out (by simp; omega) (wr.heap.size + 1) (by simp) ?_
            intro gg cap w1 hown1 hgrow hat hlt
            have hc1 : w1.cell? ⟨pw, 0, none⟩ = some v := (hgrow.cell_far _ (by simp; omega) hfar.out).trans (by simp [World.cell?_alloc_some, HV.out.1])
            have hf1 : w1.frozen? ⟨pw, 0, none⟩ = false := (hgrow.frozen_far _ (by simp; omega) hfar.out).trans ((frozen_da (p := ⟨pw, 0, none⟩) _ hpw).trans HV.out.2))
          all_goals
            go_wp2
            go_roundw
            case rel => exact ⟨4, by go_num, by omega, Lib.hid ⟨HE.out ▸ Wrt.next hown1 hc1 hf1, HQ.out.2.next H3.out hgrow⟩⟩
            case measure => simp [intOf]
        · go_wp2
          go_roundw
          case rel => exact ⟨k + 1, by go_num, by omega, Lib.hid ⟨by
            have h1 := HQ.out.1
            rw [show (quad x).take 4 = quad x from rfl, List.append_assoc, HX.out, ← flat_take hlt] at h1
            exact h1, HQ.out.2⟩⟩
          case measure => simp [intOf]; omega
    · have hkn : k = l.length := by omega
      subst hkn
      go_wp2
      go_end0
      exact ⟨rfl, by simpa using HR.out.1, HR.out.2⟩
/-- handed a new row of numbers -/
theorem num_lit (pw : Nat) (xs l : List Int) (W : World) (hw : Wrt pw 5 W xs) (hU : ∀ x ∈ l, U32 x) (hb : xs.length + 4 * l.length ≤ 1000000) :
    Calls Try.prog 50 #[.pointer (some ⟨pw, 0, none⟩), .slice (some ⟨W.heap.size, 0, none⟩) l.length l.length] (W.alloc (.cells (l.map (Value.int .u32)).toArray 34)) fun e w' =>
      e = .returned (.tuple #[]) ∧ Wrt pw 5 w' (xs ++ l.flatMap quad) ∧ Grew pw 5 W w' := by
  refine (num_any pw xs W.heap.size 0 l.length l _ (hw.alloc _) (at_alloc W _ _ _) ⟨hw.lt, fun cs fr => ?_⟩ hU (Nat.le_refl _) (by unfold maxLen; omega) hb).mono ?_
  · have h := heap_alloc_new W (.cells (l.map (Value.int .u32)).toArray 34)
    rw [h]
    intro e
    injection e with e
    injection e with _ e2
    exact absurd e2 (by decide)
  · rintro e w' ⟨h1, h2, h3⟩
    exact ⟨h1, h2, (Grew.alloc _ _ _ _).trans h3⟩
end Go.Proofs.Ytlfnddmncbkjaab.W
