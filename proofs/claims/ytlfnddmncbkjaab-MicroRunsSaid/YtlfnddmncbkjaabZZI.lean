/- Package micro: parts, between, fits, walked. -/
import Derived.Test.YtlfnddmncbkjaabZWMay7
import Derived.Deep.CutRange
namespace Go.Proofs.Ytlfnddmncbkjaab.W
set_option linter.unusedVariables false
set_option linter.unusedSimpArgs false
open Go.RowKit Fb
set_option maxRecDepth 100000 in
theorem parts_lo (op : Int) (w : World) (h : op < 100) :
    Calls Try.prog 114 #[.int .i64 op] w fun e w' => e = .returned (.tuple #[.int .i64 op, .int .i64 0]) ∧ w' = w := by
  go_enter Try.func114, Try.ntmps114
  go_wp2_with fail
  exact bodyPost_ret (v := .tuple #[.int .i64 op, .int .i64 0]) (by simp [results, Try.results114, go_sem]) rfl ⟨rfl, rfl⟩
set_option maxRecDepth 100000 in
theorem parts_hi (op c s : Int) (w : World) (h : op = c + s) (hc : 100 ≤ c ∧ c ≤ 9223372036854775807) (hd : c % 100 = 0) (hs : 0 ≤ s ∧ s < 100) :
    Calls Try.prog 114 #[.int .i64 op] w fun e w' => e = .returned (.tuple #[.int .i64 c, .int .i64 s]) ∧ w' = w := by
  have h1 : ¬ op < 100 := by omega
  have h2 : wrap64 (wrap64 (op.tdiv 100) * 100) = c := by
    rw [Int.tdiv_eq_ediv_of_nonneg (by omega)]
    unfold wrap64; omega
  have h3 : op % 100 = s := by omega
  have H2 := Lib.hid h2
  have H3 := Lib.hid h3
  clear h2 h3 h
  go_enter Try.func114, Try.ntmps114
  go_wp2_with fail
  rw [H2.out, H3.out]
  exact bodyPost_ret (v := .tuple #[.int .i64 c, .int .i64 s]) (by simp [results, Try.results114, go_sem]) rfl ⟨rfl, rfl⟩
set_option maxRecDepth 100000 in
theorem between_any (n l m : Int) (w : World) :
    Calls Try.prog 84 #[.int .i64 n, .int .i64 l, .int .i64 m] w fun e w' => e = .returned (.bool (decide (l ≤ n) && decide (n ≤ m))) ∧ w' = w := by
  by_cases h1 : l ≤ n
  · have h1' : decide (l ≤ n) = true := decide_eq_true h1
    by_cases h2 : n ≤ m
    · have h2' : decide (n ≤ m) = true := decide_eq_true h2
      rw [h1', h2']
      clear h1 h2
      go_enter Try.func84, Try.ntmps84
      go_wp2_with fail
      go_ret
      exact ⟨rfl, rfl⟩
    · have h2' : decide (n ≤ m) = false := decide_eq_false h2
      rw [h1', h2']
      clear h1 h2
      go_enter Try.func84, Try.ntmps84
      go_wp2_with fail
      go_ret
      exact ⟨rfl, rfl⟩
  · have h1' : decide (l ≤ n) = false := decide_eq_false h1
    rw [h1']
    clear h1
    go_enter Try.func84, Try.ntmps84
    go_wp2_with fail
    go_ret
    exact ⟨rfl, rfl⟩
set_option maxRecDepth 100000 in
theorem fits_any (b : Bool) (r : Int) (w : World) :
    Calls Try.prog 83 #[.bool b, .int .i64 r] w fun e w' => e = .returned (.bool (regOk b r)) ∧ w' = w := by
  have HBT := Lib.hid (between_any r 0 35 w)
  by_cases h0 : r = 0
  · subst h0
    have e : regOk b 0 = true := regOk_zero b
    rw [e]
    clear e
    go_enter Try.func83, Try.ntmps83
    go_wp2_with fail
    go_ret
    exact ⟨rfl, rfl⟩
  · have p0 : (r == 0) = false := by simp [h0]
    have p1 : decide (r = 0) = false := decide_eq_false h0
    obtain ⟨res, hres⟩ : ∃ res, res = regOk b r := ⟨_, rfl⟩
    rw [← hres]
    have HR : Hid (res = (b && (decide (0 ≤ r) && decide (r ≤ 35)))) := Lib.hid (by
      rw [hres]; unfold regOk
      have : decide (r < 36) = decide (r ≤ 35) := by congr 1; apply propext; omega
      rw [this]; cases b <;> simp [h0])
    clear hres h0
    cases b with
    | false =>
      go_enter Try.func83, Try.ntmps83
      go_wp2_with fail
      go_ret
      exact ⟨by rw [HR.out]; rfl, rfl⟩
    | true =>
      go_enter Try.func83, Try.ntmps83
      go_wp2_with fail
      refine HBT.out.mono ?_
      rintro e w1 ⟨rfl, rfl⟩
      go_wp2_with fail
      go_ret
      exact ⟨by rw [HR.out]; simp, rfl⟩
end Go.Proofs.Ytlfnddmncbkjaab.W

/- Package micro: shape, walked. -/
namespace Go.Proofs.Ytlfnddmncbkjaab.W
set_option linter.unusedVariables false
set_option linter.unusedSimpArgs false
open Go.RowKit Fb
set_option maxRecDepth 100000 in
set_option maxHeartbeats 800000 in
theorem shape_1 (w : World) : Calls Try.prog 82 #[.int .i64 1] w fun e w' => e = .returned (.tuple #[.bool false, .bool false, .bool false, .bool true, .bool true]) ∧ w' = w := by
  have HP := Lib.hid (parts_lo 1 w (by omega))
  go_enter Try.func82, Try.ntmps82
  go_wp2_with fail
  refine HP.out.mono ?_
  rintro e w1 ⟨rfl, rfl⟩
  go_wp2_with fail
  exact bodyPost_ret (v := .tuple #[.bool false, .bool false, .bool false, .bool true, .bool true]) (by simp [results, Try.results82, go_sem]) rfl ⟨rfl, rfl⟩
set_option maxRecDepth 100000 in
set_option maxHeartbeats 800000 in
theorem shape_3 (w : World) : Calls Try.prog 82 #[.int .i64 3] w fun e w' => e = .returned (.tuple #[.bool false, .bool false, .bool false, .bool true, .bool true]) ∧ w' = w := by
  have HP := Lib.hid (parts_lo 3 w (by omega))
  go_enter Try.func82, Try.ntmps82
  go_wp2_with fail
  refine HP.out.mono ?_
  rintro e w1 ⟨rfl, rfl⟩
  go_wp2_with fail
  exact bodyPost_ret (v := .tuple #[.bool false, .bool false, .bool false, .bool true, .bool true]) (by simp [results, Try.results82, go_sem]) rfl ⟨rfl, rfl⟩
set_option maxRecDepth 100000 in
set_option maxHeartbeats 800000 in
theorem shape_2 (w : World) : Calls Try.prog 82 #[.int .i64 2] w fun e w' => e = .returned (.tuple #[.bool true, .bool false, .bool false, .bool true, .bool true]) ∧ w' = w := by
  have HP := Lib.hid (parts_lo 2 w (by omega))
  go_enter Try.func82, Try.ntmps82
  go_wp2_with fail
  refine HP.out.mono ?_
  rintro e w1 ⟨rfl, rfl⟩
  go_wp2_with fail
  exact bodyPost_ret (v := .tuple #[.bool true, .bool false, .bool false, .bool true, .bool true]) (by simp [results, Try.results82, go_sem]) rfl ⟨rfl, rfl⟩
set_option maxRecDepth 100000 in
set_option maxHeartbeats 800000 in
theorem shape_4 (w : World) : Calls Try.prog 82 #[.int .i64 4] w fun e w' => e = .returned (.tuple #[.bool false, .bool true, .bool false, .bool true, .bool true]) ∧ w' = w := by
  have HP := Lib.hid (parts_lo 4 w (by omega))
  go_enter Try.func82, Try.ntmps82
  go_wp2_with fail
  refine HP.out.mono ?_
  rintro e w1 ⟨rfl, rfl⟩
  go_wp2_with fail
  exact bodyPost_ret (v := .tuple #[.bool false, .bool true, .bool false, .bool true, .bool true]) (by simp [results, Try.results82, go_sem]) rfl ⟨rfl, rfl⟩
set_option maxRecDepth 100000 in
set_option maxHeartbeats 800000 in
theorem shape_5 (w : World) : Calls Try.prog 82 #[.int .i64 5] w fun e w' => e = .returned (.tuple #[.bool false, .bool false, .bool false, .bool false, .bool true]) ∧ w' = w := by
  have HP := Lib.hid (parts_lo 5 w (by omega))
  go_enter Try.func82, Try.ntmps82
  go_wp2_with fail
  refine HP.out.mono ?_
  rintro e w1 ⟨rfl, rfl⟩
  go_wp2_with fail
  exact bodyPost_ret (v := .tuple #[.bool false, .bool false, .bool false, .bool false, .bool true]) (by simp [results, Try.results82, go_sem]) rfl ⟨rfl, rfl⟩
set_option maxRecDepth 100000 in
set_option maxHeartbeats 800000 in
theorem shape_6 (w : World) : Calls Try.prog 82 #[.int .i64 6] w fun e w' => e = .returned (.tuple #[.bool false, .bool false, .bool false, .bool false, .bool true]) ∧ w' = w := by
  have HP := Lib.hid (parts_lo 6 w (by omega))
  go_enter Try.func82, Try.ntmps82
  go_wp2_with fail
  refine HP.out.mono ?_
  rintro e w1 ⟨rfl, rfl⟩
  go_wp2_with fail
  exact bodyPost_ret (v := .tuple #[.bool false, .bool false, .bool false, .bool false, .bool true]) (by simp [results, Try.results82, go_sem]) rfl ⟨rfl, rfl⟩
set_option maxRecDepth 100000 in
set_option maxHeartbeats 800000 in
theorem shape_no (op c s : Int) (w : World) (h1 : ¬ (op = 1 ∨ op = 2 ∨ op = 3 ∨ op = 4 ∨ op = 5 ∨ op = 6)) (hp : Calls Try.prog 114 #[.int .i64 op] w fun e w' => e = .returned (.tuple #[.int .i64 c, .int .i64 s]) ∧ w' = w) (hc : ¬ (c = 1 ∨ c = 2 ∨ c = 3 ∨ c = 4 ∨ c = 5 ∨ c = 6 ∨ c = 100 ∨ c = 200 ∨ c = 300 ∨ c = 400 ∨ c = 500 ∨ c = 600)) :
    Calls Try.prog 82 #[.int .i64 op] w fun e w' => e = .returned (.tuple #[.bool false, .bool false, .bool false, .bool false, .bool false]) ∧ w' = w := by
  have HP := Lib.hid hp
  have a1 : (c == 1) = false := by simp; omega
  have d1 : decide (c = 1) = false := by simp; omega
  have a2 : (c == 2) = false := by simp; omega
  have d2 : decide (c = 2) = false := by simp; omega
  have a3 : (c == 3) = false := by simp; omega
  have d3 : decide (c = 3) = false := by simp; omega
  have a4 : (c == 4) = false := by simp; omega
  have d4 : decide (c = 4) = false := by simp; omega
  have a5 : (c == 5) = false := by simp; omega
  have d5 : decide (c = 5) = false := by simp; omega
  have a6 : (c == 6) = false := by simp; omega
  have d6 : decide (c = 6) = false := by simp; omega
  have a100 : (c == 100) = false := by simp; omega
  have d100 : decide (c = 100) = false := by simp; omega
  have a200 : (c == 200) = false := by simp; omega
  have d200 : decide (c = 200) = false := by simp; omega
  have a300 : (c == 300) = false := by simp; omega
  have d300 : decide (c = 300) = false := by simp; omega
  have a400 : (c == 400) = false := by simp; omega
  have d400 : decide (c = 400) = false := by simp; omega
  have a500 : (c == 500) = false := by simp; omega
  have d500 : decide (c = 500) = false := by simp; omega
  have a600 : (c == 600) = false := by simp; omega
  have d600 : decide (c = 600) = false := by simp; omega
  clear hp hc h1
  go_enter Try.func82, Try.ntmps82
  go_wp2_with fail
  refine HP.out.mono ?_
  rintro e w1 ⟨rfl, rfl⟩
  go_wp2_with fail
  exact bodyPost_ret (v := .tuple #[.bool false, .bool false, .bool false, .bool false, .bool false]) (by simp [results, Try.results82, go_sem]) rfl ⟨rfl, rfl⟩
set_option maxRecDepth 100000 in
set_option maxHeartbeats 800000 in
theorem shape_100 (op s : Int) (w : World) (h : op = 100 + s) (hs : 0 ≤ s ∧ s < 100) : Calls Try.prog 82 #[.int .i64 op] w fun e w' => e = .returned (.tuple #[.bool false, .bool true, .bool true, .bool true, .bool (decide (5 ≤ s) && decide (s ≤ 10))]) ∧ w' = w := by
  have HP := Lib.hid (parts_hi op 100 s w h (by omega) (by decide) hs)
  have HBT := Lib.hid (between_any s 5 10 w)
  obtain ⟨r, hr⟩ : ∃ r, r = (decide (5 ≤ s) && decide (s ≤ 10)) := ⟨_, rfl⟩
  rw [← hr] at HBT ⊢
  clear hr h hs
  go_enter Try.func82, Try.ntmps82
  go_wp2_with fail
  refine HP.out.mono ?_
  rintro e w1 ⟨rfl, rfl⟩
  go_wp2_with fail
  refine HBT.out.mono ?_
  rintro e w2 ⟨rfl, rfl⟩
  go_wp2_with fail
  exact bodyPost_ret (v := .tuple #[.bool false, .bool true, .bool true, .bool true, .bool r]) (by simp [results, Try.results82, go_sem]) rfl ⟨rfl, rfl⟩
set_option maxRecDepth 100000 in
set_option maxHeartbeats 800000 in
theorem shape_200 (op s : Int) (w : World) (h : op = 200 + s) (hs : 0 ≤ s ∧ s < 100) : Calls Try.prog 82 #[.int .i64 op] w fun e w' => e = .returned (.tuple #[.bool true, .bool true, .bool false, .bool true, .bool (decide (11 ≤ s) && decide (s ≤ 15))]) ∧ w' = w := by
  have HP := Lib.hid (parts_hi op 200 s w h (by omega) (by decide) hs)
  have HBT := Lib.hid (between_any s 11 15 w)
  obtain ⟨r, hr⟩ : ∃ r, r = (decide (11 ≤ s) && decide (s ≤ 15)) := ⟨_, rfl⟩
  rw [← hr] at HBT ⊢
  clear hr h hs
  go_enter Try.func82, Try.ntmps82
  go_wp2_with fail
  refine HP.out.mono ?_
  rintro e w1 ⟨rfl, rfl⟩
  go_wp2_with fail
  refine HBT.out.mono ?_
  rintro e w2 ⟨rfl, rfl⟩
  go_wp2_with fail
  exact bodyPost_ret (v := .tuple #[.bool true, .bool true, .bool false, .bool true, .bool r]) (by simp [results, Try.results82, go_sem]) rfl ⟨rfl, rfl⟩
set_option maxRecDepth 100000 in
set_option maxHeartbeats 800000 in
theorem shape_300 (op s : Int) (w : World) (h : op = 300 + s) (hs : 0 ≤ s ∧ s < 100) : Calls Try.prog 82 #[.int .i64 op] w fun e w' => e = .returned (.tuple #[.bool false, .bool true, .bool true, .bool true, .bool (decide (16 ≤ s) && decide (s ≤ 18))]) ∧ w' = w := by
  have HP := Lib.hid (parts_hi op 300 s w h (by omega) (by decide) hs)
  have HBT := Lib.hid (between_any s 16 18 w)
  obtain ⟨r, hr⟩ : ∃ r, r = (decide (16 ≤ s) && decide (s ≤ 18)) := ⟨_, rfl⟩
  rw [← hr] at HBT ⊢
  clear hr h hs
  go_enter Try.func82, Try.ntmps82
  go_wp2_with fail
  refine HP.out.mono ?_
  rintro e w1 ⟨rfl, rfl⟩
  go_wp2_with fail
  refine HBT.out.mono ?_
  rintro e w2 ⟨rfl, rfl⟩
  go_wp2_with fail
  exact bodyPost_ret (v := .tuple #[.bool false, .bool true, .bool true, .bool true, .bool r]) (by simp [results, Try.results82, go_sem]) rfl ⟨rfl, rfl⟩
set_option maxRecDepth 100000 in
set_option maxHeartbeats 800000 in
theorem shape_400 (op s : Int) (w : World) (h : op = 400 + s) (hs : 0 ≤ s ∧ s < 100) : Calls Try.prog 82 #[.int .i64 op] w fun e w' => e = .returned (.tuple #[.bool true, .bool true, .bool true, .bool false, .bool (decide (28 ≤ s) && decide (s ≤ 45))]) ∧ w' = w := by
  have HP := Lib.hid (parts_hi op 400 s w h (by omega) (by decide) hs)
  have HBT := Lib.hid (between_any s 28 45 w)
  obtain ⟨r, hr⟩ : ∃ r, r = (decide (28 ≤ s) && decide (s ≤ 45)) := ⟨_, rfl⟩
  rw [← hr] at HBT ⊢
  clear hr h hs
  go_enter Try.func82, Try.ntmps82
  go_wp2_with fail
  refine HP.out.mono ?_
  rintro e w1 ⟨rfl, rfl⟩
  go_wp2_with fail
  refine HBT.out.mono ?_
  rintro e w2 ⟨rfl, rfl⟩
  go_wp2_with fail
  exact bodyPost_ret (v := .tuple #[.bool true, .bool true, .bool true, .bool false, .bool r]) (by simp [results, Try.results82, go_sem]) rfl ⟨rfl, rfl⟩
set_option maxRecDepth 100000 in
set_option maxHeartbeats 800000 in
theorem shape_500 (op s : Int) (w : World) (h : op = 500 + s) (hs : 0 ≤ s ∧ s < 100) : Calls Try.prog 82 #[.int .i64 op] w fun e w' => e = .returned (.tuple #[.bool true, .bool true, .bool false, .bool true, .bool (decide (28 ≤ s) && decide (s ≤ 45))]) ∧ w' = w := by
  have HP := Lib.hid (parts_hi op 500 s w h (by omega) (by decide) hs)
  have HBT := Lib.hid (between_any s 28 45 w)
  obtain ⟨r, hr⟩ : ∃ r, r = (decide (28 ≤ s) && decide (s ≤ 45)) := ⟨_, rfl⟩
  rw [← hr] at HBT ⊢
  clear hr h hs
  go_enter Try.func82, Try.ntmps82
  go_wp2_with fail
  refine HP.out.mono ?_
  rintro e w1 ⟨rfl, rfl⟩
  go_wp2_with fail
  refine HBT.out.mono ?_
  rintro e w2 ⟨rfl, rfl⟩
  go_wp2_with fail
  exact bodyPost_ret (v := .tuple #[.bool true, .bool true, .bool false, .bool true, .bool r]) (by simp [results, Try.results82, go_sem]) rfl ⟨rfl, rfl⟩
set_option maxRecDepth 100000 in
set_option maxHeartbeats 800000 in
theorem shape_600 (op s : Int) (w : World) (h : op = 600 + s) (hs : 0 ≤ s ∧ s < 100) : Calls Try.prog 82 #[.int .i64 op] w fun e w' => e = .returned (.tuple #[.bool true, .bool true, .bool true, .bool false, .bool (decide (46 ≤ s) && decide (s ≤ 56))]) ∧ w' = w := by
  have HP := Lib.hid (parts_hi op 600 s w h (by omega) (by decide) hs)
  have HBT := Lib.hid (between_any s 46 56 w)
  obtain ⟨r, hr⟩ : ∃ r, r = (decide (46 ≤ s) && decide (s ≤ 56)) := ⟨_, rfl⟩
  rw [← hr] at HBT ⊢
  clear hr h hs
  go_enter Try.func82, Try.ntmps82
  go_wp2_with fail
  refine HP.out.mono ?_
  rintro e w1 ⟨rfl, rfl⟩
  go_wp2_with fail
  refine HBT.out.mono ?_
  rintro e w2 ⟨rfl, rfl⟩
  go_wp2_with fail
  exact bodyPost_ret (v := .tuple #[.bool true, .bool true, .bool true, .bool false, .bool r]) (by simp [results, Try.results82, go_sem]) rfl ⟨rfl, rfl⟩
end Go.Proofs.Ytlfnddmncbkjaab.W

/- Package micro: shape of any operation. -/
namespace Go.Proofs.Ytlfnddmncbkjaab.Fb
set_option linter.unusedVariables false
set_option linter.unusedSimpArgs false
open Go.RowKit
theorem namedI_cs {op c s : Int} (h : op = c + s) (hs : 0 ≤ s ∧ s < 100) (hc : 100 ≤ c) (hd : c % 100 = 0) : namedI op = namedK c s := by
  have h1 : op.tmod 100 = s := by rw [Int.tmod_eq_emod_of_nonneg (by omega)]; omega
  rw [namedI_k (by omega), h1, show op - s = c by omega]
theorem namedK_no {c s : Int} (h : ¬ (c = 100 ∨ c = 200 ∨ c = 300 ∨ c = 400 ∨ c = 500 ∨ c = 600)) : namedK c s = -1 := by
  unfold namedK
  rw [if_neg (by omega), if_neg (by omega), if_neg (by omega), if_neg (by omega), if_neg (by omega), if_neg (by omega)]
theorem namedI_lo {op : Int} (h : op < 100) (h1 : ¬ (op = 1 ∨ op = 2 ∨ op = 3 ∨ op = 4 ∨ op = 5 ∨ op = 6)) : namedI op = -1 := by
  rw [namedI_k (by omega)]
  refine namedK_no ?_
  rcases Int.le_total 0 op with h0 | h0
  · rw [Int.tmod_eq_emod_of_nonneg h0]; omega
  · have e : op.tmod 100 = -((-op).tmod 100) := by rw [Int.neg_tmod]; simp
    rw [e, Int.tmod_eq_emod_of_nonneg (by omega)]; omega
/-- what is told of an operation -/
def ShapeR (op : Int) (bd ba bb bn : Bool) : Prop := 0 ≤ namedI op → bd = decide ((namedI op).tmod 2 = 1) ∧ ba = decide (((namedI op).tdiv 2).tmod 2 = 1) ∧ bb = decide (((namedI op).tdiv 4).tmod 2 = 1) ∧ bn = decide (8 ≤ namedI op)
end Go.Proofs.Ytlfnddmncbkjaab.Fb
namespace Go.Proofs.Ytlfnddmncbkjaab.W
open Go.RowKit Fb
theorem shape_any (op : Int) (w : World) (hop : -9223372036854775808 ≤ op ∧ op ≤ 9223372036854775807) :
    Calls Try.prog 82 #[.int .i64 op] w fun e w' => (∃ bd ba bb bn, e = .returned (.tuple #[.bool bd, .bool ba, .bool bb, .bool bn, .bool (decide (0 ≤ namedI op))]) ∧ ShapeR op bd ba bb bn) ∧ w' = w := by
  by_cases k1 : op = 1
  · subst k1
    refine (shape_1 w).mono ?_
    rintro e w' ⟨rfl, rfl⟩
    exact ⟨⟨_, _, _, _, rfl, fun _ => by decide⟩, rfl⟩
  by_cases k2 : op = 2
  · subst k2
    refine (shape_2 w).mono ?_
    rintro e w' ⟨rfl, rfl⟩
    exact ⟨⟨_, _, _, _, rfl, fun _ => by decide⟩, rfl⟩
  by_cases k3 : op = 3
  · subst k3
    refine (shape_3 w).mono ?_
    rintro e w' ⟨rfl, rfl⟩
    exact ⟨⟨_, _, _, _, rfl, fun _ => by decide⟩, rfl⟩
  by_cases k4 : op = 4
  · subst k4
    refine (shape_4 w).mono ?_
    rintro e w' ⟨rfl, rfl⟩
    exact ⟨⟨_, _, _, _, rfl, fun _ => by decide⟩, rfl⟩
  by_cases k5 : op = 5
  · subst k5
    refine (shape_5 w).mono ?_
    rintro e w' ⟨rfl, rfl⟩
    exact ⟨⟨_, _, _, _, rfl, fun _ => by decide⟩, rfl⟩
  by_cases k6 : op = 6
  · subst k6
    refine (shape_6 w).mono ?_
    rintro e w' ⟨rfl, rfl⟩
    exact ⟨⟨_, _, _, _, rfl, fun _ => by decide⟩, rfl⟩
  have hsm : ¬ (op = 1 ∨ op = 2 ∨ op = 3 ∨ op = 4 ∨ op = 5 ∨ op = 6) := by omega
  by_cases hlo : op < 100
  · have hn := namedI_lo hlo hsm
    refine (shape_no op op 0 w hsm (parts_lo op w hlo) (by omega)).mono ?_
    rintro e w' ⟨rfl, rfl⟩
    have hd : decide (0 ≤ namedI op) = false := by rw [hn]; rfl
    rw [hd]
    exact ⟨⟨_, _, _, _, rfl, fun h => by rw [hn] at h; omega⟩, rfl⟩
  obtain ⟨s, hs⟩ : ∃ s, s = op % 100 := ⟨_, rfl⟩
  obtain ⟨c, hc⟩ : ∃ c, c = op - s := ⟨_, rfl⟩
  have e : op = c + s := by omega
  have hs0 : 0 ≤ s ∧ s < 100 := by omega
  have hc0 : 100 ≤ c := by omega
  have hcd : c % 100 = 0 := by omega
  have hn := namedI_cs e hs0 hc0 hcd
  by_cases q100 : c = 100
  · subst q100
    refine (shape_100 op s w e hs0).mono ?_
    rintro e' w' ⟨rfl, rfl⟩
    by_cases hr : 5 ≤ s ∧ s ≤ 10
    · have hv : namedI op = 14 := by rw [hn]; unfold namedK;  rw [if_pos rfl, if_pos hr]
      have hd : (decide (5 ≤ s) && decide (s ≤ 10)) = decide (0 ≤ namedI op) := by rw [hv, decide_eq_true hr.1, decide_eq_true hr.2]; rfl
      rw [hd]
      exact ⟨⟨_, _, _, _, rfl, fun _ => by rw [hv]; decide⟩, rfl⟩
    · have hv : namedI op = -1 := by rw [hn]; unfold namedK;  rw [if_pos rfl, if_neg hr]
      have hd : (decide (5 ≤ s) && decide (s ≤ 10)) = decide (0 ≤ namedI op) := by
        rw [hv]
        by_cases h1 : 5 ≤ s
        · rw [decide_eq_false (fun h2 => hr ⟨h1, h2⟩)]; simp
        · rw [decide_eq_false h1]; simp
      rw [hd]
      exact ⟨⟨_, _, _, _, rfl, fun h => by rw [hv] at h; omega⟩, rfl⟩
  by_cases q200 : c = 200
  · subst q200
    refine (shape_200 op s w e hs0).mono ?_
    rintro e' w' ⟨rfl, rfl⟩
    by_cases hr : 11 ≤ s ∧ s ≤ 15
    · have hv : namedI op = 11 := by rw [hn]; unfold namedK; rw [if_neg (by omega)]; rw [if_pos rfl, if_pos hr]
      have hd : (decide (11 ≤ s) && decide (s ≤ 15)) = decide (0 ≤ namedI op) := by rw [hv, decide_eq_true hr.1, decide_eq_true hr.2]; rfl
      rw [hd]
      exact ⟨⟨_, _, _, _, rfl, fun _ => by rw [hv]; decide⟩, rfl⟩
    · have hv : namedI op = -1 := by rw [hn]; unfold namedK; rw [if_neg (by omega)]; rw [if_pos rfl, if_neg hr]
      have hd : (decide (11 ≤ s) && decide (s ≤ 15)) = decide (0 ≤ namedI op) := by
        rw [hv]
        by_cases h1 : 11 ≤ s
        · rw [decide_eq_false (fun h2 => hr ⟨h1, h2⟩)]; simp
        · rw [decide_eq_false h1]; simp
      rw [hd]
      exact ⟨⟨_, _, _, _, rfl, fun h => by rw [hv] at h; omega⟩, rfl⟩
  by_cases q300 : c = 300
  · subst q300
    refine (shape_300 op s w e hs0).mono ?_
    rintro e' w' ⟨rfl, rfl⟩
    by_cases hr : 16 ≤ s ∧ s ≤ 18
    · have hv : namedI op = 14 := by rw [hn]; unfold namedK; rw [if_neg (by omega)]; rw [if_neg (by omega)]; rw [if_pos rfl, if_pos hr]
      have hd : (decide (16 ≤ s) && decide (s ≤ 18)) = decide (0 ≤ namedI op) := by rw [hv, decide_eq_true hr.1, decide_eq_true hr.2]; rfl
      rw [hd]
      exact ⟨⟨_, _, _, _, rfl, fun _ => by rw [hv]; decide⟩, rfl⟩
    · have hv : namedI op = -1 := by rw [hn]; unfold namedK; rw [if_neg (by omega)]; rw [if_neg (by omega)]; rw [if_pos rfl, if_neg hr]
      have hd : (decide (16 ≤ s) && decide (s ≤ 18)) = decide (0 ≤ namedI op) := by
        rw [hv]
        by_cases h1 : 16 ≤ s
        · rw [decide_eq_false (fun h2 => hr ⟨h1, h2⟩)]; simp
        · rw [decide_eq_false h1]; simp
      rw [hd]
      exact ⟨⟨_, _, _, _, rfl, fun h => by rw [hv] at h; omega⟩, rfl⟩
  by_cases q400 : c = 400
  · subst q400
    refine (shape_400 op s w e hs0).mono ?_
    rintro e' w' ⟨rfl, rfl⟩
    by_cases hr : 28 ≤ s ∧ s ≤ 45
    · have hv : namedI op = 7 := by rw [hn]; unfold namedK; rw [if_neg (by omega)]; rw [if_neg (by omega)]; rw [if_neg (by omega)]; rw [if_pos rfl, if_pos hr]
      have hd : (decide (28 ≤ s) && decide (s ≤ 45)) = decide (0 ≤ namedI op) := by rw [hv, decide_eq_true hr.1, decide_eq_true hr.2]; rfl
      rw [hd]
      exact ⟨⟨_, _, _, _, rfl, fun _ => by rw [hv]; decide⟩, rfl⟩
    · have hv : namedI op = -1 := by rw [hn]; unfold namedK; rw [if_neg (by omega)]; rw [if_neg (by omega)]; rw [if_neg (by omega)]; rw [if_pos rfl, if_neg hr]
      have hd : (decide (28 ≤ s) && decide (s ≤ 45)) = decide (0 ≤ namedI op) := by
        rw [hv]
        by_cases h1 : 28 ≤ s
        · rw [decide_eq_false (fun h2 => hr ⟨h1, h2⟩)]; simp
        · rw [decide_eq_false h1]; simp
      rw [hd]
      exact ⟨⟨_, _, _, _, rfl, fun h => by rw [hv] at h; omega⟩, rfl⟩
  by_cases q500 : c = 500
  · subst q500
    refine (shape_500 op s w e hs0).mono ?_
    rintro e' w' ⟨rfl, rfl⟩
    by_cases hr : 28 ≤ s ∧ s ≤ 45
    · have hv : namedI op = 11 := by rw [hn]; unfold namedK; rw [if_neg (by omega)]; rw [if_neg (by omega)]; rw [if_neg (by omega)]; rw [if_neg (by omega)]; rw [if_pos rfl, if_pos hr]
      have hd : (decide (28 ≤ s) && decide (s ≤ 45)) = decide (0 ≤ namedI op) := by rw [hv, decide_eq_true hr.1, decide_eq_true hr.2]; rfl
      rw [hd]
      exact ⟨⟨_, _, _, _, rfl, fun _ => by rw [hv]; decide⟩, rfl⟩
    · have hv : namedI op = -1 := by rw [hn]; unfold namedK; rw [if_neg (by omega)]; rw [if_neg (by omega)]; rw [if_neg (by omega)]; rw [if_neg (by omega)]; rw [if_pos rfl, if_neg hr]
      have hd : (decide (28 ≤ s) && decide (s ≤ 45)) = decide (0 ≤ namedI op) := by
        rw [hv]
        by_cases h1 : 28 ≤ s
        · rw [decide_eq_false (fun h2 => hr ⟨h1, h2⟩)]; simp
        · rw [decide_eq_false h1]; simp
      rw [hd]
      exact ⟨⟨_, _, _, _, rfl, fun h => by rw [hv] at h; omega⟩, rfl⟩
  by_cases q600 : c = 600
  · subst q600
    refine (shape_600 op s w e hs0).mono ?_
    rintro e' w' ⟨rfl, rfl⟩
    by_cases hr : 46 ≤ s ∧ s ≤ 56
    · have hv : namedI op = 7 := by rw [hn]; unfold namedK; rw [if_neg (by omega)]; rw [if_neg (by omega)]; rw [if_neg (by omega)]; rw [if_neg (by omega)]; rw [if_neg (by omega)]; rw [if_pos rfl, if_pos hr]
      have hd : (decide (46 ≤ s) && decide (s ≤ 56)) = decide (0 ≤ namedI op) := by rw [hv, decide_eq_true hr.1, decide_eq_true hr.2]; rfl
      rw [hd]
      exact ⟨⟨_, _, _, _, rfl, fun _ => by rw [hv]; decide⟩, rfl⟩
    · have hv : namedI op = -1 := by rw [hn]; unfold namedK; rw [if_neg (by omega)]; rw [if_neg (by omega)]; rw [if_neg (by omega)]; rw [if_neg (by omega)]; rw [if_neg (by omega)]; rw [if_pos rfl, if_neg hr]
      have hd : (decide (46 ≤ s) && decide (s ≤ 56)) = decide (0 ≤ namedI op) := by
        rw [hv]
        by_cases h1 : 46 ≤ s
        · rw [decide_eq_false (fun h2 => hr ⟨h1, h2⟩)]; simp
        · rw [decide_eq_false h1]; simp
      rw [hd]
      exact ⟨⟨_, _, _, _, rfl, fun h => by rw [hv] at h; omega⟩, rfl⟩
  have hv : namedI op = -1 := by rw [hn]; exact namedK_no (by omega)
  refine (shape_no op c s w hsm (parts_hi op c s w e ⟨hc0, by omega⟩ hcd hs0) (by omega)).mono ?_
  rintro e' w' ⟨rfl, rfl⟩
  have hd : decide (0 ≤ namedI op) = false := by rw [hv]; rfl
  rw [hd]
  exact ⟨⟨_, _, _, _, rfl, fun h => by rw [hv] at h; omega⟩, rfl⟩
end Go.Proofs.Ytlfnddmncbkjaab.W

/- Package micro: May, walked. -/
namespace Go.Proofs.Ytlfnddmncbkjaab.Fb
set_option linter.unusedVariables false
set_option linter.unusedSimpArgs false
open Go.RowKit
theorem mayM_shape {m : MicD} {bd ba bb bn : Bool} (h : ShapeR m.op bd ba bb bn) : mayM m = (decide (0 ≤ namedI m.op) && regOk bd m.d && regOk ba m.a && regOk bb m.b && !(!bn && m.n != 0)) := by
  by_cases h0 : 0 ≤ namedI m.op
  · obtain ⟨h1, h2, h3, h4⟩ := h h0
    unfold mayM
    rw [decide_eq_true h0, ← h1, ← h2, ← h3, h4]
    have e1 : decide (namedI m.op < 0) = false := decide_eq_false (by omega)
    have e2 : decide (namedI m.op < 8) = !decide (8 ≤ namedI m.op) := by
      by_cases q : 8 ≤ namedI m.op
      · rw [decide_eq_true q, decide_eq_false (by omega)]; rfl
      · rw [decide_eq_false q, decide_eq_true (by omega)]; rfl
    rw [e1, e2]
    cases regOk bd m.d <;> cases regOk ba m.a <;> cases regOk bb m.b <;> simp
  · unfold mayM
    rw [decide_eq_false h0, decide_eq_true (show namedI m.op < 0 by omega)]
    simp
end Go.Proofs.Ytlfnddmncbkjaab.Fb
namespace Go.Proofs.Ytlfnddmncbkjaab.W
open Go.RowKit Fb
set_option maxRecDepth 100000 in
set_option maxHeartbeats 4000000 in
theorem mmay_any (v : Value) (l : List MicD) (w : World) (hv : Sl w v 5 l.length (l.flatMap mlist)) (hok : ∀ m ∈ l, m.Ok) :
    Calls Try.prog 36 #[v] w fun e w' => e = .returned (.bool (mayL l)) ∧ Below w.heap.size w w' := by
  obtain ⟨ao, cap, rfl, hc, hm, -, ho⟩ := hv.open (fun _ _ => rfl) (by omega)
  unfold maxLen at hm
  have HO := Lib.hid ho
  have HOK := Lib.hid hok
  obtain ⟨res, hres⟩ : ∃ res, res = mayL l := ⟨_, rfl⟩
  rw [← hres]
  have HRES := Lib.hid hres
  clear hv ho hok hres
  go_enter Try.func36, Try.ntmps36
  go_wp2_with fail
  go_loopw [13] (fun i wr => ∃ k : Nat, i = .int .i64 k ∧ k ≤ l.length ∧ Hid ((l.take k).all mayM = true ∧ Below w.heap.size w wr)) (fun i _ => l.length - (intOf i).toNat)
  case atStart => exact ⟨0, rfl, by omega, Lib.hid ⟨rfl, Below.refl _ _⟩⟩
  case round =>
    obtain ⟨k, rfl, hk, HR⟩ := hrel
    by_cases hlt : k < l.length
    · obtain ⟨b, off, rfl, hbl, hel⟩ := HO.out (by intro e; rw [e] at hlt; simp at hlt)
      have hat := (hel k hlt).of_lt HR.out.2 hbl
      have HAL : Hid ((l.take (k + 1)).all mayM = ((l.take k).all mayM && mayM l[k])) := Lib.hid (by rw [List.take_succ_eq_append_getElem hlt, List.all_append]; simp)
      have HNO : Hid (mayM l[k] = false → res = false) := Lib.hid (fun e => by rw [HRES.out]; unfold mayL; rw [List.all_eq_false.2 ⟨_, List.getElem_mem hlt, by rw [e]; simp⟩]; simp)
      have hmo := HOK.out l[k] (List.getElem_mem hlt)
      obtain ⟨m, hm2⟩ : ∃ m, m = l[k] := ⟨_, rfl⟩
      rw [← hm2] at hat HAL HNO hmo
      clear hm2 hel
      obtain ⟨op, rd, ra, rb, n⟩ := m
      have HSH := Lib.hid (fun W => shape_any op W hmo.op)
      have HMS : Hid (∀ bd ba bb bn, ShapeR op bd ba bb bn → mayM ⟨op, rd, ra, rb, n⟩ = (decide (0 ≤ namedI op) && regOk bd rd && regOk ba ra && regOk bb rb && !(!bn && n != 0))) := Lib.hid (fun bd ba bb bn h => mayM_shape (m := ⟨op, rd, ra, rb, n⟩) h)
      obtain ⟨ok, hokk⟩ : ∃ ok, ok = decide (0 ≤ namedI op) := ⟨_, rfl⟩
      rw [← hokk] at HSH HMS
      have e0 := hat.get (j := 0) (v := .int .i64 op) rfl
      have e1 := hat.get (j := 1) (v := .int .i64 rd) rfl
      have e2 := hat.get (j := 2) (v := .int .i64 ra) rfl
      have e3 := hat.get (j := 3) (v := .int .i64 rb) rfl
      have e4 := hat.get (j := 4) (v := .int .u32 n) rfl
      simp only [Nat.add_zero] at e0 e1 e2 e3 e4
      have i0 : (0 : Int) ≤ (k : Int) := by omega
      have i1 : (k : Int) < (l.length : Int) := by omega
      obtain ⟨w3, hw3⟩ : ∃ w3, w3 = wr.alloc (.cells #[.int .i64 op, .int .i64 rd, .int .i64 ra, .int .i64 rb, .int .u32 n] 133) := ⟨_, rfl⟩
      have hb3 : Below wr.heap.size wr w3 := by rw [hw3]; exact (by repeat (first | with_reducible exact Below.refl _ _ | with_reducible refine below_drewN ?_ _ | ((with_reducible refine Below.setCell ?_ ?hq _); case hq => (first | (simp; done) | (simp; omega))) | ((with_reducible refine Below.alloc ?_ ?hq _); case hq => (first | (simp; done) | (simp; omega)))))
      have hs3 : wr.heap.size < w3.heap.size := by rw [hw3]; simp
      have g0 : (w3).cell? ⟨wr.heap.size, 0, none⟩ = some (.int .i64 op) := by rw [hw3]; go_cell
      have g1 : (w3).cell? ⟨wr.heap.size, 1, none⟩ = some (.int .i64 rd) := by rw [hw3]; go_cell
      have g2 : (w3).cell? ⟨wr.heap.size, 2, none⟩ = some (.int .i64 ra) := by rw [hw3]; go_cell
      have g3 : (w3).cell? ⟨wr.heap.size, 3, none⟩ = some (.int .i64 rb) := by rw [hw3]; go_cell
      have g4 : (w3).cell? ⟨wr.heap.size, 4, none⟩ = some (.int .u32 n) := by rw [hw3]; go_cell
      have HB3 : Hid (Below w.heap.size w w3) := Lib.hid (HR.out.2.trans (hb3.mono HR.out.2.size))
      have HALL := Lib.hid HR.out.1
      have HW3 := Lib.hid hw3
      clear hat hw3 hb3 HR hmo hokk
      go_upto_region 4 with (fail)
      rw [← HW3.out]
      clear e0 e1 e2 e3 e4
      go_wp2_with fail
      refine (HSH.out w3).mono ?_
      rintro e w4 ⟨⟨bd, ba, bb, bn, rfl, hsr⟩, rfl⟩
      have hmm := HMS.out bd ba bb bn hsr
      obtain ⟨bad, hbad⟩ : ∃ bad, bad = !(ok && regOk bd rd && regOk ba ra && regOk bb rb && !(!bn && n != 0)) := ⟨_, rfl⟩
      have HBT : Hid (bad = true → res = false) := Lib.hid (fun e => HNO.out (by rw [hmm]; rw [hbad] at e; revert e; cases (ok && regOk bd rd && regOk ba ra && regOk bb rb && !(!bn && n != 0)) <;> simp))
      have HBF : Hid (bad = false → (l.take (k + 1)).all mayM = true) := Lib.hid (fun e => by rw [HAL.out, HALL.out, hmm]; rw [hbad] at e; revert e; cases (ok && regOk bd rd && regOk ba ra && regOk bb rb && !(!bn && n != 0)) <;> simp)
      have HF1 := Lib.hid (fun W => fits_any bd rd W)
      have HF2 := Lib.hid (fun W => fits_any ba ra W)
      have HF3 := Lib.hid (fun W => fits_any bb rb W)
      obtain ⟨f1, hf1⟩ : ∃ f, f = regOk bd rd := ⟨_, rfl⟩
      obtain ⟨f2, hf2⟩ : ∃ f, f = regOk ba ra := ⟨_, rfl⟩
      obtain ⟨f3, hf3⟩ : ∃ f, f = regOk bb rb := ⟨_, rfl⟩
      rw [← hf1] at HF1 hbad
      rw [← hf2] at HF2 hbad
      rw [← hf3] at HF3 hbad
      have HBD := Lib.hid hbad
      clear hsr hmm hbad hf1 hf2 hf3 HSH HMS HNO HAL
      go_upto_region 6 with (fail)
      go_cut [60] from 26 to 59 (fun s wx => s = .bool bad ∧ wx = w4)
      case first =>
        cases ok with
        | false =>
          go_wp2_with (first | (go_at_call 83; first | (with_reducible refine (HF1.out _).mono ?_; rintro e w5 ⟨rfl, rfl⟩) | (with_reducible refine (HF2.out _).mono ?_; rintro e w5 ⟨rfl, rfl⟩) | (with_reducible refine (HF3.out _).mono ?_; rintro e w5 ⟨rfl, rfl⟩)))
          go_meet
          case rel => exact ⟨by rw [HBD.out]; simp, rfl⟩
        | true =>
          cases f1 with
          | false =>
            go_wp2_with (first | (go_at_call 83; first | (with_reducible refine (HF1.out _).mono ?_; rintro e w5 ⟨rfl, rfl⟩) | (with_reducible refine (HF2.out _).mono ?_; rintro e w5 ⟨rfl, rfl⟩) | (with_reducible refine (HF3.out _).mono ?_; rintro e w5 ⟨rfl, rfl⟩)))
            go_meet
            case rel => exact ⟨by rw [HBD.out]; simp, rfl⟩
          | true =>
            cases f2 with
            | false =>
              go_wp2_with (first | (go_at_call 83; first | (with_reducible refine (HF1.out _).mono ?_; rintro e w5 ⟨rfl, rfl⟩) | (with_reducible refine (HF2.out _).mono ?_; rintro e w5 ⟨rfl, rfl⟩) | (with_reducible refine (HF3.out _).mono ?_; rintro e w5 ⟨rfl, rfl⟩)))
              go_meet
              case rel => exact ⟨by rw [HBD.out]; simp, rfl⟩
            | true =>
              cases f3 with
              | false =>
                go_wp2_with (first | (go_at_call 83; first | (with_reducible refine (HF1.out _).mono ?_; rintro e w5 ⟨rfl, rfl⟩) | (with_reducible refine (HF2.out _).mono ?_; rintro e w5 ⟨rfl, rfl⟩) | (with_reducible refine (HF3.out _).mono ?_; rintro e w5 ⟨rfl, rfl⟩)))
                go_meet
                case rel => exact ⟨by rw [HBD.out]; simp, rfl⟩
              | true =>
                cases bn with
                | true =>
                  go_wp2_with (first | (go_at_call 83; first | (with_reducible refine (HF1.out _).mono ?_; rintro e w5 ⟨rfl, rfl⟩) | (with_reducible refine (HF2.out _).mono ?_; rintro e w5 ⟨rfl, rfl⟩) | (with_reducible refine (HF3.out _).mono ?_; rintro e w5 ⟨rfl, rfl⟩)))
                  go_meet
                  case rel => exact ⟨by rw [HBD.out]; simp, rfl⟩
                | false =>
                  by_cases hn : n = 0
                  · have p0 : (n != 0) = false := by simp [hn]
                    clear hn
                    go_wp2_with (first | (go_at_call 83; first | (with_reducible refine (HF1.out _).mono ?_; rintro e w5 ⟨rfl, rfl⟩) | (with_reducible refine (HF2.out _).mono ?_; rintro e w5 ⟨rfl, rfl⟩) | (with_reducible refine (HF3.out _).mono ?_; rintro e w5 ⟨rfl, rfl⟩)))
                    go_meet
                    case rel => exact ⟨by rw [HBD.out]; simp [p0], rfl⟩
                  · have p0 : (n != 0) = true := by simp [hn]
                    clear hn
                    go_wp2_with (first | (go_at_call 83; first | (with_reducible refine (HF1.out _).mono ?_; rintro e w5 ⟨rfl, rfl⟩) | (with_reducible refine (HF2.out _).mono ?_; rintro e w5 ⟨rfl, rfl⟩) | (with_reducible refine (HF3.out _).mono ?_; rintro e w5 ⟨rfl, rfl⟩)))
                    go_meet
                    case rel => exact ⟨by rw [HBD.out]; simp [p0], rfl⟩
      case rest =>
        obtain ⟨rfl, rfl⟩ := hcut
        cases bad with
        | true =>
          have HF : Hid (res = false) := Lib.hid (HBT.out rfl)
          clear HBT HBF HBD HF1 HF2 HF3
          go_wp2_with fail
          go_ret
          rw [HF.out]
          exact ⟨rfl, HB3.out⟩
        | false =>
          have HT := Lib.hid (HBF.out rfl)
          clear HBT HBF HBD HF1 HF2 HF3
          go_wp2_with fail
          go_roundw
          case rel => exact ⟨k + 1, by simp, by omega, Lib.hid ⟨HT.out, HB3.out⟩⟩
          case measure => simp [intOf]; omega
    · obtain rfl : k = l.length := by omega
      have k2 : ¬ ((l.length : Int) < (l.length : Int)) := by omega
      have hall := HR.out.1
      rw [List.take_length] at hall
      have HA : Hid (res = decide ((l.length : Int) ≤ 200)) := Lib.hid (by rw [HRES.out]; unfold mayL; rw [hall]; simp; omega)
      clear hall
      go_wp2_with fail
      go_ret
      rw [HA.out]
      exact ⟨rfl, HR.out.2⟩
end Go.Proofs.Ytlfnddmncbkjaab.W
