/- The reader of package image: bytes, numbers. -/
import Derived.Test.YtlfnddmncbkjaaaZMB
import Derived.Test.YtlfnddmncbkjaaaZMA
namespace Go.Proofs.Ytlfnddmncbkjaaa.W
set_option linter.unusedVariables false
set_option linter.unusedSimpArgs false
open Go.RowKit Fb
set_option maxRecDepth 100000 in
set_option maxHeartbeats 800000 in
theorem take_any (rp : Nat) (l : List Int) (bad : Bool) (n : Nat) (w : World) (h : RdAt rp w (l, bad)) (hn : n < 4294967296) :
    Calls Try.prog 62 #[.pointer (some ⟨rp, 0, none⟩), .int .u32 n] w fun e w' => (∃ v, e = .returned v ∧ Ints .u8 w' v (takeR n (l, bad)).1) ∧ RdAt rp w' (takeR n (l, bad)).2 ∧ Chg (fun p => p.block = rp) w w' := by
  obtain ⟨v, h1, h2', h3⟩ := h.v
  have h2 : Ints .u8 w v l := h2'
  clear h2'
  obtain ⟨ao, cap, rfl, hc, hm, hno, _⟩ := h2.open
  have hb := h.bad
  have hf0 := h.frz 0
  have hf1 := h.frz 1
  unfold maxLen at hm
  have hwl : IntKind.u64.wrap (l.length : Int) = l.length := by rw [IntKind.wrap_u64]; omega
  have H := Lib.hid h
  have H2 := Lib.hid h2
  have H3 := Lib.hid h3
  clear h h2 h3
  simp only at h1 hb
  have hcase : (bad = true ∨ (bad = false ∧ l.length < n)) ∨ (bad = false ∧ n ≤ l.length) := by
    cases bad with
    | true => exact .inl (.inl rfl)
    | false => by_cases e : l.length < n
               · exact .inl (.inr ⟨rfl, e⟩)
               · exact .inr ⟨rfl, Nat.le_of_not_lt e⟩
  rcases hcase with hc1 | ⟨rfl, hc2⟩
  · have e : takeR n (l, bad) = ([], l, true) := by unfold takeR; rw [if_pos (by rcases hc1 with rfl | ⟨_, h⟩; exact .inl rfl; exact .inr h)]
    rw [e]
    clear e
    rcases hc1 with rfl | ⟨rfl, hlt⟩
    all_goals
      go_enter Try.func62, Try.ntmps62
      go_wp2_with fail
      go_ret
      exact ⟨⟨_, rfl, Ints.empty none 0 (by decide) (fun _ => rfl)⟩, H.out.setBad true, chg_set (Chg.refl _ _) _ _⟩
  · have e : takeR n (l, false) = (l.take n, l.drop n, false) := by unfold takeR; rw [if_neg (by simp; omega)]
    rw [e]
    clear e
    cases ao with
    | none =>
      obtain rfl : cap = 0 := hno rfl
      obtain rfl : l = [] := List.eq_nil_of_length_eq_zero (by omega)
      obtain rfl : n = 0 := Nat.le_zero.1 hc2
      clear hno
      go_enter Try.func62, Try.ntmps62
      go_wp2_with fail
      go_ret
      exact ⟨⟨_, rfl, Ints.empty none 0 (by decide) (fun _ => rfl)⟩, RdAt.setV H.out (l := []) (Ints.empty none 0 (by decide) (fun _ => rfl)) (fun h => absurd rfl h), chg_set (Chg.refl _ _) _ _⟩
    | some a =>
      clear hno
      have hca : (n : Int) ≤ cap := by omega
      have hcl : (n : Int) ≤ l.length := by omega
      have hcd : decide ((l.length : Int) < n) = false := decide_eq_false (by omega)
      by_cases hce : cap = n
      · obtain rfl : n = cap := hce.symm
        go_enter Try.func62, Try.ntmps62
        go_wp2_with fail
        go_ret
        have hr := Ints.cut H2.out n hc2
        obtain rfl : l.length = n := by omega
        exact ⟨⟨_, rfl, ints_set hr (fun h => H3.out (fun e => h (by rw [e]; simp))) (Nat.le_refl _) _⟩, by
          have := RdAt.setV H.out (v := .slice (some a) 0 0) (l := []) (Ints.empty _ _ (by decide) (by simp)) (fun h => absurd rfl h)
          simpa using this, chg_set (Chg.refl _ _) _ _⟩
      · go_enter Try.func62, Try.ntmps62
        go_wp2_with fail
        go_ret
        have hr := Ints.cut H2.out n hc2
        by_cases hl0 : l = []
        · subst hl0
          obtain rfl : n = 0 := Nat.le_zero.1 hc2
          refine ⟨⟨_, rfl, ints_set hr (fun h => H3.out (fun e => h (by rw [e]; simp))) (Nat.le_refl _) _⟩, ?_, chg_set (Chg.refl _ _) _ _⟩
          have e0 : a.add 0 = a := rfl
          rw [e0]
          exact RdAt.setV H.out (l := []) (Ints.empty (k := .u8) (w := w) (some a) (cap - 0) (by unfold maxLen; omega) (by simp)) (fun h => absurd rfl h)
        · obtain ⟨b, off, sp⟩ := a
          have hsp : sp = none := by
            obtain ⟨_, ao', cap', h4, _, _, _, h5⟩ := H2.out
            cases h4
            exact (h5 _ rfl (by simpa using hl0)).1
          subst hsp
          rw [addr_add _ rfl]
          exact ⟨⟨_, rfl, ints_set hr (fun h => H3.out (fun e => h (by rw [e]; simp))) (Nat.le_refl _) _⟩, RdAt.setV H.out (Ints.rest H2.out n hc2) (fun h => H3.out (fun e => h (by rw [e]; simp))), chg_set (Chg.refl _ _) _ _⟩
set_option maxRecDepth 100000 in
set_option maxHeartbeats 800000 in
theorem num_rd (rp : Nat) (l : List Int) (bad : Bool) (w : World) (h : RdAt rp w (l, bad)) (hb : Bytes l) :
    Calls Try.prog 63 #[.pointer (some ⟨rp, 0, none⟩)] w fun e w' => e = .returned (.int .u32 (numR (l, bad)).1) ∧ RdAt rp w' (numR (l, bad)).2 ∧ Chg (fun p => p.block = rp) w w' := by
  have HT := Lib.hid (take_any rp l bad 4 w h (by omega))
  by_cases hc : bad = true ∨ l.length < 4
  · have e1 : takeR 4 (l, bad) = ([], l, true) := by unfold takeR; rw [if_pos hc]
    have e2 : numR (l, bad) = (0, l, true) := by unfold numR; rw [if_pos hc]
    rw [e1] at HT
    rw [e2]
    clear e1 e2 hc h
    go_enter Try.func63, Try.ntmps63
    go_wp2_with fail
    refine HT.out.mono ?_
    rintro e w1 ⟨⟨v, rfl, hv⟩, hr, hg⟩
    obtain ⟨ao, cap, rfl, _⟩ := hv.open
    clear hv
    go_wp2_with fail
    go_rounds 1
    go_ret
    exact ⟨rfl, hr, hg⟩
  · have e1 : takeR 4 (l, bad) = (l.take 4, l.drop 4, false) := by unfold takeR; rw [if_neg hc]
    have e2 : numR (l, bad) = (leW l, l.drop 4, false) := by unfold numR; rw [if_neg hc]
    have hl4 : (l.take 4).length = 4 := by rw [List.length_take]; omega
    rw [e1] at HT
    rw [e2]
    have b0 := hb.getD 0
    have b1 := hb.getD 1
    have b2 := hb.getD 2
    have b3 := hb.getD 3
    have HL : Hid (leW l = l.getD 0 0 + 256 * l.getD 1 0 + 65536 * l.getD 2 0 + 16777216 * l.getD 3 0) := Lib.hid rfl
    have HG : Hid (∀ i, i < 4 → (l.take 4).getD i 0 = l.getD i 0) := Lib.hid (fun i hi => by simp [List.getD, List.getElem?_take, hi])
    generalize leW l = res at *
    clear e1 e2 hc h hb
    go_enter Try.func63, Try.ntmps63
    go_wp2_with fail
    refine HT.out.mono ?_
    rintro e w1 ⟨⟨v, rfl, hv⟩, hr, hg⟩
    obtain ⟨ao, cap, rfl, _, _, _, ho⟩ := hv.open
    obtain ⟨b, off, rfl, _, hce⟩ := ho (by intro e; rw [e] at hl4; cases hl4)
    rw [hl4] at hce ⊢
    have c0 := hce 0 (by omega)
    have c1 := hce 1 (by omega)
    have c2 := hce 2 (by omega)
    have c3 := hce 3 (by omega)
    rw [HG.out 0 (by omega)] at c0
    rw [HG.out 1 (by omega)] at c1
    rw [HG.out 2 (by omega)] at c2
    rw [HG.out 3 (by omega)] at c3
    rw [Nat.add_zero] at c0
    clear hv ho hce hl4
    generalize l.getD 0 0 = x0 at *
    generalize l.getD 1 0 = x1 at *
    generalize l.getD 2 0 = x2 at *
    generalize l.getD 3 0 = x3 at *
    go_wp2_with fail
    go_rounds 5
    go_ret
    refine ⟨congrArg (fun x => Ending.returned (Value.int .u32 x)) (?_ : _ = res), hr, hg⟩
    rw [HL.out, le4 _ _ _ _ b0 b1 b2 b3]
    omega
end Go.Proofs.Ytlfnddmncbkjaaa.W
