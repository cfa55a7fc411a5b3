/- The document's reader, walked: what must stand there. -/
import Derived.Test.YtlfnddmncbkjaacDoorZZF
import Derived.Test.YtlfnddmncbkjaacDoorZWAsm12
import Derived.WalkMore
import Derived.BigQuiet
import Derived.Deep.LoopGhost
namespace Go.Proofs.YtlfnddmncbkjaacDoor.W
set_option linter.unusedVariables false
set_option linter.unusedSimpArgs false
open Go.RowKit Fb
/-- the reader's box: the text, where it is, whether it has failed -/
def Rd (w : World) (b : Nat) (l : List UInt8) (st : Option (List UInt8)) : Prop := ∃ (k : Nat) (bad : Bool), k ≤ l.length ∧ (w.cell? ⟨b, 0, none⟩ = some (.string (bs l)) ∧ w.cell? ⟨b, 1, none⟩ = some (.int .i64 k) ∧ w.cell? ⟨b, 2, none⟩ = some (.bool bad)) ∧ (w.frozen? ⟨b, 0, none⟩ = false ∧ w.frozen? ⟨b, 1, none⟩ = false ∧ w.frozen? ⟨b, 2, none⟩ = false) ∧ st = (if bad = true then none else some (l.drop k))
theorem Rd.drewN {w : World} {b : Nat} {l : List UInt8} {st : Option (List UInt8)} (h : Rd w b l st) (n : Nat) : Rd (w.drewN n) b l st := by
  obtain ⟨k, bad, hk, ⟨c0, c1, c2⟩, ⟨f0, f1, f2⟩, e⟩ := h
  exact ⟨k, bad, hk, ⟨by simpa using c0, by simpa using c1, by simpa using c2⟩, ⟨by simpa using f0, by simpa using f1, by simpa using f2⟩, e⟩
theorem Rd.fail {w : World} {b : Nat} {l : List UInt8} {st : Option (List UInt8)} (h : Rd w b l st) : Rd (w.setCell ⟨b, 2, none⟩ (.bool true)) b l none := by
  obtain ⟨k, bad, hk, ⟨c0, c1, c2⟩, ⟨f0, f1, f2⟩, e⟩ := h
  exact ⟨k, true, hk, ⟨by go_cell, by go_cell, by go_cell⟩, ⟨by simpa using f0, by simpa using f1, by simpa using f2⟩, rfl⟩
theorem Rd.to {w : World} {b : Nat} {l r : List UInt8} (h : Rd w b l (some r)) {n : Int} (k : Nat) (hn : n = (k : Int)) (hk : k ≤ l.length) : Rd (w.setCell ⟨b, 1, none⟩ (.int .i64 n)) b l (some (l.drop k)) := by
  obtain ⟨j, bad, hj, ⟨c0, c1, c2⟩, ⟨f0, f1, f2⟩, e⟩ := h
  cases bad with
  | true => cases e
  | false =>
    subst hn
    exact ⟨k, false, hk, ⟨by go_cell, by go_cell, by go_cell⟩, ⟨by simpa using f0, by simpa using f1, by simpa using f2⟩, rfl⟩
theorem Rd.below {w w' : World} {b B : Nat} {l : List UInt8} {st : Option (List UInt8)} (h : Rd w b l st) (hb : Below B w w') (hB : b < B) : Rd w' b l st := by
  obtain ⟨k, bad, hk, ⟨c0, c1, c2⟩, ⟨f0, f1, f2⟩, e⟩ := h
  exact ⟨k, bad, hk, ⟨(hb.cell hB).trans c0, (hb.cell hB).trans c1, (hb.cell hB).trans c2⟩, ⟨(hb.frozen hB).trans f0, (hb.frozen hB).trans f1, (hb.frozen hB).trans f2⟩, e⟩
theorem below_drewN {B : Nat} {w : World} (n : Nat) : Below B w (w.drewN n) := by
  induction n with
  | zero => exact Below.refl _ _
  | succ n ih => exact ih.drew
set_option maxRecDepth 100000 in
set_option maxHeartbeats 1600000 in
theorem eat_any (b : Nat) (l s : List UInt8) (st : Option (List UInt8)) (hl : l.length ≤ 4294967296) (hs : s.length ≤ 100) (w : World) (h : Rd w b l st) :
    Calls Tryd.prog 30 #[.pointer (some ⟨b, 0, none⟩), .string (bs s)] w fun e w' => e = .returned (.tuple #[]) ∧ Rd w' b l (eatO st s) ∧ Below b w w' := by
  have HH := Lib.hid h
  obtain ⟨k, bad, hk, ⟨c0, c1, c2⟩, ⟨f0, f1, f2⟩, rfl⟩ := h
  have hz : (bs l).size = l.length := bs_size l
  have hy : (bs s).size = s.length := bs_size s
  cases bad with
  | true =>
    clear hz hy
    go_enter Tryd.func30, Tryd.ntmps30
    go_wp2_with fail
    go_quiet (fail)
    go_wp2_with fail
    refine bodyPost_ret (results_none (by rfl) _ _ _) rfl ?_
    exact ⟨rfl, (HH.out.drewN _).fail, (below_drewN _).setCell (p := ⟨b, 2, none⟩) (Nat.le_refl b) _⟩
  | false =>
    have hw : IntKind.i64.wrap (((bs l).size : Int) - (k : Int)) = ((bs l).size : Int) - (k : Int) := by simp (disch := omega) only [IntWalk.i64_in]
    have hw2 : IntKind.i64.wrap ((k : Int) + ((bs s).size : Int)) = (k : Int) + ((bs s).size : Int) := by simp (disch := omega) only [IntWalk.i64_in]
    by_cases hlt : (l.length : Int) - k < s.length
    · have hd : decide (((bs l).size : Int) - (k : Int) < ((bs s).size : Int)) = true := decide_eq_true (by omega)
      have hO : eatO (if false = true then none else some (l.drop k)) s = none := by
        unfold eatO
        rw [if_neg (by decide)]
        dsimp only
        rw [if_neg]
        intro e
        have := congrArg List.length e
        rw [List.length_take, List.length_drop] at this
        omega
      rw [hO]
      clear hz hy hlt hO
      go_enter Tryd.func30, Tryd.ntmps30
      go_wp2_with fail
      go_quiet (fail)
      go_wp2_with fail
      refine bodyPost_ret (results_none (by rfl) _ _ _) rfl ?_
      exact ⟨rfl, (HH.out.drewN _).fail, (below_drewN _).setCell (p := ⟨b, 2, none⟩) (Nat.le_refl b) _⟩
    · have hd : decide (((bs l).size : Int) - (k : Int) < ((bs s).size : Int)) = false := decide_eq_false (by omega)
      have hk2 : (k : Int) + ((bs s).size : Int) ≤ ((bs l).size : Int) := by omega
      have hk3 : (0 : Int) ≤ (k : Int) := by omega
      have hk4 : (k : Int) ≤ (k : Int) + ((bs s).size : Int) := by omega
      have hx : (bs l).extract k (k + (bs s).size) = bs ((l.drop k).take s.length) := by rw [bs_extract, hy, Nat.add_sub_cancel_left]
      by_cases he : (l.drop k).take s.length = s
      · have hO : eatO (if false = true then none else some (l.drop k)) s = some (l.drop (k + s.length)) := by
          unfold eatO
          rw [if_neg (by decide)]
          dsimp only
          rw [if_pos he, List.drop_drop]
        rw [hO]
        rw [he] at hx
        have hn : (k : Int) + ((bs s).size : Int) = ((k + s.length : Nat) : Int) := by omega
        have hkl : k + s.length ≤ l.length := by omega
        have HN := Lib.hid (And.intro hn hkl)
        clear hO he hy hz hn hkl
        go_enter Tryd.func30, Tryd.ntmps30
        go_wp2_with fail
        go_quiet (fail)
        go_wp2_with fail
        go_end0
        exact ⟨rfl, Rd.to (HH.out.drewN _) (k + s.length) HN.out.1 HN.out.2, (below_drewN _).setCell (p := ⟨b, 1, none⟩) (Nat.le_refl b) _⟩
      · have hO : eatO (if false = true then none else some (l.drop k)) s = none := by
          unfold eatO
          rw [if_neg (by decide)]
          dsimp only
          rw [if_neg he]
        rw [hO]
        have hT : ((bs ((l.drop k).take s.length)).toList == (bs s).toList) = false := by
          rw [beq_eq_false_iff_ne]
          exact fun e => he (by simpa [ByteArray.toList_eq, bs] using e)
        generalize bs ((l.drop k).take s.length) = X at *
        clear hO he hy hz
        go_enter Tryd.func30, Tryd.ntmps30
        go_wp2_with fail
        go_quiet (fail)
        go_wp2_with fail
        refine bodyPost_ret (results_none (by rfl) _ _ _) rfl ?_
        exact ⟨rfl, (HH.out.drewN _).fail, (below_drewN _).setCell (p := ⟨b, 2, none⟩) (Nat.le_refl b) _⟩
end Go.Proofs.YtlfnddmncbkjaacDoor.W
