/- ferrybridgeref9.Has, Same, walked. -/
import Derived.Test.YtlfnddmncbkjaaaZWCache4
import Derived.Test.YtlfnddmncbkjaaaZWSame6
import Derived.Test.YtlfnddmncbkjaaaZMB
import Derived.Test.YtlfnddmncbkjaaaZMA
namespace Go.Proofs.Ytlfnddmncbkjaaa.Fb
set_option linter.unusedVariables false
set_option linter.unusedSimpArgs false
theorem hasB_no {pc fr tw : Int} {n : Nat} (h : ∀ j : Int, 0 ≤ j → j < 4 * (n : Int) → ¬ (fr ≤ pc + j ∧ pc + j < tw)) : hasB pc n fr tw = false := by
  unfold hasB
  refine decide_eq_false (fun hlt => ?_)
  by_cases e : fr ≤ pc
  · exact h 0 (by omega) (by omega) ⟨by omega, by omega⟩
  · exact h (fr - pc) (by omega) (by omega) ⟨by omega, by omega⟩
theorem hasB_yes {pc fr tw j : Int} {n : Nat} (h0 : 0 ≤ j) (h1 : j < 4 * (n : Int)) (h2 : fr ≤ pc + j) (h3 : pc + j < tw) : hasB pc n fr tw = true := by
  unfold hasB
  exact decide_eq_true (by omega)
end Go.Proofs.Ytlfnddmncbkjaaa.Fb
namespace Go.Proofs.Ytlfnddmncbkjaaa.W
open Go.RowKit Fb
set_option maxRecDepth 100000 in
set_option maxHeartbeats 800000 in
theorem has9_any (x : BlkD) (fr tw : Int) (w : World) (hx : BlkOk w x) (hl : x.ins.length ≤ 3518437208883) (hf : U32 fr) (ht : U32 tw) :
    Calls Try.prog 40 #[.agg #[.int .u32 x.pc, x.vi], .agg #[.int .u32 fr, .int .u32 tw]] w fun e w' => e = .returned (.bool (hasB x.pc x.ins.length fr tw)) ∧ Below w.heap.size w w' := by
  obtain ⟨pc, vi, ins⟩ := x
  have hpc := hx.pc
  obtain ⟨ao, cap, e, -⟩ := hx.at_.open (fun _ _ => rfl) (by omega)
  dsimp only at hpc hl e ⊢
  subst e
  obtain ⟨p, rfl⟩ := Int.eq_ofNat_of_zero_le hpc.1
  obtain ⟨f, rfl⟩ := Int.eq_ofNat_of_zero_le hf.1
  obtain ⟨t, rfl⟩ := Int.eq_ofNat_of_zero_le ht.1
  have hp1 : p < 4294967296 := by have := hpc.2; omega
  have hf1 : f < 4294967296 := by have := hf.2; omega
  have ht1 : t < 4294967296 := by have := ht.2; omega
  clear hx hpc hf ht
  generalize ins.length = n at *
  obtain ⟨w1, hw1⟩ : ∃ w1, w1 = (w.alloc (.cells #[.int .u32 p, .slice ao n cap] 63)).alloc (.cells #[.int .u32 f, .int .u32 t] 65) := ⟨_, rfl⟩
  have hb1 : Below w.heap.size w w1 := by rw [hw1]; exact (by repeat (first | with_reducible exact Below.refl _ _ | with_reducible refine below_drewN ?_ _ | ((with_reducible refine Below.setCell ?_ ?hq _); case hq => (first | (simp; done) | (simp; omega))) | ((with_reducible refine Below.alloc ?_ ?hq _); case hq => (first | (simp; done) | (simp; omega)))))
  have c0 : (w1).cell? ⟨w.heap.size, 0, none⟩ = some (.int .u32 p) := by rw [hw1]; go_cell
  have c1 : (w1).cell? ⟨w.heap.size, 1, none⟩ = some (.slice ao n cap) := by rw [hw1]; go_cell
  have d0 : (w1).cell? ⟨w.heap.size + 1, 0, none⟩ = some (.int .u32 f) := by rw [hw1]; go_cell
  have d1 : (w1).cell? ⟨w.heap.size + 1, 1, none⟩ = some (.int .u32 t) := by rw [hw1]; go_cell
  have HW1 := Lib.hid hw1
  have HB1 := Lib.hid hb1
  clear hw1 hb1
  obtain ⟨r, hr⟩ : ∃ r, r = hasB (p : Int) n (f : Int) (t : Int) := ⟨_, rfl⟩
  rw [← hr]
  have HY := Lib.hid (fun (j : Int) h0 h1 h2 h3 => hr.trans (hasB_yes (pc := (p : Int)) (fr := (f : Int)) (tw := (t : Int)) (n := n) (j := j) h0 h1 h2 h3))
  have HN := Lib.hid (fun h => hr.trans (hasB_no (pc := (p : Int)) (fr := (f : Int)) (tw := (t : Int)) (n := n) h))
  clear hr
  go_enter Try.func40, Try.ntmps40
  go_upto_region 1 with (fail)
  rw [← HW1.out]
  go_wp2_with fail
  go_loopw [5] (fun i wr => ∃ k : Nat, i = .int .i64 k ∧ k ≤ 4 * n ∧ wr = w1 ∧ Hid (∀ j : Int, 0 ≤ j → j < k → ¬ ((f : Int) ≤ p + j ∧ (p : Int) + j < t))) (fun i _ => 4 * n - (intOf i).toNat)
  case atStart => exact ⟨0, rfl, by omega, rfl, Lib.hid (fun j h0 h1 => by omega)⟩
  case round =>
    obtain ⟨k, rfl, hk, rfl, HI⟩ := hrel
    by_cases hlt : k < 4 * n
    · have hltI : (k : Int) < 4 * (n : Int) := by omega
      by_cases h4 : (f : Int) ≤ (p : Int) + k
      · by_cases h5 : (p : Int) + k < (t : Int)
        · obtain rfl := HY.out k (by omega) (by omega) h4 h5
          go_wp2_with fail
          go_ret
          exact ⟨rfl, HB1.out⟩
        · have HG : Hid (∀ j : Int, 0 ≤ j → j < ((k + 1 : Nat) : Int) → ¬ ((f : Int) ≤ p + j ∧ (p : Int) + j < t)) := Lib.hid (fun j h0 h1 => by
            by_cases e : j = k
            · subst e; omega
            · exact HI.out j h0 (by omega))
          go_wp2_with fail
          go_roundw
          case rel => exact ⟨k + 1, by simp, by omega, (by first | rfl | trivial), HG⟩
          case measure => simp [intOf]; omega
      · have HG : Hid (∀ j : Int, 0 ≤ j → j < ((k + 1 : Nat) : Int) → ¬ ((f : Int) ≤ p + j ∧ (p : Int) + j < t)) := Lib.hid (fun j h0 h1 => by
          by_cases e : j = k
          · subst e; omega
          · exact HI.out j h0 (by omega))
        go_wp2_with fail
        go_roundw
        case rel => exact ⟨k + 1, by simp, by omega, (by first | rfl | trivial), HG⟩
        case measure => simp [intOf]; omega
    · have hge : ¬ (k : Int) < 4 * (n : Int) := by omega
      obtain rfl : r = false := HN.out (fun j h0 h1 => HI.out j h0 (by omega))
      go_wp2_with fail
      go_ret
      exact ⟨rfl, HB1.out⟩
set_option maxRecDepth 100000 in
set_option maxHeartbeats 1600000 in
theorem same9_any (room pu st : Int) (v v' : Value) (l l' : List BlkD) (w : World) (hv : Blks w v l) (hv' : Blks w v' l') (he : l.map BlkD.abs = l'.map BlkD.abs) :
    Calls Try.prog 32 #[.agg #[.int .i64 room, v, .int .i64 pu, .int .i64 st], .agg #[.int .i64 room, v', .int .i64 pu, .int .i64 st]] w fun e w' => e = .returned (.bool true) ∧ Below w.heap.size w w' := by
  have hll : l'.length = l.length := by have := congrArg List.length he; simpa using this.symm
  have hvv : Sl w v' 2 l.length (l'.flatMap blist) := by have := hv'.1; rw [hll] at this; exact this
  obtain ⟨ao, cap, rfl, hc, hm, -, ho⟩ := hv.1.open (fun _ _ => rfl) (by omega)
  obtain ⟨ao', cap', e, hc', hm', -, ho'⟩ := hv'.1.open (fun _ _ => rfl) (by omega)
  rw [hll] at e hc'
  subst e
  unfold maxLen at hm hm'
  have HO := Lib.hid ho
  have HO' := Lib.hid ho'
  have HV := Lib.hid hv
  have HV' := Lib.hid hv'
  have HE := Lib.hid he
  have HLL := Lib.hid hll
  obtain ⟨w1, hw1⟩ : ∃ w1, w1 = (w.alloc (.cells #[.int .i64 room, .slice ao l.length cap, .int .i64 pu, .int .i64 st] 60)).alloc (.cells #[.int .i64 room, .slice ao' l.length cap', .int .i64 pu, .int .i64 st] 60) := ⟨_, rfl⟩
  have hb1 : Below w.heap.size w w1 := by rw [hw1]; exact (by repeat (first | with_reducible exact Below.refl _ _ | with_reducible refine below_drewN ?_ _ | ((with_reducible refine Below.setCell ?_ ?hq _); case hq => (first | (simp; done) | (simp; omega))) | ((with_reducible refine Below.alloc ?_ ?hq _); case hq => (first | (simp; done) | (simp; omega)))))
  have hs1 : w1.heap.size = w.heap.size + 2 := by rw [hw1]; simp
  have c0 : (w1).cell? ⟨w.heap.size, 0, none⟩ = some (.int .i64 room) := by rw [hw1]; go_cell
  have c1 : (w1).cell? ⟨w.heap.size, 1, none⟩ = some (.slice ao l.length cap) := by rw [hw1]; go_cell
  have c2 : (w1).cell? ⟨w.heap.size, 2, none⟩ = some (.int .i64 pu) := by rw [hw1]; go_cell
  have c3 : (w1).cell? ⟨w.heap.size, 3, none⟩ = some (.int .i64 st) := by rw [hw1]; go_cell
  have d0 : (w1).cell? ⟨w.heap.size + 1, 0, none⟩ = some (.int .i64 room) := by rw [hw1]; go_cell
  have d1 : (w1).cell? ⟨w.heap.size + 1, 1, none⟩ = some (.slice ao' l.length cap') := by rw [hw1]; go_cell
  have d2 : (w1).cell? ⟨w.heap.size + 1, 2, none⟩ = some (.int .i64 pu) := by rw [hw1]; go_cell
  have d3 : (w1).cell? ⟨w.heap.size + 1, 3, none⟩ = some (.int .i64 st) := by rw [hw1]; go_cell
  have HW1 := Lib.hid hw1
  have HB1 := Lib.hid hb1
  have HCD := Lib.hid (And.intro c1 d1)
  clear hw1 hb1 ho ho' hv hv' he hll hvv
  go_enter Try.func32, Try.ntmps32
  go_upto_region 1 with (fail)
  rw [← HW1.out]
  go_wp2_with fail
  clear c0 c1 c2 c3 d0 d1 d2 d3
  go_loopw [5] (fun i wr => ∃ k : Nat, i = .int .i64 k ∧ k ≤ l.length ∧ Hid (Below w1.heap.size w1 wr)) (fun i _ => l.length - (intOf i).toNat)
  case atStart => exact ⟨0, rfl, by omega, Lib.hid (Below.refl _ _)⟩
  case round =>
    obtain ⟨k, rfl, hk, HI⟩ := hrel
    have l1 : w.heap.size < w1.heap.size := by omega
    have l2 : w.heap.size + 1 < w1.heap.size := by omega
    have c1 := (HI.out.cell (p := ⟨w.heap.size, 1, none⟩) l1).trans HCD.out.1
    have d1 := (HI.out.cell (p := ⟨w.heap.size + 1, 1, none⟩) l2).trans HCD.out.2
    have hsr := HI.out.size
    by_cases hlt : k < l.length
    · obtain ⟨b, off, rfl, hbl, hel⟩ := HO.out (by intro e; rw [e] at hlt; simp at hlt)
      have hlt' : k < l'.length := by rw [HLL.out]; exact hlt
      obtain ⟨b', off', rfl, hbl', hel'⟩ := HO'.out (by intro e; rw [e] at hlt'; simp at hlt')
      have HBW : Hid (Below w.heap.size w wr) := Lib.hid (HB1.out.trans (HI.out.mono (by omega)))
      obtain ⟨x, hx⟩ : ∃ x, x = l[k] := ⟨_, rfl⟩
      obtain ⟨y, hy⟩ : ∃ y, y = l'[k] := ⟨_, rfl⟩
      have hab : x.abs = y.abs := by
        have h1 : (l.map BlkD.abs)[k]? = (l'.map BlkD.abs)[k]? := by rw [HE.out]
        simp [hlt, hlt', ← hx, ← hy] at h1
        exact h1
      have hxo := HV.out.2 x (by rw [hx]; exact List.getElem_mem hlt)
      have hyo := HV'.out.2 y (by rw [hy]; exact List.getElem_mem hlt')
      have HX : Hid (∀ W, Below wr.heap.size wr W → At W b (off + k * 2) (blist x)) := Lib.hid (fun W hW => by rw [hx]; exact (hel k hlt).of_lt (HBW.out.trans (hW.mono (by omega))) hbl)
      have HY : Hid (∀ W, Below wr.heap.size wr W → At W b' (off' + k * 2) (blist y)) := Lib.hid (fun W hW => by rw [hy]; exact (hel' k hlt').of_lt (HBW.out.trans (hW.mono (by omega))) hbl')
      have HS : Hid (∀ W, Below wr.heap.size wr W → Calls Try.prog 35 #[.agg #[.int .u32 x.pc, x.vi], .agg #[.int .u32 y.pc, y.vi]] W fun e w' => e = .returned (.bool true) ∧ Below W.heap.size W w') := Lib.hid (fun W hW => by
        have hbw : Below w.heap.size w W := HBW.out.trans (hW.mono (by omega))
        have e1 : x.pc = y.pc := congrArg Prod.fst hab
        have e2 : x.ins = y.ins := congrArg Prod.snd hab
        rw [← e1]
        exact same6_any x.vi y.vi x.ins x.pc W (hxo.below hbw).at_ (by rw [e2]; exact (hyo.below hbw).at_))
      have i0 : (0 : Int) ≤ (k : Int) := by omega
      have i1 : (k : Int) < (l.length : Int) := by omega
      have HI2 := HI
      have hlw : w.heap.size < wr.heap.size := by omega
      have hlw1 : w.heap.size + 1 < wr.heap.size := by omega
      clear hel hel' hx hy hab hxo hyo
      go_wp2_with fail
      refine region_quiet_lit (fun W => Below wr.heap.size wr W) (by kernel_rfl) (by kernel_rfl) (Below.drew (Below.refl _ _)) ?_
      quiet_step ((intro _; rfl))
      refine wpQuiet_cell rfl 58 _ rfl ⟨w.heap.size, 1, none⟩ rfl (.slice (some ⟨b, off, none⟩) l.length cap) (fun W hW => by have hc := (hW.cell (p := ⟨w.heap.size, 1, none⟩) hlw).trans c1; go_simp) ?_
      iterate 2 quiet_step ((intro _; rfl))
      refine wpQuiet_load_at rfl 63 _ rfl b (off + k * 2) rfl #[.int .u32 x.pc, x.vi] _ (fun W hW => HX.out W hW) Try.underlying63 rfl (by show _ = some 2; kernel_rfl) ?_
      quiet_step ((intro _; rfl))
      refine wpQuiet_cell rfl 58 _ rfl ⟨w.heap.size + 1, 1, none⟩ rfl (.slice (some ⟨b', off', none⟩) l.length cap') (fun W hW => by have hc := (hW.cell (p := ⟨w.heap.size + 1, 1, none⟩) hlw1).trans d1; go_simp) ?_
      iterate 2 quiet_step ((intro _; rfl))
      refine wpQuiet_load_at rfl 63 _ rfl b' (off' + k * 2) rfl #[.int .u32 y.pc, y.vi] _ (fun W hW => HY.out W hW) Try.underlying63 rfl (by show _ = some 2; kernel_rfl) ?_
      quiet_step ((intro hC; exact (HS.out _ hC).mono (fun e w'' ⟨he, hb⟩ => ⟨he, hC.trans (hb.mono hC.size)⟩)))
      quiet_step ((intro _; rfl))
      refine wpQuiet_nil ?_
      intro w6 hb6
      go_wp2_with fail
      go_roundw
      case rel => exact ⟨k + 1, by simp, by omega, Lib.hid (HI2.out.trans (hb6.mono hsr))⟩
      case measure => simp [intOf]; omega
    · obtain rfl : k = l.length := by omega
      go_wp2_with fail
      go_ret
      exact ⟨rfl, HB1.out.trans (HI.out.mono (by omega))⟩
end Go.Proofs.Ytlfnddmncbkjaaa.W
