/- decode.Decode, walked. -/
import Derived.Test.YtlfnddmncbkjaacDoorZZB
import Derived.Test.YtlfnddmncbkjaacDoorZWTells
import Derived.Test.YtlfnddmncbkjaacDoorZWRead
namespace Go.Proofs.YtlfnddmncbkjaacDoor.W
set_option linter.unusedVariables false
set_option linter.unusedSimpArgs false
open Go.RowKit Fb
theorem kind_bounds (op : Int) (h : 1 ≤ op ∧ op ≤ 59) : (0 ≤ (kindOf op).form ∧ (kindOf op).form ≤ 8) ∧ (0 ≤ (kindOf op).low ∧ (kindOf op).low < 128) ∧ (0 ≤ (kindOf op).mid ∧ (kindOf op).mid < 8) ∧ (0 ≤ (kindOf op).up ∧ (kindOf op).up < 128) := by
  have hk : ∀ k ∈ kinds, (0 ≤ k.form ∧ k.form ≤ 8) ∧ (0 ≤ k.low ∧ k.low < 128) ∧ (0 ≤ k.mid ∧ k.mid < 8) ∧ (0 ≤ k.up ∧ k.up < 128) := by decide
  have e : kindOf op = kinds.getD (op - 1).toNat ⟨0, 0, 0, 0⟩ := by unfold kindOf knownOp; rw [if_pos (by simpa using h)]
  have hl : (op - 1).toNat < kinds.length := by have : kinds.length = 59 := rfl; omega
  rw [e, List.getD, List.getElem?_eq_getElem hl]
  exact hk _ (List.getElem_mem hl)
theorem free_of_one' {w : World} {b : Nat} {cs : Array Value} {t : TypeId} (h : w.heap[b]? = some (.cells cs t (0, 0))) (o : Nat) : w.frozen? ⟨b, o, none⟩ = false := by
  simp [World.frozen?, h]
theorem cell_blk {w : World} {b o : Nat} {cs : Array Value} {t : TypeId} {v : Value} (h : w.heap[b]? = some (.cells cs t (0, 0))) (hv : cs[o]? = some v) : w.cell? ⟨b, o, none⟩ = some v := by
  simp [World.cell?, h, hv]
theorem read_keep (op f x : Int) (w0 W : World) (hx : U32 x) (hf : 0 ≤ f ∧ f ≤ 8) (hb : Below w0.heap.size w0 W) :
    Calls Tryd.prog 36 #[.int .i64 op, .int .i64 f, .int .u32 x] W fun e w' => e = .returned (.agg (icells (readS op f x))) ∧ Below w0.heap.size w0 w' :=
  (read_any op f x W hx hf).mono fun _ _ ⟨h1, h2⟩ => ⟨h1, hb.trans (h2.mono hb.size)⟩
set_option maxRecDepth 100000 in
set_option maxHeartbeats 1000000 in
theorem decode_any (x : Int) (w : World) (hx : U32 x) :
    Calls Tryd.prog 24 #[.int .u32 x] w fun e w' => e = .returned (.tuple #[.agg (icells ((dec x).getD i0)), .bool (dec x).isSome]) ∧ Below w.heap.size w w' := by
  have HX := Lib.hid hx
  obtain ⟨hx0, hx1⟩ := hx
  go_enter Tryd.func24, Tryd.ntmps24
  go_wp2_with fail
  have hb0 : Below w.heap.size w (w.alloc (.cells #[.int .i64 0, .int .i64 0, .int .i64 0, .int .i64 0, .int .i32 0] 23)) := by go_grown
  have hz0 : (w.alloc (.cells #[.int .i64 0, .int .i64 0, .int .i64 0, .int .i64 0, .int .i32 0] 23)).heap.size = w.heap.size + 1 := by simp
  have hblk : (w.alloc (.cells #[.int .i64 0, .int .i64 0, .int .i64 0, .int .i64 0, .int .i32 0] 23)).heap[w.heap.size]? = some (.cells #[.int .i64 0, .int .i64 0, .int .i64 0, .int .i64 0, .int .i32 0] 23 (0, 0)) := heap_alloc_new w _
  generalize w.alloc (.cells #[.int .i64 0, .int .i64 0, .int .i64 0, .int .i64 0, .int .i32 0] 23) = w1 at *
  go_loopw [4] (fun i wr => ∃ k : Nat, i = .int .i64 (k + 1 : Int) ∧ k ≤ 59 ∧ Hid (∀ j : Nat, j < k → matchB ((j : Int) + 1) x = false) ∧ ∃ w2, wr = w2 ∧ Below w1.heap.size w1 w2) (fun i _ => 60 - (intOf i).toNat)
  case atStart => exact ⟨0, rfl, by omega, Lib.hid (by intro j hj; omega), _, rfl, Below.refl _ _⟩
  case round =>
    obtain ⟨k, rfl, hk, HN, w2, hw2, hb⟩ := hrel
    subst hw2
    have hblk2 : wr.heap[w.heap.size]? = some (.cells #[.int .i64 0, .int .i64 0, .int .i64 0, .int .i64 0, .int .i32 0] 23 (0, 0)) := (hb.block w.heap.size (by omega)).trans hblk
    have hb1 := hb0.trans (hb.mono (by omega))
    have hsz := hb.size
    have HBLK := Lib.hid hblk
    clear hblk
    by_cases hlt : k < 59
    · have HK := kind_bounds ((k : Int) + 1) (by omega)
      have hkn : knownOp ((k : Int) + 1) = true := by unfold knownOp; simp; omega
      have HMB : Hid (matchB ((k : Int) + 1) x = (tellsB (kindOf ((k : Int) + 1)) x && ((((k : Int) + 1) != 46) || (x / 1048576 % 32 == 0)))) := Lib.hid rfl
      have HD : Hid (matchB ((k : Int) + 1) x = true → dec x = some (readS ((k : Int) + 1) (kindOf ((k : Int) + 1)).form x)) := Lib.hid (fun h => by
        unfold dec; rw [decOp_at x k hlt h HN.out]; rfl)
      have HMB0 := HMB
      have HN2 : Hid (matchB ((k : Int) + 1) x = false → ∀ j : Nat, j < k + 1 → matchB ((j : Int) + 1) x = false) := Lib.hid (fun h j hj => if e : j = k then by subst e; exact h else HN.out j (by omega))
      go_wp2_with fail
      refine (of_any _ _).mono ?_
      rintro e w3 ⟨rfl, hb3⟩
      have hblk3 := (hb3.block w.heap.size (by omega)).trans hblk2
      have hb4 := hb1.trans (hb3.mono (by omega))
      have hb5 := hb.trans (hb3.mono (by omega))
      have hsz3 := hb3.size
      rw [hkn]
      generalize kindOf ((k : Int) + 1) = kd at *
      obtain ⟨f, l, m, u⟩ := kd
      simp only [kcells] at HK HD HMB HMB0 ⊢
      obtain ⟨⟨f0, f1⟩, hl, hm, hu⟩ := HK
      have HL := Lib.hid hl
      have HM := Lib.hid hm
      have HU := Lib.hid hu
      generalize matchB ((k : Int) + 1) x = mb at *
      have hf3 : ∀ o, w3.frozen? ⟨w.heap.size, o, none⟩ = false := fun o => free_of_one' hblk3 o
      clear hkn HN hblk2 hl hm hu hb3 hb1
      go_wp2_with fail
      refine (tells_any f l m u x _ HX.out HL.out HM.out HU.out).mono ?_
      rintro e w4 ⟨rfl, hb6⟩
      have hz6 : w3.heap.size + 1 ≤ w4.heap.size := by have := hb6.size; simpa using this
      have hblk4 := (hb6.block w.heap.size (by simp; omega)).trans ((heap_alloc_old w3 _ (by omega)).trans hblk3)
      have hfm : w4.cell? ⟨w3.heap.size, 0, none⟩ = some (.int .i64 f) := (hb6.cell (p := ⟨w3.heap.size, 0, none⟩) (by simp)).trans (by go_cell)
      have hb7 : Below w.heap.size w w4 := hb4.trans (Below.trans (Below.alloc (Below.refl _ _) (by omega) _) (hb6.mono (by simp; omega)))
      have hb8 : Below w1.heap.size w1 w4 := hb5.trans (Below.trans (Below.alloc (Below.refl _ _) (by omega) _) (hb6.mono (by simp; omega)))
      clear hb6 hb4 hb5 hblk3
      cases ht : tellsB ⟨f, l, m, u⟩ x with
      | false =>
        have hmf : mb = false := by rw [HMB.out, ht]; rfl
        have HN3 := Lib.hid (HN2.out hmf)
        clear ht hmf HMB HMB0 HD HN2
        go_wp2
        go_roundw
        case rel => exact ⟨k + 1, by go_num, by omega, HN3, _, rfl, hb8⟩
        case measure => simp [intOf]; omega
      | true =>
        have ho1 : w4.cell? ⟨w.heap.size, 0, none⟩ = some (.int .i64 0) := cell_blk hblk4 rfl
        have ho2 : w4.cell? ⟨w.heap.size, 1, none⟩ = some (.int .i64 0) := cell_blk hblk4 rfl
        have ho3 : w4.cell? ⟨w.heap.size, 2, none⟩ = some (.int .i64 0) := cell_blk hblk4 rfl
        have ho4 : w4.cell? ⟨w.heap.size, 3, none⟩ = some (.int .i64 0) := cell_blk hblk4 rfl
        have ho5 : w4.cell? ⟨w.heap.size, 4, none⟩ = some (.int .i32 0) := cell_blk hblk4 rfl
        have hfz := free_of_one' hblk4
        have HF := Lib.hid (And.intro f0 f1)
        have HREAD := fun (W : World) (hW : Below w4.heap.size w4 W) => read_keep ((k : Int) + 1) f x w4 W HX.out HF.out hW
        have HR := Lib.hid HREAD
        clear HREAD hblk4 HL HM HU HMB
        by_cases h46 : k = 45
        · subst h46
          by_cases hc : x / 1048576 % 32 = 0
          · have e1 : (((45 : Nat) : Int) + 1 == 46) = true := rfl
            have hc1 : (x / 1048576 % 32 == 0) = true := by simpa using hc
            have hmt : mb = true := by rw [HMB0.out, ht, hc1]; rfl
            have HDx := Lib.hid (HD.out hmt)
            clear hmt HMB0 HD HN2 ht hc
            go_wp2_with fail
            refine (cut_20_24 _ _ HX.out).mono ?_
            rintro e w' ⟨rfl, nd, rfl⟩
            go_wp2_with fail
            refine (HR.out _ (below_drewN (Below.refl _ _) _)).mono ?_
            rintro e w5 ⟨rfl, hb9⟩
            generalize readS (((45 : Nat) : Int) + 1) f x = r at *
            obtain ⟨q1, q2, q3, q4, q5⟩ := r
            simp only [icells]
            have hlt4 : w.heap.size < w4.heap.size := by omega
            have go1 := (hb9.cell (p := ⟨w.heap.size, 0, none⟩) hlt4).trans ho1
            have go2 := (hb9.cell (p := ⟨w.heap.size, 1, none⟩) hlt4).trans ho2
            have go3 := (hb9.cell (p := ⟨w.heap.size, 2, none⟩) hlt4).trans ho3
            have go4 := (hb9.cell (p := ⟨w.heap.size, 3, none⟩) hlt4).trans ho4
            have go5 := (hb9.cell (p := ⟨w.heap.size, 4, none⟩) hlt4).trans ho5
            have gof := fun o => (hb9.frozen (p := ⟨w.heap.size, o, none⟩) hlt4).trans (hfz o)
            have hb10 := hb7.trans (hb9.mono (by omega))
            clear ho1 ho2 ho3 ho4 ho5 hfz hb9 hfm
            go_wp2_with fail
            exact bodyPost_ret (v := .tuple #[.agg #[.int .i64 q1, .int .i64 q2, .int .i64 q3, .int .i64 q4, .int .i32 q5], .bool true]) (by simp [results, Tryd.results24, go_sem, go1, go2, go3, go4, go5]) rfl ⟨by rw [HDx.out]; rfl, hb10.trans (by repeat (first | with_reducible exact Below.refl _ _ | with_reducible refine below_drewN ?_ _ | ((with_reducible refine Below.setCell ?_ ?hq _); case hq => (first | (simp; done) | (simp; omega))) | ((with_reducible refine Below.alloc ?_ ?hq _); case hq => (first | (simp; done) | (simp; omega)))))⟩
          · have hc1 : (x / 1048576 % 32 == 0) = false := by simpa using hc
            have hmf : mb = false := by rw [HMB0.out, ht, hc1]; rfl
            have HN3 := Lib.hid (HN2.out hmf)
            clear hmf HMB0 HD HN2 ht hc
            go_wp2_with fail
            refine (cut_20_24 _ _ HX.out).mono ?_
            rintro e w' ⟨rfl, nd, rfl⟩
            go_wp2
            go_roundw
            case rel => exact ⟨45 + 1, by go_num, by omega, HN3, _, rfl, below_drewN hb8 _⟩
            case measure => simp [intOf]
        · have e1 : (((k : Int) + 1) == 46) = false := beq_eq_false_iff_ne.2 (by omega)
          have e2 : (((k : Int) + 1) != 46) = true := by simpa using (by omega : ((k : Int) + 1) ≠ 46)
          have hmt : mb = true := by rw [HMB0.out, ht, e2]; rfl
          have HDx := Lib.hid (HD.out hmt)
          clear hmt HMB0 HD HN2 ht e2
          go_wp2_with fail
          refine (HR.out _ (Below.refl _ _)).mono ?_
          rintro e w5 ⟨rfl, hb9⟩
          generalize readS ((k : Int) + 1) f x = r at *
          obtain ⟨q1, q2, q3, q4, q5⟩ := r
          simp only [icells]
          have hlt4 : w.heap.size < w4.heap.size := by omega
          have go1 := (hb9.cell (p := ⟨w.heap.size, 0, none⟩) hlt4).trans ho1
          have go2 := (hb9.cell (p := ⟨w.heap.size, 1, none⟩) hlt4).trans ho2
          have go3 := (hb9.cell (p := ⟨w.heap.size, 2, none⟩) hlt4).trans ho3
          have go4 := (hb9.cell (p := ⟨w.heap.size, 3, none⟩) hlt4).trans ho4
          have go5 := (hb9.cell (p := ⟨w.heap.size, 4, none⟩) hlt4).trans ho5
          have gof := fun o => (hb9.frozen (p := ⟨w.heap.size, o, none⟩) hlt4).trans (hfz o)
          have hb10 := hb7.trans (hb9.mono (by omega))
          clear ho1 ho2 ho3 ho4 ho5 hfz hb9 hfm
          go_wp2_with fail
          exact bodyPost_ret (v := .tuple #[.agg #[.int .i64 q1, .int .i64 q2, .int .i64 q3, .int .i64 q4, .int .i32 q5], .bool true]) (by simp [results, Tryd.results24, go_sem, go1, go2, go3, go4, go5]) rfl ⟨by rw [HDx.out]; rfl, hb10.trans (by repeat (first | with_reducible exact Below.refl _ _ | with_reducible refine below_drewN ?_ _ | ((with_reducible refine Below.setCell ?_ ?hq _); case hq => (first | (simp; done) | (simp; omega))) | ((with_reducible refine Below.alloc ?_ ?hq _); case hq => (first | (simp; done) | (simp; omega)))))⟩
    · obtain rfl : k = 59 := by omega
      have HDN : Hid (dec x = none) := Lib.hid (by unfold dec; rw [decOp_none x HN.out]; rfl)
      have ho1 : wr.cell? ⟨w.heap.size, 0, none⟩ = some (.int .i64 0) := cell_blk hblk2 rfl
      have ho2 : wr.cell? ⟨w.heap.size, 1, none⟩ = some (.int .i64 0) := cell_blk hblk2 rfl
      have ho3 : wr.cell? ⟨w.heap.size, 2, none⟩ = some (.int .i64 0) := cell_blk hblk2 rfl
      have ho4 : wr.cell? ⟨w.heap.size, 3, none⟩ = some (.int .i64 0) := cell_blk hblk2 rfl
      have ho5 : wr.cell? ⟨w.heap.size, 4, none⟩ = some (.int .i32 0) := cell_blk hblk2 rfl
      have hfz := free_of_one' hblk2
      clear hblk2 HN
      go_wp2
      exact bodyPost_ret (v := .tuple #[.agg #[.int .i64 0, .int .i64 0, .int .i64 0, .int .i64 0, .int .i32 0], .bool false]) (by simp [results, Tryd.results24, go_sem, ho1, ho2, ho3, ho4, ho5]) rfl ⟨by rw [HDN.out]; rfl, hb1.trans (by repeat (first | with_reducible exact Below.refl _ _ | with_reducible refine below_drewN ?_ _ | ((with_reducible refine Below.setCell ?_ ?hq _); case hq => (first | (simp; done) | (simp; omega))) | ((with_reducible refine Below.alloc ?_ ?hq _); case hq => (first | (simp; done) | (simp; omega)))))⟩
end Go.Proofs.YtlfnddmncbkjaacDoor.W
