/- MemBack: for every bytes, every place, and any word: what was stored is loaded, as much of it as there is room for, and all other bytes are as they were. No condition. -/
import Derived.Test.YtlfnddmncbkjaaaWMem
import Derived.Test.YtlfnddmncbkjaaaOpen
namespace Go.Proofs.Ytlfnddmncbkjaaa.MemBackLaw
set_option linter.unusedVariables false
set_option linter.unusedSimpArgs false
open Go.RowKit Fb W
theorem loads_any (op : Int) (w : World) (h : 16 ≤ op ∧ op ≤ 18) :
    Calls Try.prog 23 #[.int .i64 op] w fun e w' => e = .returned (.int .i64 (loadOf op)) ∧ w = w' := by
  have : op = 16 ∨ op = 17 ∨ op = 18 := by omega
  rcases this with rfl | rfl | rfl
  all_goals
    go_enter Try.func23, Try.ntmps23
    go_wp2
    go_ret
    exact ⟨rfl, rfl⟩
set_option maxHeartbeats 2000000 in
theorem walk0 (v : Value) (l : List Int) (wh a x : Int) (w : World) (hv : Ints .u8 w v l) (hb : Bytes l) (hr : l.length ≤ 140737488351232) (hwh : 0 ≤ wh ∧ wh < 256) (ha : U32 a) (hx : U32 x) (h3 : wh % 3 = 0) :
    Calls Try.prog 6 #[v, .int .u8 wh, .int .u32 a, .int .u32 x] w fun e w' => e = .returned (.bool true) ∧ Below w.heap.size w w' := by
  have HV := Lib.hid hv
  have HA := Lib.hid ha
  have HX := Lib.hid hx
  have HR := Lib.hid (show l.length ≤ 140737488355328 by omega)
  have ha0 := ha.1
  have ha1 := ha.2
  clear hv ha hx hr
  by_cases hS : mStoreOk l 16 a = true
  · have HS := Lib.hid hS
    have hok : mLoadOk (mStore l 16 a x) (loadOf 16) a = true := by
      rcases loadOf_ok l 16 a x with e | e
      · rw [e]; exact hS
      · omega
    have hback : mLoad (mStore l 16 a x) (loadOf 16) a = x % 256 := by
      obtain ⟨k, rfl⟩ := Int.eq_ofNat_of_zero_le HA.out.1
      exact mLoad_back l 16 k x HX.out hS
    have hmask : bits .and .u32 x 255 = x % 256 := mask32 x 8 (by omega) 255 rfl HX.out.1 HX.out.2
    have HOK := Lib.hid hok
    have HBK := Lib.hid hback
    clear hS hok hback
    go_enter Try.func6, Try.ntmps6
    go_wp2_with fail
    refine (store_any v l 16 a x _ (by exact HV.out.below (by go_grown)) HA.out HX.out HR.out).mono ?_
    rintro e w1 ⟨⟨v1, rfl, h1⟩, hb1⟩
    rw [if_pos HS.out] at h1
    rw [HS.out]
    have cm : w1.cell? ⟨w.heap.size + 1, 0, none⟩ = some (.int .u32 255) := (hb1.cell (by simp)).trans (by go_simp)
    have hb0 : Below w.heap.size w w1 := (show Below w.heap.size w _ by go_grown).trans (hb1.mono (by simp; omega))
    clear hb1
    have HB := Lib.hid hb0
    have H1 := Lib.hid h1
    have hml : (mStore l 16 a x).length = l.length := mStore_length _ _ _ _
    clear hb0 h1
    go_wp2_with fail
    refine (loads_any 16 w1 (by omega)).mono ?_; rintro e w' ⟨rfl, rfl⟩
    go_wp2_with fail
    refine (load_any v1 _ _ a w1 H1.out HA.out (mStore_byte l 16 a x hb.getD)).mono ?_; rintro e w' ⟨rfl, rfl⟩
    rw [HOK.out, HBK.out]
    obtain ⟨ao1, cap1, rfl, hc1, hm1, _, ho1⟩ := H1.out.open
    rw [hml] at hc1 ho1 ⊢
    obtain ⟨ao, cap, rfl, hc, hm, _, ho⟩ := HV.out.open
    have HO1 := Lib.hid ho1
    have HO := Lib.hid ho
    clear ho1 ho hml hm1 hm
    have hr2 := HR.out
    go_wp2_with fail
    go_loopw [22] (fun i wr => ∃ k : Nat, k ≤ l.length ∧ i = .int .i64 k ∧ ∃ n, wr = w1.drewN n) (fun i _ => l.length - (intOf i).toNat)
    case atStart => exact ⟨0, Nat.zero_le _, rfl, 0, rfl⟩
    case round =>
      obtain ⟨k, hk, rfl, n, rfl⟩ := hrel
      by_cases hlt : k < l.length
      · obtain ⟨b, off, rfl, _, hcell⟩ := HO.out (by intro e; rw [e] at hlt; simp at hlt)
        obtain ⟨b1, off1, rfl, _, hcell1⟩ := HO1.out (by intro e; have e2 := congrArg List.length e; rw [mStore_length] at e2; rw [List.length_nil] at e2; omega)
        have hcw := (HB.out.cell (p := ⟨b, off + k, none⟩) (lt_of_cell (hcell k hlt))).trans (hcell k hlt)
        have hc1 := hcell1 k hlt
        clear hcell hcell1
        by_cases hin : a ≤ (k : Int) ∧ (k : Int) < a + 1
        · obtain ⟨h5, h6⟩ := hin
          have hd1 : decide ((k : Int) < a) = false := by simp; omega
          have hd2 : decide (a + 1 ≤ (k : Int)) = false := by simp; omega
          clear hcw hc1
          go_wp2
          go_quiet (fail)
          go_wp2
          go_roundw
          case rel => exact ⟨k + 1, by omega, by go_num, _, rfl⟩
          case measure => simp [intOf]; omega
        · have e1 : (mStore l 16 a x).getD k 0 = l.getD k 0 := by
            obtain ⟨j, rfl⟩ := Int.eq_ofNat_of_zero_le ha0
            have e2 : mStore l 16 j x = lay l j x 1 := by unfold mStore; rw [if_pos HS.out]; rfl
            rw [e2]
            exact lay_other l j x k 1 (by omega)
          rw [e1] at hc1
          generalize l.getD k 0 = y at hcw hc1
          have hout : (k : Int) < a ∨ (a ≤ (k : Int) ∧ a + 1 ≤ (k : Int)) := by omega
          clear hin e1
          rcases hout with h5 | ⟨h5, h6⟩
          · go_wp2
            go_quiet (fail)
            go_wp2
            go_roundw
            case rel => exact ⟨k + 1, by omega, by go_num, _, rfl⟩
            case measure => simp [intOf]; omega
          · have hd1 : decide ((k : Int) < a) = false := by simp; omega
            go_wp2
            go_quiet (fail)
            go_wp2
            go_roundw
            case rel => exact ⟨k + 1, by omega, by go_num, _, rfl⟩
            case measure => simp [intOf]; omega
      · go_wp2
        go_ret
        exact ⟨rfl, below_drewN HB.out _⟩
  · have hS2 : mStoreOk l 16 a = false := by simpa using hS
    have HS := Lib.hid hS2
    have hno : mLoadOk l (loadOf 16) a = false := by rw [loadOf_no l 16 a (by omega)]; exact hS2
    have HNO := Lib.hid hno
    clear hS hS2 hno
    go_enter Try.func6, Try.ntmps6
    go_wp2_with fail
    refine (store_any v l 16 a x _ (by exact HV.out.below (by go_grown)) HA.out HX.out HR.out).mono ?_
    rintro e w1 ⟨⟨v1, rfl, h1⟩, hb1⟩
    rw [HS.out] at h1 ⊢
    simp only [Bool.false_eq_true, if_false] at h1
    have hb0 : Below w.heap.size w w1 := (show Below w.heap.size w _ by go_grown).trans (hb1.mono (by simp; omega))
    clear hb1
    have HB := Lib.hid hb0
    obtain ⟨ao1, cap1, rfl, _, _, _, _⟩ := h1.open
    clear hb0 h1
    go_wp2_with fail
    refine (loads_any 16 w1 (by omega)).mono ?_; rintro e w' ⟨rfl, rfl⟩
    go_wp2_with fail
    refine (load_any v l _ a w1 (HV.out.below HB.out) HA.out hb.getD).mono ?_; rintro e w' ⟨rfl, rfl⟩
    rw [HNO.out]
    go_wp2_with fail
    refine (store_any _ [0] 16 0 7 _ (Ints.mk (off := 0) (cap := 1) (at_alloc _ [.int .u8 0] _ _) rfl (Nat.le_refl _) (by decide)) (by unfold U32; omega) (by unfold U32; omega) (by simp)).mono ?_
    rintro e w2 ⟨⟨v2, rfl, h2⟩, hb2⟩
    rw [show mStoreOk [0] 16 0 = true from rfl, show mStore [0] 16 0 7 = [7] from rfl] at h2
    rw [show mStoreOk [0] 16 0 = true from rfl]
    simp only [if_true] at h2
    obtain ⟨ao2, cap2, rfl, hc2, _, _, ho2⟩ := h2.open
    obtain ⟨b2, off2, rfl, _, hcell2⟩ := ho2 (by simp)
    have hc7 : w2.cell? ⟨b2, off2, none⟩ = some (.int .u8 7) := hcell2 0 (by simp)
    have HB2 := Lib.hid hb2
    clear h2 hb2 ho2 hcell2
    go_wp2_with fail
    go_ret
    refine ⟨rfl, HB.out.trans ?_⟩
    exact (show Below w.heap.size w1 _ by exact Below.alloc (Below.refl _ _) HB.out.size _).trans (HB2.out.mono (by have := HB.out.size; simp; omega))
set_option maxHeartbeats 2000000 in
theorem walk1 (v : Value) (l : List Int) (wh a x : Int) (w : World) (hv : Ints .u8 w v l) (hb : Bytes l) (hr : l.length ≤ 140737488351232) (hwh : 0 ≤ wh ∧ wh < 256) (ha : U32 a) (hx : U32 x) (h3 : wh % 3 = 1) :
    Calls Try.prog 6 #[v, .int .u8 wh, .int .u32 a, .int .u32 x] w fun e w' => e = .returned (.bool true) ∧ Below w.heap.size w w' := by
  have HV := Lib.hid hv
  have HA := Lib.hid ha
  have HX := Lib.hid hx
  have HR := Lib.hid (show l.length ≤ 140737488355328 by omega)
  have ha0 := ha.1
  have ha1 := ha.2
  clear hv ha hx hr
  by_cases hS : mStoreOk l 17 a = true
  · have HS := Lib.hid hS
    have hok : mLoadOk (mStore l 17 a x) (loadOf 17) a = true := by
      rcases loadOf_ok l 17 a x with e | e
      · rw [e]; exact hS
      · omega
    have hback : mLoad (mStore l 17 a x) (loadOf 17) a = x % 65536 := by
      obtain ⟨k, rfl⟩ := Int.eq_ofNat_of_zero_le HA.out.1
      exact mLoad_back l 17 k x HX.out hS
    have hmask : bits .and .u32 x 65535 = x % 65536 := mask32 x 16 (by omega) 65535 rfl HX.out.1 HX.out.2
    have HOK := Lib.hid hok
    have HBK := Lib.hid hback
    clear hS hok hback
    go_enter Try.func6, Try.ntmps6
    go_wp2_with fail
    refine (store_any v l 17 a x _ (by exact HV.out.below (by go_grown)) HA.out HX.out HR.out).mono ?_
    rintro e w1 ⟨⟨v1, rfl, h1⟩, hb1⟩
    rw [if_pos HS.out] at h1
    rw [HS.out]
    have cm : w1.cell? ⟨w.heap.size + 1, 1, none⟩ = some (.int .u32 65535) := (hb1.cell (by simp)).trans (by go_simp)
    have hb0 : Below w.heap.size w w1 := (show Below w.heap.size w _ by go_grown).trans (hb1.mono (by simp; omega))
    clear hb1
    have HB := Lib.hid hb0
    have H1 := Lib.hid h1
    have hml : (mStore l 17 a x).length = l.length := mStore_length _ _ _ _
    clear hb0 h1
    go_wp2_with fail
    refine (loads_any 17 w1 (by omega)).mono ?_; rintro e w' ⟨rfl, rfl⟩
    go_wp2_with fail
    refine (load_any v1 _ _ a w1 H1.out HA.out (mStore_byte l 17 a x hb.getD)).mono ?_; rintro e w' ⟨rfl, rfl⟩
    rw [HOK.out, HBK.out]
    obtain ⟨ao1, cap1, rfl, hc1, hm1, _, ho1⟩ := H1.out.open
    rw [hml] at hc1 ho1 ⊢
    obtain ⟨ao, cap, rfl, hc, hm, _, ho⟩ := HV.out.open
    have HO1 := Lib.hid ho1
    have HO := Lib.hid ho
    clear ho1 ho hml hm1 hm
    have hr2 := HR.out
    go_wp2_with fail
    go_loopw [22] (fun i wr => ∃ k : Nat, k ≤ l.length ∧ i = .int .i64 k ∧ ∃ n, wr = w1.drewN n) (fun i _ => l.length - (intOf i).toNat)
    case atStart => exact ⟨0, Nat.zero_le _, rfl, 0, rfl⟩
    case round =>
      obtain ⟨k, hk, rfl, n, rfl⟩ := hrel
      by_cases hlt : k < l.length
      · obtain ⟨b, off, rfl, _, hcell⟩ := HO.out (by intro e; rw [e] at hlt; simp at hlt)
        obtain ⟨b1, off1, rfl, _, hcell1⟩ := HO1.out (by intro e; have e2 := congrArg List.length e; rw [mStore_length] at e2; rw [List.length_nil] at e2; omega)
        have hcw := (HB.out.cell (p := ⟨b, off + k, none⟩) (lt_of_cell (hcell k hlt))).trans (hcell k hlt)
        have hc1 := hcell1 k hlt
        clear hcell hcell1
        by_cases hin : a ≤ (k : Int) ∧ (k : Int) < a + 2
        · obtain ⟨h5, h6⟩ := hin
          have hd1 : decide ((k : Int) < a) = false := by simp; omega
          have hd2 : decide (a + 2 ≤ (k : Int)) = false := by simp; omega
          clear hcw hc1
          go_wp2
          go_quiet (fail)
          go_wp2
          go_roundw
          case rel => exact ⟨k + 1, by omega, by go_num, _, rfl⟩
          case measure => simp [intOf]; omega
        · have e1 : (mStore l 17 a x).getD k 0 = l.getD k 0 := by
            obtain ⟨j, rfl⟩ := Int.eq_ofNat_of_zero_le ha0
            have e2 : mStore l 17 j x = lay l j x 2 := by unfold mStore; rw [if_pos HS.out]; rfl
            rw [e2]
            exact lay_other l j x k 2 (by omega)
          rw [e1] at hc1
          generalize l.getD k 0 = y at hcw hc1
          have hout : (k : Int) < a ∨ (a ≤ (k : Int) ∧ a + 2 ≤ (k : Int)) := by omega
          clear hin e1
          rcases hout with h5 | ⟨h5, h6⟩
          · go_wp2
            go_quiet (fail)
            go_wp2
            go_roundw
            case rel => exact ⟨k + 1, by omega, by go_num, _, rfl⟩
            case measure => simp [intOf]; omega
          · have hd1 : decide ((k : Int) < a) = false := by simp; omega
            go_wp2
            go_quiet (fail)
            go_wp2
            go_roundw
            case rel => exact ⟨k + 1, by omega, by go_num, _, rfl⟩
            case measure => simp [intOf]; omega
      · go_wp2
        go_ret
        exact ⟨rfl, below_drewN HB.out _⟩
  · have hS2 : mStoreOk l 17 a = false := by simpa using hS
    have HS := Lib.hid hS2
    have hno : mLoadOk l (loadOf 17) a = false := by rw [loadOf_no l 17 a (by omega)]; exact hS2
    have HNO := Lib.hid hno
    clear hS hS2 hno
    go_enter Try.func6, Try.ntmps6
    go_wp2_with fail
    refine (store_any v l 17 a x _ (by exact HV.out.below (by go_grown)) HA.out HX.out HR.out).mono ?_
    rintro e w1 ⟨⟨v1, rfl, h1⟩, hb1⟩
    rw [HS.out] at h1 ⊢
    simp only [Bool.false_eq_true, if_false] at h1
    have hb0 : Below w.heap.size w w1 := (show Below w.heap.size w _ by go_grown).trans (hb1.mono (by simp; omega))
    clear hb1
    have HB := Lib.hid hb0
    obtain ⟨ao1, cap1, rfl, _, _, _, _⟩ := h1.open
    clear hb0 h1
    go_wp2_with fail
    refine (loads_any 17 w1 (by omega)).mono ?_; rintro e w' ⟨rfl, rfl⟩
    go_wp2_with fail
    refine (load_any v l _ a w1 (HV.out.below HB.out) HA.out hb.getD).mono ?_; rintro e w' ⟨rfl, rfl⟩
    rw [HNO.out]
    go_wp2_with fail
    refine (store_any _ [0] 16 0 7 _ (Ints.mk (off := 0) (cap := 1) (at_alloc _ [.int .u8 0] _ _) rfl (Nat.le_refl _) (by decide)) (by unfold U32; omega) (by unfold U32; omega) (by simp)).mono ?_
    rintro e w2 ⟨⟨v2, rfl, h2⟩, hb2⟩
    rw [show mStoreOk [0] 16 0 = true from rfl, show mStore [0] 16 0 7 = [7] from rfl] at h2
    rw [show mStoreOk [0] 16 0 = true from rfl]
    simp only [if_true] at h2
    obtain ⟨ao2, cap2, rfl, hc2, _, _, ho2⟩ := h2.open
    obtain ⟨b2, off2, rfl, _, hcell2⟩ := ho2 (by simp)
    have hc7 : w2.cell? ⟨b2, off2, none⟩ = some (.int .u8 7) := hcell2 0 (by simp)
    have HB2 := Lib.hid hb2
    clear h2 hb2 ho2 hcell2
    go_wp2_with fail
    go_ret
    refine ⟨rfl, HB.out.trans ?_⟩
    exact (show Below w.heap.size w1 _ by exact Below.alloc (Below.refl _ _) HB.out.size _).trans (HB2.out.mono (by have := HB.out.size; simp; omega))
set_option maxHeartbeats 2000000 in
theorem walk2 (v : Value) (l : List Int) (wh a x : Int) (w : World) (hv : Ints .u8 w v l) (hb : Bytes l) (hr : l.length ≤ 140737488351232) (hwh : 0 ≤ wh ∧ wh < 256) (ha : U32 a) (hx : U32 x) (h3 : wh % 3 = 2) :
    Calls Try.prog 6 #[v, .int .u8 wh, .int .u32 a, .int .u32 x] w fun e w' => e = .returned (.bool true) ∧ Below w.heap.size w w' := by
  have HV := Lib.hid hv
  have HA := Lib.hid ha
  have HX := Lib.hid hx
  have HR := Lib.hid (show l.length ≤ 140737488355328 by omega)
  have ha0 := ha.1
  have ha1 := ha.2
  clear hv ha hx hr
  by_cases hS : mStoreOk l 18 a = true
  · have HS := Lib.hid hS
    have hok : mLoadOk (mStore l 18 a x) (loadOf 18) a = true := by
      rcases loadOf_ok l 18 a x with e | e
      · rw [e]; exact hS
      · omega
    have hback : mLoad (mStore l 18 a x) (loadOf 18) a = x := by
      obtain ⟨k, rfl⟩ := Int.eq_ofNat_of_zero_le HA.out.1
      exact (mLoad_back l 18 k x HX.out hS).trans (Int.emod_eq_of_lt HX.out.1 HX.out.2)
    have hmask : bits .and .u32 x 4294967295 = x := (mask32 x 32 (by omega) 4294967295 rfl HX.out.1 HX.out.2).trans (Int.emod_eq_of_lt HX.out.1 HX.out.2)
    have HOK := Lib.hid hok
    have HBK := Lib.hid hback
    clear hS hok hback
    go_enter Try.func6, Try.ntmps6
    go_wp2_with fail
    refine (store_any v l 18 a x _ (by exact HV.out.below (by go_grown)) HA.out HX.out HR.out).mono ?_
    rintro e w1 ⟨⟨v1, rfl, h1⟩, hb1⟩
    rw [if_pos HS.out] at h1
    rw [HS.out]
    have cm : w1.cell? ⟨w.heap.size + 1, 2, none⟩ = some (.int .u32 4294967295) := (hb1.cell (by simp)).trans (by go_simp)
    have hb0 : Below w.heap.size w w1 := (show Below w.heap.size w _ by go_grown).trans (hb1.mono (by simp; omega))
    clear hb1
    have HB := Lib.hid hb0
    have H1 := Lib.hid h1
    have hml : (mStore l 18 a x).length = l.length := mStore_length _ _ _ _
    clear hb0 h1
    go_wp2_with fail
    refine (loads_any 18 w1 (by omega)).mono ?_; rintro e w' ⟨rfl, rfl⟩
    go_wp2_with fail
    refine (load_any v1 _ _ a w1 H1.out HA.out (mStore_byte l 18 a x hb.getD)).mono ?_; rintro e w' ⟨rfl, rfl⟩
    rw [HOK.out, HBK.out]
    obtain ⟨ao1, cap1, rfl, hc1, hm1, _, ho1⟩ := H1.out.open
    rw [hml] at hc1 ho1 ⊢
    obtain ⟨ao, cap, rfl, hc, hm, _, ho⟩ := HV.out.open
    have HO1 := Lib.hid ho1
    have HO := Lib.hid ho
    clear ho1 ho hml hm1 hm
    have hr2 := HR.out
    go_wp2_with fail
    go_loopw [22] (fun i wr => ∃ k : Nat, k ≤ l.length ∧ i = .int .i64 k ∧ ∃ n, wr = w1.drewN n) (fun i _ => l.length - (intOf i).toNat)
    case atStart => exact ⟨0, Nat.zero_le _, rfl, 0, rfl⟩
    case round =>
      obtain ⟨k, hk, rfl, n, rfl⟩ := hrel
      by_cases hlt : k < l.length
      · obtain ⟨b, off, rfl, _, hcell⟩ := HO.out (by intro e; rw [e] at hlt; simp at hlt)
        obtain ⟨b1, off1, rfl, _, hcell1⟩ := HO1.out (by intro e; have e2 := congrArg List.length e; rw [mStore_length] at e2; rw [List.length_nil] at e2; omega)
        have hcw := (HB.out.cell (p := ⟨b, off + k, none⟩) (lt_of_cell (hcell k hlt))).trans (hcell k hlt)
        have hc1 := hcell1 k hlt
        clear hcell hcell1
        by_cases hin : a ≤ (k : Int) ∧ (k : Int) < a + 4
        · obtain ⟨h5, h6⟩ := hin
          have hd1 : decide ((k : Int) < a) = false := by simp; omega
          have hd2 : decide (a + 4 ≤ (k : Int)) = false := by simp; omega
          clear hcw hc1
          go_wp2
          go_quiet (fail)
          go_wp2
          go_roundw
          case rel => exact ⟨k + 1, by omega, by go_num, _, rfl⟩
          case measure => simp [intOf]; omega
        · have e1 : (mStore l 18 a x).getD k 0 = l.getD k 0 := by
            obtain ⟨j, rfl⟩ := Int.eq_ofNat_of_zero_le ha0
            have e2 : mStore l 18 j x = lay l j x 4 := by unfold mStore; rw [if_pos HS.out]; rfl
            rw [e2]
            exact lay_other l j x k 4 (by omega)
          rw [e1] at hc1
          generalize l.getD k 0 = y at hcw hc1
          have hout : (k : Int) < a ∨ (a ≤ (k : Int) ∧ a + 4 ≤ (k : Int)) := by omega
          clear hin e1
          rcases hout with h5 | ⟨h5, h6⟩
          · go_wp2
            go_quiet (fail)
            go_wp2
            go_roundw
            case rel => exact ⟨k + 1, by omega, by go_num, _, rfl⟩
            case measure => simp [intOf]; omega
          · have hd1 : decide ((k : Int) < a) = false := by simp; omega
            go_wp2
            go_quiet (fail)
            go_wp2
            go_roundw
            case rel => exact ⟨k + 1, by omega, by go_num, _, rfl⟩
            case measure => simp [intOf]; omega
      · go_wp2
        go_ret
        exact ⟨rfl, below_drewN HB.out _⟩
  · have hS2 : mStoreOk l 18 a = false := by simpa using hS
    have HS := Lib.hid hS2
    have hno : mLoadOk l (loadOf 18) a = false := by rw [loadOf_no l 18 a (by omega)]; exact hS2
    have HNO := Lib.hid hno
    clear hS hS2 hno
    go_enter Try.func6, Try.ntmps6
    go_wp2_with fail
    refine (store_any v l 18 a x _ (by exact HV.out.below (by go_grown)) HA.out HX.out HR.out).mono ?_
    rintro e w1 ⟨⟨v1, rfl, h1⟩, hb1⟩
    rw [HS.out] at h1 ⊢
    simp only [Bool.false_eq_true, if_false] at h1
    have hb0 : Below w.heap.size w w1 := (show Below w.heap.size w _ by go_grown).trans (hb1.mono (by simp; omega))
    clear hb1
    have HB := Lib.hid hb0
    obtain ⟨ao1, cap1, rfl, _, _, _, _⟩ := h1.open
    clear hb0 h1
    go_wp2_with fail
    refine (loads_any 18 w1 (by omega)).mono ?_; rintro e w' ⟨rfl, rfl⟩
    go_wp2_with fail
    refine (load_any v l _ a w1 (HV.out.below HB.out) HA.out hb.getD).mono ?_; rintro e w' ⟨rfl, rfl⟩
    rw [HNO.out]
    go_wp2_with fail
    refine (store_any _ [0] 16 0 7 _ (Ints.mk (off := 0) (cap := 1) (at_alloc _ [.int .u8 0] _ _) rfl (Nat.le_refl _) (by decide)) (by unfold U32; omega) (by unfold U32; omega) (by simp)).mono ?_
    rintro e w2 ⟨⟨v2, rfl, h2⟩, hb2⟩
    rw [show mStoreOk [0] 16 0 = true from rfl, show mStore [0] 16 0 7 = [7] from rfl] at h2
    rw [show mStoreOk [0] 16 0 = true from rfl]
    simp only [if_true] at h2
    obtain ⟨ao2, cap2, rfl, hc2, _, _, ho2⟩ := h2.open
    obtain ⟨b2, off2, rfl, _, hcell2⟩ := ho2 (by simp)
    have hc7 : w2.cell? ⟨b2, off2, none⟩ = some (.int .u8 7) := hcell2 0 (by simp)
    have HB2 := Lib.hid hb2
    clear h2 hb2 ho2 hcell2
    go_wp2_with fail
    go_ret
    refine ⟨rfl, HB.out.trans ?_⟩
    exact (show Below w.heap.size w1 _ by exact Below.alloc (Below.refl _ _) HB.out.size _).trans (HB2.out.mono (by have := HB.out.size; simp; omega))
theorem walk (v : Value) (l : List Int) (wh a x : Int) (w : World) (hv : Ints .u8 w v l) (hb : Bytes l) (hr : l.length ≤ 140737488351232) (hwh : 0 ≤ wh ∧ wh < 256) (ha : U32 a) (hx : U32 x) :
    Calls Try.prog 6 #[v, .int .u8 wh, .int .u32 a, .int .u32 x] w fun e w' => e = .returned (.bool true) ∧ Below w.heap.size w w' := by
  have h3 : wh % 3 = 0 ∨ wh % 3 = 1 ∨ wh % 3 = 2 := by omega
  rcases h3 with h3 | h3 | h3
  · exact walk0 v l wh a x w hv hb hr hwh ha hx h3
  · exact walk1 v l wh a x w hv hb hr hwh ha hx h3
  · exact walk2 v l wh a x w hv hb hr hwh ha hx h3
open RowB in
set_option maxRecDepth 100000 in
theorem lifted (os : Os) (started : os.Started) (H : Type) (enc : TypeId × Value → H) :
    ReturnsInHanded {} Try.checked os 6 .any (Rows.memBackSpec.pre6 enc Try.prog Try.f6 Rows.memBackRow.domain false) (Rows.memBackSpec.post enc Try.prog Try.f6 false true false false) := by
  refine RowB.law_lifted (C := Try.checked) (tb := 4) (by kernel_rfl) started (by kernel_rfl) (by kernel_rfl)
    (ChangeSpec.witness6 (enc := enc) (C := Try.checked) false ⟨#[], #[.slice none 0 0, .int .u8 0, .int .u32 0, .int .u32 0], []⟩ 8 (by kernel_rfl) (by kernel_rfl) (by kernel_rfl) (by kernel_rfl))
    rfl (fun ds h => by match ds, h with | [_, _, _, _], _ => rfl) (by kernel_rfl) (by kernel_rfl) (by kernel_rfl) (of_decide_eq_true (by kernel_rfl)) ?_
  intro W base args ds ps hval hA _ hz
  have hp : (Try.f6).params.toList = [22, 5, 33, 33] := by kernel_rfl
  rw [hp] at hA hz
  obtain ⟨v0, vs0, d0, ds0, p0, q0, hargs, rfl, rfl, h0, r0⟩ := ChangeShapes.trodAll_cons hA
  obtain ⟨v1, vs1, d1, ds1, p1, q1, rfl, rfl, rfl, h1, r1⟩ := ChangeShapes.trodAll_cons r0
  obtain ⟨v2, vs2, d2, ds2, p2, q2, rfl, rfl, rfl, h2, r2⟩ := ChangeShapes.trodAll_cons r1
  obtain ⟨v3, vs3, d3, ds3, p3, q3, rfl, rfl, rfl, h3, r3⟩ := ChangeShapes.trodAll_cons r2
  obtain ⟨rfl, rfl, rfl⟩ := ChangeShapes.trodAll_nil r3
  obtain rfl : args = #[v0, v1, v2, v3] := by cases args; simp_all
  obtain ⟨z0, y0⟩ := weights_cons hz
  obtain ⟨z1, y1⟩ := weights_cons y0
  obtain ⟨z2, y2⟩ := weights_cons y1
  obtain ⟨z3, y3⟩ := weights_cons y2
  have k0 := hval 0 22 v0 (by kernel_rfl) rfl
  have k1 := hval 1 5 v1 (by kernel_rfl) rfl
  have k2 := hval 2 33 v2 (by kernel_rfl) rfl
  have k3 := hval 3 33 v3 (by kernel_rfl) rfl
  obtain ⟨l, hv, hb, hr⟩ := open_bytes Try.underlying22 Try.underlying5 (by kernel_rfl) (by kernel_rfl) k0 h0 z0
  obtain ⟨wh, rfl, rfl, rfl, wo⟩ := ChangeShapes.open_int Try.underlying5 k1 h1
  obtain ⟨a, rfl, rfl, rfl, wa⟩ := ChangeShapes.open_int Try.underlying33 k2 h2
  obtain ⟨x, rfl, rfl, rfl, wx⟩ := ChangeShapes.open_int Try.underlying33 k3 h3
  exact walk v0 l wh a x W hv hb hr (Fb.wf_u8 wo) (Fb.wf_u32 wa) (Fb.wf_u32 wx)
/-- THE STATEMENT -/
theorem proved : Rows.MemBackSaid :=
  OpenClaim.holds_of_wide 6 Try.f6 rfl rfl rfl rfl rfl rfl rfl ⟨rfl, rfl, rfl, rfl, rfl⟩ rfl rfl rfl rfl rfl (by kernel_rfl) Try.func6 (by kernel_rfl)
    (of_decide_eq_true (by kernel_rfl)) (by unfold Func.isWrapper; first | (rw [if_pos (by decide +kernel)]; kernel_rfl) | (rw [if_neg (by decide +kernel)]; exact ⟨rfl, rfl⟩))
    (fun os started H enc _ => lifted os started H enc)
#print axioms proved
end Go.Proofs.Ytlfnddmncbkjaaa.MemBackLaw
