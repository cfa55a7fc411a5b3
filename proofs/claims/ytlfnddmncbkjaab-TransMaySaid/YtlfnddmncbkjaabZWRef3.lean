/- The walks of ferrybridgeref3 (bytes) and what it calls. -/
import Derived.Test.YtlfnddmncbkjaabZMA
namespace Go.Proofs.Ytlfnddmncbkjaab.W
set_option linter.unusedVariables false
set_option linter.unusedSimpArgs false
open Go.RowKit Fb
set_option maxHeartbeats 400000 in
theorem of1_any (n : Int) (w : World) (h : -9223372036854775808 ≤ n ∧ n ≤ 9223372036854775807) :
    Calls Try.prog 60 #[.int .i64 n] w fun e w' => e = .returned (.int .u32 (n % 4294967296)) ∧ w = w' := by
  by_cases hn : 0 ≤ n
  all_goals
    go_enter Try.func60, Try.ntmps60
    go_wp2
    all_goals go_ret
    all_goals refine ⟨ret_int ?_, rfl⟩
    all_goals first
      | rfl
      | (have hq := Int.tmod_def n 4294967296; unfold wrap64; omega)
      | (have hq := Int.tmod_def n 4294967296; omega)
set_option maxHeartbeats 400000 in
theorem size3_load (op : Int) (w : World) :
    Calls Try.prog 102 #[.int .i64 op, .bool false] w fun e w' => e = .returned (.int .i64 (lsize op)) ∧ w = w' := by
  go_enter Try.func102, Try.ntmps102
  go_wp2
  all_goals go_ret
  all_goals refine ⟨ret_int ?_, rfl⟩
  all_goals simp_all [lsize, loads, msize]
  all_goals omega
set_option maxHeartbeats 400000 in
theorem size3_store (op : Int) (w : World) :
    Calls Try.prog 102 #[.int .i64 op, .bool true] w fun e w' => e = .returned (.int .i64 (ssize op)) ∧ w = w' := by
  go_enter Try.func102, Try.ntmps102
  go_wp2
  all_goals go_ret
  all_goals refine ⟨ret_int ?_, rfl⟩
  all_goals simp_all [ssize, stores, msize]
  all_goals omega
set_option maxHeartbeats 400000 in
theorem there3_any (ao : Option Addr) (n c : Nat) (at_ many : Int) (w : World) (hn : n ≤ maxLen) (ha : U32 at_) (hm : U32 many) :
    Calls Try.prog 103 #[.slice ao n c, .int .u32 at_, .int .i64 many] w fun e w' => e = .returned (.bool (there n at_ many)) ∧ w = w' := by
  unfold maxLen at hn
  unfold U32 at ha hm
  go_enter Try.func103, Try.ntmps103
  go_wp2
  all_goals go_ret
  all_goals refine ⟨ret_bool ?_, rfl⟩
  all_goals simp [there, *]
  all_goals omega
theorem load3_no (ao : Option Addr) (n c : Nat) (op at_ : Int) (w : World) (hn : n ≤ maxLen) (ha : U32 at_) (h : (loads op && there n at_ (msize op)) = false) :
    Calls Try.prog 76 #[.slice ao n c, .int .i64 op, .int .u32 at_] w fun e w' => e = .returned (.tuple #[.int .u32 0, .bool false]) ∧ w = w' := by
  have hm : U32 (lsize op) := by unfold U32 lsize msize; repeat' split <;> omega
  have ht : there n at_ (lsize op) = false := by
    unfold lsize
    by_cases hl : loads op = true
    · rw [if_pos hl]; simpa [hl] using h
    · rw [if_neg hl]; simp [there]
  clear h
  go_enter Try.func76, Try.ntmps76
  go_wp2_with (first | (go_at_call 102; refine (size3_load _ _).mono ?_; rintro e w' ⟨rfl, rfl⟩) | (go_at_call 103; refine (there3_any _ _ _ _ _ _ hn ha hm).mono ?_; rintro e w' ⟨rfl, rfl⟩))
  go_ret2
  exact ⟨rfl, rfl⟩
set_option maxHeartbeats 1000000 in
theorem load3_yes (b off c : Nat) (l : List Int) (op at_ : Int) (w : World) (hn : l.length ≤ maxLen) (ha : U32 at_) (h : mLoadOk l op at_ = true)
    (hc : ∀ i, i < l.length → w.cell? ⟨b, off + i, none⟩ = some (.int .u8 (l.getD i 0))) (hb : ∀ i, 0 ≤ l.getD i 0 ∧ l.getD i 0 < 256) :
    Calls Try.prog 76 #[.slice (some ⟨b, off, none⟩) l.length c, .int .i64 op, .int .u32 at_] w fun e w' => e = .returned (.tuple #[.int .u32 (mLoad l op at_), .bool true]) ∧ w = w' := by
  have hm : U32 (msize op) := by unfold U32 msize; repeat' split <;> omega
  have ht : there l.length at_ (msize op) = true := by simp [mLoadOk] at h; exact h.2
  have hop : op = 11 ∨ op = 12 ∨ op = 13 ∨ op = 14 ∨ op = 15 := by simp [mLoadOk, loads] at h; omega
  have hat : at_.toNat + (msize op).toNat ≤ l.length := by
    simp [there] at ht; unfold U32 at ha; omega
  have haf : at_ + msize op ≤ 4294967296 := by
    simp [there] at ht
    unfold U32 at ha
    rcases hop with rfl | rfl | rfl | rfl | rfl <;> simp [msize] at ht ⊢ <;> omega
  obtain ⟨k, rfl⟩ := Int.eq_ofNat_of_zero_le ha.1
  have HA := Lib.hid ha
  have HM := Lib.hid hm
  have HT := Lib.hid ht
  have HN := Lib.hid hn
  clear ha hm hn
  rcases hop with rfl | rfl | rfl | rfl | rfl
  · have H := Lib.hid h
    have ht1 : there l.length k 1 = true := HT.out
    have HM1 : Hid (U32 1) := HM
    have hk0 : k + 1 ≤ l.length := by simpa [msize] using hat
    have hk1 : k + 1 ≤ 4294967296 := by simp [msize] at haf; omega
    have c0 := hc (k) (by omega)
    have b0 := hb (k)
    obtain ⟨x0, hx0⟩ : ∃ x, x = l.getD (k) 0 := ⟨_, rfl⟩
    rw [← hx0] at c0 b0
    have X0 := Lib.hid hx0
    clear hx0
    clear hc hb h hat haf ht
    go_enter Try.func76, Try.ntmps76
    go_wp2_with (first | (go_at_call 102; refine (size3_load _ _).mono ?_; rintro e w' ⟨rfl, rfl⟩; rw [show lsize 11 = 1 from rfl]) | (go_at_call 103; refine (there3_any _ _ _ _ _ _ HN.out HA.out HM1.out).mono ?_; rintro e w' ⟨rfl, rfl⟩))
    go_rounds 2
    all_goals go_wp2_with (go_at_call 60; refine (of1_any _ _ (by omega)).mono ?_; rintro e w' ⟨rfl, rfl⟩)
    all_goals go_ret2
    all_goals refine ⟨congrArg (fun x => Ending.returned (Value.tuple #[.int .u32 x, .bool true])) (?_ : _ = mLoad l 11 k), rfl⟩
    all_goals rw [mLoad_11 H.out, ← X0.out]
    all_goals first
      | omega
      | (rw [wrap_i8]; omega)
      | (rw [wrap_i16]; omega)
      | (have hq := Int.tmod_def (x0 - 256) 4294967296; rw [wrap_i8]; unfold wrap64; omega)
      | (have hq := Int.tmod_def (x0 - 256) 4294967296; rw [wrap_i8]; omega)
      | (have hq := Int.tmod_def (x0 + x1 * 256 - 65536) 4294967296; rw [wrap_i16]; unfold wrap64; omega)
      | (have hq := Int.tmod_def (x0 + x1 * 256 - 65536) 4294967296; rw [wrap_i16]; omega)
  · have H := Lib.hid h
    have ht1 : there l.length k 2 = true := HT.out
    have HM1 : Hid (U32 2) := HM
    have hk0 : k + 2 ≤ l.length := by simpa [msize] using hat
    have hk1 : k + 2 ≤ 4294967296 := by simp [msize] at haf; omega
    have c0 := hc (k) (by omega)
    have b0 := hb (k)
    obtain ⟨x0, hx0⟩ : ∃ x, x = l.getD (k) 0 := ⟨_, rfl⟩
    rw [← hx0] at c0 b0
    have X0 := Lib.hid hx0
    clear hx0
    have c1 := hc (k + 1) (by omega)
    have b1 := hb (k + 1)
    obtain ⟨x1, hx1⟩ : ∃ x, x = l.getD (k + 1) 0 := ⟨_, rfl⟩
    rw [← hx1] at c1 b1
    have X1 := Lib.hid hx1
    clear hx1
    clear hc hb h hat haf ht
    go_enter Try.func76, Try.ntmps76
    go_wp2_with (first | (go_at_call 102; refine (size3_load _ _).mono ?_; rintro e w' ⟨rfl, rfl⟩; rw [show lsize 12 = 2 from rfl]) | (go_at_call 103; refine (there3_any _ _ _ _ _ _ HN.out HA.out HM1.out).mono ?_; rintro e w' ⟨rfl, rfl⟩))
    go_rounds 3
    all_goals go_wp2_with (go_at_call 60; refine (of1_any _ _ (by omega)).mono ?_; rintro e w' ⟨rfl, rfl⟩)
    all_goals go_ret2
    all_goals refine ⟨congrArg (fun x => Ending.returned (Value.tuple #[.int .u32 x, .bool true])) (?_ : _ = mLoad l 12 k), rfl⟩
    all_goals rw [mLoad_12 H.out, ← X0.out, ← X1.out]
    all_goals first
      | omega
      | (rw [wrap_i8]; omega)
      | (rw [wrap_i16]; omega)
      | (have hq := Int.tmod_def (x0 - 256) 4294967296; rw [wrap_i8]; unfold wrap64; omega)
      | (have hq := Int.tmod_def (x0 - 256) 4294967296; rw [wrap_i8]; omega)
      | (have hq := Int.tmod_def (x0 + x1 * 256 - 65536) 4294967296; rw [wrap_i16]; unfold wrap64; omega)
      | (have hq := Int.tmod_def (x0 + x1 * 256 - 65536) 4294967296; rw [wrap_i16]; omega)
  · have H := Lib.hid h
    have ht1 : there l.length k 4 = true := HT.out
    have HM1 : Hid (U32 4) := HM
    have hk0 : k + 4 ≤ l.length := by simpa [msize] using hat
    have hk1 : k + 4 ≤ 4294967296 := by simp [msize] at haf; omega
    have c0 := hc (k) (by omega)
    have b0 := hb (k)
    obtain ⟨x0, hx0⟩ : ∃ x, x = l.getD (k) 0 := ⟨_, rfl⟩
    rw [← hx0] at c0 b0
    have X0 := Lib.hid hx0
    clear hx0
    have c1 := hc (k + 1) (by omega)
    have b1 := hb (k + 1)
    obtain ⟨x1, hx1⟩ : ∃ x, x = l.getD (k + 1) 0 := ⟨_, rfl⟩
    rw [← hx1] at c1 b1
    have X1 := Lib.hid hx1
    clear hx1
    have c2 := hc (k + 2) (by omega)
    have b2 := hb (k + 2)
    obtain ⟨x2, hx2⟩ : ∃ x, x = l.getD (k + 2) 0 := ⟨_, rfl⟩
    rw [← hx2] at c2 b2
    have X2 := Lib.hid hx2
    clear hx2
    have c3 := hc (k + 3) (by omega)
    have b3 := hb (k + 3)
    obtain ⟨x3, hx3⟩ : ∃ x, x = l.getD (k + 3) 0 := ⟨_, rfl⟩
    rw [← hx3] at c3 b3
    have X3 := Lib.hid hx3
    clear hx3
    clear hc hb h hat haf ht
    go_enter Try.func76, Try.ntmps76
    go_wp2_with (first | (go_at_call 102; refine (size3_load _ _).mono ?_; rintro e w' ⟨rfl, rfl⟩; rw [show lsize 13 = 4 from rfl]) | (go_at_call 103; refine (there3_any _ _ _ _ _ _ HN.out HA.out HM1.out).mono ?_; rintro e w' ⟨rfl, rfl⟩))
    go_rounds 5
    all_goals go_wp2_with (go_at_call 60; refine (of1_any _ _ (by omega)).mono ?_; rintro e w' ⟨rfl, rfl⟩)
    all_goals go_ret2
    all_goals refine ⟨congrArg (fun x => Ending.returned (Value.tuple #[.int .u32 x, .bool true])) (?_ : _ = mLoad l 13 k), rfl⟩
    all_goals rw [mLoad_13 H.out, ← X0.out, ← X1.out, ← X2.out, ← X3.out]
    all_goals first
      | omega
      | (rw [wrap_i8]; omega)
      | (rw [wrap_i16]; omega)
      | (have hq := Int.tmod_def (x0 - 256) 4294967296; rw [wrap_i8]; unfold wrap64; omega)
      | (have hq := Int.tmod_def (x0 - 256) 4294967296; rw [wrap_i8]; omega)
      | (have hq := Int.tmod_def (x0 + x1 * 256 - 65536) 4294967296; rw [wrap_i16]; unfold wrap64; omega)
      | (have hq := Int.tmod_def (x0 + x1 * 256 - 65536) 4294967296; rw [wrap_i16]; omega)
  · have H := Lib.hid h
    have ht1 : there l.length k 1 = true := HT.out
    have HM1 : Hid (U32 1) := HM
    have hk0 : k + 1 ≤ l.length := by simpa [msize] using hat
    have hk1 : k + 1 ≤ 4294967296 := by simp [msize] at haf; omega
    have c0 := hc (k) (by omega)
    have b0 := hb (k)
    obtain ⟨x0, hx0⟩ : ∃ x, x = l.getD (k) 0 := ⟨_, rfl⟩
    rw [← hx0] at c0 b0
    have X0 := Lib.hid hx0
    clear hx0
    clear hc hb h hat haf ht
    go_enter Try.func76, Try.ntmps76
    go_wp2_with (first | (go_at_call 102; refine (size3_load _ _).mono ?_; rintro e w' ⟨rfl, rfl⟩; rw [show lsize 14 = 1 from rfl]) | (go_at_call 103; refine (there3_any _ _ _ _ _ _ HN.out HA.out HM1.out).mono ?_; rintro e w' ⟨rfl, rfl⟩))
    go_rounds 2
    all_goals go_wp2_with (go_at_call 60; refine (of1_any _ _ (by omega)).mono ?_; rintro e w' ⟨rfl, rfl⟩)
    all_goals go_ret2
    all_goals refine ⟨congrArg (fun x => Ending.returned (Value.tuple #[.int .u32 x, .bool true])) (?_ : _ = mLoad l 14 k), rfl⟩
    all_goals rw [mLoad_14 H.out, ← X0.out]
    all_goals first
      | omega
      | (rw [wrap_i8]; omega)
      | (rw [wrap_i16]; omega)
      | (have hq := Int.tmod_def (x0 - 256) 4294967296; rw [wrap_i8]; unfold wrap64; omega)
      | (have hq := Int.tmod_def (x0 - 256) 4294967296; rw [wrap_i8]; omega)
      | (have hq := Int.tmod_def (x0 + x1 * 256 - 65536) 4294967296; rw [wrap_i16]; unfold wrap64; omega)
      | (have hq := Int.tmod_def (x0 + x1 * 256 - 65536) 4294967296; rw [wrap_i16]; omega)
  · have H := Lib.hid h
    have ht1 : there l.length k 2 = true := HT.out
    have HM1 : Hid (U32 2) := HM
    have hk0 : k + 2 ≤ l.length := by simpa [msize] using hat
    have hk1 : k + 2 ≤ 4294967296 := by simp [msize] at haf; omega
    have c0 := hc (k) (by omega)
    have b0 := hb (k)
    obtain ⟨x0, hx0⟩ : ∃ x, x = l.getD (k) 0 := ⟨_, rfl⟩
    rw [← hx0] at c0 b0
    have X0 := Lib.hid hx0
    clear hx0
    have c1 := hc (k + 1) (by omega)
    have b1 := hb (k + 1)
    obtain ⟨x1, hx1⟩ : ∃ x, x = l.getD (k + 1) 0 := ⟨_, rfl⟩
    rw [← hx1] at c1 b1
    have X1 := Lib.hid hx1
    clear hx1
    clear hc hb h hat haf ht
    go_enter Try.func76, Try.ntmps76
    go_wp2_with (first | (go_at_call 102; refine (size3_load _ _).mono ?_; rintro e w' ⟨rfl, rfl⟩; rw [show lsize 15 = 2 from rfl]) | (go_at_call 103; refine (there3_any _ _ _ _ _ _ HN.out HA.out HM1.out).mono ?_; rintro e w' ⟨rfl, rfl⟩))
    go_rounds 3
    all_goals go_wp2_with (go_at_call 60; refine (of1_any _ _ (by omega)).mono ?_; rintro e w' ⟨rfl, rfl⟩)
    all_goals go_ret2
    all_goals refine ⟨congrArg (fun x => Ending.returned (Value.tuple #[.int .u32 x, .bool true])) (?_ : _ = mLoad l 15 k), rfl⟩
    all_goals rw [mLoad_15 H.out, ← X0.out, ← X1.out]
    all_goals first
      | omega
      | (rw [wrap_i8]; omega)
      | (rw [wrap_i16]; omega)
      | (have hq := Int.tmod_def (x0 - 256) 4294967296; rw [wrap_i8]; unfold wrap64; omega)
      | (have hq := Int.tmod_def (x0 - 256) 4294967296; rw [wrap_i8]; omega)
      | (have hq := Int.tmod_def (x0 + x1 * 256 - 65536) 4294967296; rw [wrap_i16]; unfold wrap64; omega)
      | (have hq := Int.tmod_def (x0 + x1 * 256 - 65536) 4294967296; rw [wrap_i16]; omega)
/-- ferrybridgeref3.Load, whole -/
theorem load3_any (v : Value) (l : List Int) (op at_ : Int) (w : World) (hv : Ints .u8 w v l) (ha : U32 at_) (hb : ∀ i, 0 ≤ l.getD i 0 ∧ l.getD i 0 < 256) :
    Calls Try.prog 76 #[v, .int .i64 op, .int .u32 at_] w fun e w' => e = .returned (.tuple #[.int .u32 (mLoad l op at_), .bool (mLoadOk l op at_)]) ∧ w = w' := by
  obtain ⟨ao, cap, rfl, hc, hm, _, ho⟩ := hv.open
  by_cases h : mLoadOk l op at_ = true
  · have hne : l ≠ [] := by
      rintro rfl
      simp [mLoadOk, there] at h
      have := ha.1; omega
    obtain ⟨b, off, rfl, _, hcell⟩ := ho hne
    rw [h]
    exact load3_yes b off cap l op at_ w (by omega) ha h hcell hb
  · have h' : mLoadOk l op at_ = false := by simpa using h
    rw [h', show mLoad l op at_ = 0 from by unfold mLoad; rw [if_neg h]]
    exact load3_no ao l.length cap op at_ w (by omega) ha h'
theorem info3_bytes : (Try.prog.info? 5).map (fun i => (i.zero, i.size, i.bytes)) = some (some (.int .u8 0), 1, 1) := by kernel_rfl
set_option maxHeartbeats 4000000 in
theorem store3_yes (v : Value) (l : List Int) (op : Int) (k : Nat) (x : Int) (w : World) (hv : Ints .u8 w v l) (ha : U32 k) (hx : U32 x) (h : mStoreOk l op k = true) (hr : l.length ≤ 140737488355328) :
    Calls Try.prog 111 #[v, .int .i64 op, .int .u32 k, .int .u32 x] w fun e w' =>
      (∃ v', e = .returned (.tuple #[v', .bool true]) ∧ Ints .u8 w' v' (mStore l op k x) ∧ ∀ q, v'.ownBlock = some q → w.heap.size ≤ q) ∧ Below w.heap.size w w' := by
  obtain ⟨i0, hi, hz0, hz1, hz2⟩ := info_parts info3_bytes
  have hm : U32 (msize op) := by unfold U32 msize; repeat' split <;> omega
  have ht : there l.length k (msize op) = true := by simp [mStoreOk] at h; exact h.2
  have hop : op = 16 ∨ op = 17 ∨ op = 18 := by simp [mStoreOk, stores] at h; omega
  have hat : k + (msize op).toNat ≤ l.length := by
    simp [there] at ht; unfold U32 at ha; omega
  have haf : k + msize op ≤ 4294967296 := by
    simp [there] at ht
    unfold U32 at ha
    rcases hop with rfl | rfl | rfl <;> simp [msize] at ht ⊢ <;> omega
  have hpos : 0 < l.length := by rcases hop with rfl | rfl | rfl <;> simp [msize] at hat <;> omega
  obtain ⟨ao, cv, rfl, hnc, hcm, _, ho⟩ := hv.open
  have hn : l.length ≤ maxLen := by omega
  have HA := Lib.hid ha
  have HM := Lib.hid hm
  have HT := Lib.hid ht
  have HN := Lib.hid hn
  have HV := Lib.hid hv
  have HH := Lib.hid h
  have hx0 := hx.1
  have hx1 := hx.2
  clear ha hm hn hv ho hcm
  rcases hop with rfl | rfl | rfl
  · have hk0 : k + 1 ≤ l.length := by simpa [msize] using hat
    have hk1 : k + 1 ≤ 4294967296 := by simp [msize] at haf; omega
    have ht1 : there l.length k 1 = true := HT.out
    have HM1 : Hid (U32 1) := HM
    clear h hat haf ht
    go_enter Try.func111, Try.ntmps111
    go_wp2_with (first | (go_at_call 102; refine (size3_store _ _).mono ?_; rintro e w' ⟨rfl, rfl⟩; rw [show ssize 16 = 1 from rfl]) | (go_at_call 103; refine (there3_any _ _ _ _ _ _ HN.out HA.out HM1.out).mono ?_; rintro e w' ⟨rfl, rfl⟩) | (at_builtin; refine append_any rfl _ _ 22 rfl w.heap.size 5 i0 (.int .u8 0) 1 1 Try.underlying22 hi hz0 hz1 hz2 rfl (by decide) _ 0 [] rfl (ownsRow_built _ _ _ _ (Nat.le_refl _)) _ l.length (l.map (Value.int .u8)) rfl ?_ ?_ ?_ ?_ ?_ ?_))
    rotate_right
    · intro v' w1 hown hgrow
      try simp only [Nat.zero_add, List.nil_append] at hown
      have hb : Below w.heap.size w w1 := (Below.alloc (Below.refl _ _) (Nat.le_refl _) _).grown hgrow (by simp) (by intro k hk; simp [Value.ownBlock] at hk; omega)
      have HB := Lib.hid hb
      rcases owns_open hown with ⟨_, h0, _⟩ | ⟨g, cap, rfl, hB, hg, hn, hm, hat, hf⟩
      · omega
      have HAT := Lib.hid hat
      have HM := Lib.hid hm
      clear hm hown hgrow hb
      have c0 := hat (k) (by simp; omega)
      have f0 := hf (k)
      simp only [Nat.zero_add] at c0
      clear hat hf
      go_wp2_with fail
      go_rounds 2
      go_ret2
      have hat2 := putW_at HAT.out k x 1 (by omega)
      have hb2 := putW_below w1 g 0 k x hB 1
      have e2 : mStore l 16 k x = lay l k x 1 := by unfold mStore; rw [if_pos HH.out]; rfl
      have hl2 : (lay l k x 1).length = l.length := lay_length _ _ _ _
      rw [e2]
      simp [putW] at hat2 hb2
      refine ⟨⟨_, rfl, Ints.mk ?_ hl2.symm hn HM.out, fun q e => (show g = q by simpa [Value.ownBlock] using e) ▸ (by have := hB; have := HB.out.size; simp at *; omega : w.heap.size ≤ g)⟩, HB.out.trans ?_⟩
      · first | exact hat2 | (rw [show x / 16777216 % 256 = x / 16777216 from by omega] at hat2; exact hat2)
      · first | exact hb2 | (rw [show x / 16777216 % 256 = x / 16777216 from by omega] at hb2; exact hb2)
    all_goals first | (simp; done) | omega | (unfold maxLen; omega) | skip
    · exact HV.out.below ((Below.alloc (Below.refl _ _) (Nat.le_refl _) _))
    · intro u hu; obtain ⟨a, _, rfl⟩ := List.mem_map.1 hu; rfl
  · have hk0 : k + 2 ≤ l.length := by simpa [msize] using hat
    have hk1 : k + 2 ≤ 4294967296 := by simp [msize] at haf; omega
    have ht1 : there l.length k 2 = true := HT.out
    have HM1 : Hid (U32 2) := HM
    clear h hat haf ht
    go_enter Try.func111, Try.ntmps111
    go_wp2_with (first | (go_at_call 102; refine (size3_store _ _).mono ?_; rintro e w' ⟨rfl, rfl⟩; rw [show ssize 17 = 2 from rfl]) | (go_at_call 103; refine (there3_any _ _ _ _ _ _ HN.out HA.out HM1.out).mono ?_; rintro e w' ⟨rfl, rfl⟩) | (at_builtin; refine append_any rfl _ _ 22 rfl w.heap.size 5 i0 (.int .u8 0) 1 1 Try.underlying22 hi hz0 hz1 hz2 rfl (by decide) _ 0 [] rfl (ownsRow_built _ _ _ _ (Nat.le_refl _)) _ l.length (l.map (Value.int .u8)) rfl ?_ ?_ ?_ ?_ ?_ ?_))
    rotate_right
    · intro v' w1 hown hgrow
      try simp only [Nat.zero_add, List.nil_append] at hown
      have hb : Below w.heap.size w w1 := (Below.alloc (Below.refl _ _) (Nat.le_refl _) _).grown hgrow (by simp) (by intro k hk; simp [Value.ownBlock] at hk; omega)
      have HB := Lib.hid hb
      rcases owns_open hown with ⟨_, h0, _⟩ | ⟨g, cap, rfl, hB, hg, hn, hm, hat, hf⟩
      · omega
      have HAT := Lib.hid hat
      have HM := Lib.hid hm
      clear hm hown hgrow hb
      have c0 := hat (k) (by simp; omega)
      have f0 := hf (k)
      simp only [Nat.zero_add] at c0
      have c1 := hat (k + 1) (by simp; omega)
      have f1 := hf (k + 1)
      simp only [Nat.zero_add] at c1
      clear hat hf
      go_wp2_with fail
      go_rounds 3
      go_ret2
      have hat2 := putW_at HAT.out k x 2 (by omega)
      have hb2 := putW_below w1 g 0 k x hB 2
      have e2 : mStore l 17 k x = lay l k x 2 := by unfold mStore; rw [if_pos HH.out]; rfl
      have hl2 : (lay l k x 2).length = l.length := lay_length _ _ _ _
      rw [e2]
      simp [putW] at hat2 hb2
      refine ⟨⟨_, rfl, Ints.mk ?_ hl2.symm hn HM.out, fun q e => (show g = q by simpa [Value.ownBlock] using e) ▸ (by have := hB; have := HB.out.size; simp at *; omega : w.heap.size ≤ g)⟩, HB.out.trans ?_⟩
      · first | exact hat2 | (rw [show x / 16777216 % 256 = x / 16777216 from by omega] at hat2; exact hat2)
      · first | exact hb2 | (rw [show x / 16777216 % 256 = x / 16777216 from by omega] at hb2; exact hb2)
    all_goals first | (simp; done) | omega | (unfold maxLen; omega) | skip
    · exact HV.out.below ((Below.alloc (Below.refl _ _) (Nat.le_refl _) _))
    · intro u hu; obtain ⟨a, _, rfl⟩ := List.mem_map.1 hu; rfl
  · have hk0 : k + 4 ≤ l.length := by simpa [msize] using hat
    have hk1 : k + 4 ≤ 4294967296 := by simp [msize] at haf; omega
    have ht1 : there l.length k 4 = true := HT.out
    have HM1 : Hid (U32 4) := HM
    clear h hat haf ht
    go_enter Try.func111, Try.ntmps111
    go_wp2_with (first | (go_at_call 102; refine (size3_store _ _).mono ?_; rintro e w' ⟨rfl, rfl⟩; rw [show ssize 18 = 4 from rfl]) | (go_at_call 103; refine (there3_any _ _ _ _ _ _ HN.out HA.out HM1.out).mono ?_; rintro e w' ⟨rfl, rfl⟩) | (at_builtin; refine append_any rfl _ _ 22 rfl w.heap.size 5 i0 (.int .u8 0) 1 1 Try.underlying22 hi hz0 hz1 hz2 rfl (by decide) _ 0 [] rfl (ownsRow_built _ _ _ _ (Nat.le_refl _)) _ l.length (l.map (Value.int .u8)) rfl ?_ ?_ ?_ ?_ ?_ ?_))
    rotate_right
    · intro v' w1 hown hgrow
      try simp only [Nat.zero_add, List.nil_append] at hown
      have hb : Below w.heap.size w w1 := (Below.alloc (Below.refl _ _) (Nat.le_refl _) _).grown hgrow (by simp) (by intro k hk; simp [Value.ownBlock] at hk; omega)
      have HB := Lib.hid hb
      rcases owns_open hown with ⟨_, h0, _⟩ | ⟨g, cap, rfl, hB, hg, hn, hm, hat, hf⟩
      · omega
      have HAT := Lib.hid hat
      have HM := Lib.hid hm
      clear hm hown hgrow hb
      have c0 := hat (k) (by simp; omega)
      have f0 := hf (k)
      simp only [Nat.zero_add] at c0
      have c1 := hat (k + 1) (by simp; omega)
      have f1 := hf (k + 1)
      simp only [Nat.zero_add] at c1
      have c2 := hat (k + 2) (by simp; omega)
      have f2 := hf (k + 2)
      simp only [Nat.zero_add] at c2
      have c3 := hat (k + 3) (by simp; omega)
      have f3 := hf (k + 3)
      simp only [Nat.zero_add] at c3
      clear hat hf
      go_wp2_with fail
      go_rounds 5
      go_ret2
      have hat2 := putW_at HAT.out k x 4 (by omega)
      have hb2 := putW_below w1 g 0 k x hB 4
      have e2 : mStore l 18 k x = lay l k x 4 := by unfold mStore; rw [if_pos HH.out]; rfl
      have hl2 : (lay l k x 4).length = l.length := lay_length _ _ _ _
      rw [e2]
      simp [putW] at hat2 hb2
      refine ⟨⟨_, rfl, Ints.mk ?_ hl2.symm hn HM.out, fun q e => (show g = q by simpa [Value.ownBlock] using e) ▸ (by have := hB; have := HB.out.size; simp at *; omega : w.heap.size ≤ g)⟩, HB.out.trans ?_⟩
      · (rw [show x / 256 / 256 / 256 % 256 = x / 16777216 % 256 from by omega, show x / 256 / 256 % 256 = x / 65536 % 256 from by omega]; first | exact hat2 | (rw [show x / 16777216 % 256 = x / 16777216 from by omega]; exact hat2))
      · (rw [show x / 256 / 256 / 256 % 256 = x / 16777216 % 256 from by omega, show x / 256 / 256 % 256 = x / 65536 % 256 from by omega]; first | exact hb2 | (rw [show x / 16777216 % 256 = x / 16777216 from by omega]; exact hb2))
    all_goals first | (simp; done) | omega | (unfold maxLen; omega) | skip
    · exact HV.out.below ((Below.alloc (Below.refl _ _) (Nat.le_refl _) _))
    · intro u hu; obtain ⟨a, _, rfl⟩ := List.mem_map.1 hu; rfl
theorem store3_no (ao : Option Addr) (n c : Nat) (op at_ x : Int) (w : World) (hn : n ≤ maxLen) (ha : U32 at_) (h : (stores op && there n at_ (msize op)) = false) :
    Calls Try.prog 111 #[.slice ao n c, .int .i64 op, .int .u32 at_, .int .u32 x] w fun e w' => e = .returned (.tuple #[.slice none 0 0, .bool false]) ∧ w = w' := by
  have hm : U32 (ssize op) := by unfold U32 ssize msize; repeat' split <;> omega
  have ht : there n at_ (ssize op) = false := by
    unfold ssize
    by_cases hl : stores op = true
    · rw [if_pos hl]; simpa [hl] using h
    · rw [if_neg hl]; simp [there]
  clear h
  go_enter Try.func111, Try.ntmps111
  go_wp2_with (first | (go_at_call 102; refine (size3_store _ _).mono ?_; rintro e w' ⟨rfl, rfl⟩) | (go_at_call 103; refine (there3_any _ _ _ _ _ _ hn ha hm).mono ?_; rintro e w' ⟨rfl, rfl⟩))
  go_ret2
  exact ⟨rfl, rfl⟩
/-- ferrybridgeref3.Store, whole -/
theorem store3_any (v : Value) (l : List Int) (op at_ x : Int) (w : World) (hv : Ints .u8 w v l) (ha : U32 at_) (hx : U32 x) (hr : l.length ≤ 140737488355328) :
    Calls Try.prog 111 #[v, .int .i64 op, .int .u32 at_, .int .u32 x] w fun e w' =>
      (∃ v', e = .returned (.tuple #[v', .bool (mStoreOk l op at_)]) ∧ Ints .u8 w' v' (if mStoreOk l op at_ = true then mStore l op at_ x else [])) ∧ Below w.heap.size w w' := by
  obtain ⟨k, rfl⟩ := Int.eq_ofNat_of_zero_le ha.1
  by_cases h : mStoreOk l op k = true
  · rw [if_pos h, h]
    exact (store3_yes v l op k x w hv ha hx h hr).mono fun _ _ ⟨⟨v', h1, h2, _⟩, h3⟩ => ⟨⟨v', h1, h2⟩, h3⟩
  · have h' : mStoreOk l op k = false := by simpa using h
    rw [if_neg h, h']
    obtain ⟨ao, cap, rfl, hc, hm, _, ho⟩ := hv.open
    refine (store3_no ao l.length cap op k x w (by omega) ha h').mono ?_
    rintro e w1 ⟨rfl, rfl⟩
    exact ⟨⟨_, rfl, Sl.nil _ _⟩, Below.refl _ _⟩
end Go.Proofs.Ytlfnddmncbkjaab.W
