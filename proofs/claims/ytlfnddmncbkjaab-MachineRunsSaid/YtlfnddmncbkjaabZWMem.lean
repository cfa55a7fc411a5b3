/- The walks of package mem. -/
import Derived.Test.YtlfnddmncbkjaabZMA
import Derived.Test.YtlfnddmncbkjaabZWClone
namespace Go.Proofs.Ytlfnddmncbkjaab.W
set_option linter.unusedVariables false
set_option linter.unusedSimpArgs false
open Go.RowKit Fb
set_option maxHeartbeats 400000 in
theorem size_any (op : Int) (w : World) :
    Calls Try.prog 119 #[.int .i64 op] w fun e w' => e = .returned (.int .u32 (msize op)) ∧ w = w' := by
  go_enter Try.func119, Try.ntmps119
  go_wp2
  all_goals go_ret
  all_goals refine ⟨ret_int ?_, rfl⟩
  all_goals simp_all [msize]
set_option maxHeartbeats 400000 in
theorem there_any (ao : Option Addr) (n c : Nat) (at_ many : Int) (w : World) (hn : n ≤ maxLen) (ha : U32 at_) (hm : U32 many) :
    Calls Try.prog 120 #[.slice ao n c, .int .u32 at_, .int .u32 many] w fun e w' => e = .returned (.bool (there n at_ many)) ∧ w = w' := by
  unfold maxLen at hn
  unfold U32 at ha hm
  go_enter Try.func120, Try.ntmps120
  go_wp2
  all_goals go_ret
  all_goals refine ⟨ret_bool ?_, rfl⟩
  all_goals simp [there, *]
  all_goals omega
theorem load_no (ao : Option Addr) (n c : Nat) (op at_ : Int) (w : World) (hn : n ≤ maxLen) (ha : U32 at_) (h : (loads op && there n at_ (msize op)) = false) :
    Calls Try.prog 101 #[.slice ao n c, .int .i64 op, .int .u32 at_] w fun e w' => e = .returned (.tuple #[.int .u32 0, .bool false]) ∧ w = w' := by
  have hm : U32 (msize op) := by unfold U32 msize; repeat' split <;> omega
  by_cases h1 : 16 ≤ op ∧ op ≤ 18
  · obtain ⟨h1, h2⟩ := h1
    clear h
    go_enter Try.func101, Try.ntmps101
    go_wp2_with (first | (go_at_call 119; refine (size_any _ _).mono ?_; rintro e w' ⟨rfl, rfl⟩) | (go_at_call 120; refine (there_any _ _ _ _ _ _ hn ha hm).mono ?_; rintro e w' ⟨rfl, rfl⟩))
    go_ret2
    exact ⟨rfl, rfl⟩
  · have ht : there n at_ (msize op) = false := by
      by_cases hl : loads op = true
      · simpa [hl] using h
      · have : msize op = 0 := by
          simp [loads] at hl
          unfold msize
          rw [if_neg (by omega), if_neg (by omega), if_neg (by omega)]
        rw [this]; simp [there]
    clear h
    have h3 : op < 16 ∨ 18 < op := by omega
    clear h1
    rcases h3 with h3 | h3
    all_goals
      go_enter Try.func101, Try.ntmps101
      go_wp2_with (first | (go_at_call 119; refine (size_any _ _).mono ?_; rintro e w' ⟨rfl, rfl⟩) | (go_at_call 120; refine (there_any _ _ _ _ _ _ hn ha hm).mono ?_; rintro e w' ⟨rfl, rfl⟩))
      go_ret2
      exact ⟨rfl, rfl⟩
set_option maxHeartbeats 1000000 in
theorem load_yes (b off c : Nat) (l : List Int) (op at_ : Int) (w : World) (hn : l.length ≤ maxLen) (ha : U32 at_) (h : mLoadOk l op at_ = true)
    (hc : ∀ i, i < l.length → w.cell? ⟨b, off + i, none⟩ = some (.int .u8 (l.getD i 0))) (hb : ∀ i, 0 ≤ l.getD i 0 ∧ l.getD i 0 < 256) :
    Calls Try.prog 101 #[.slice (some ⟨b, off, none⟩) l.length c, .int .i64 op, .int .u32 at_] w fun e w' => e = .returned (.tuple #[.int .u32 (mLoad l op at_), .bool true]) ∧ w = w' := by
  have hm : U32 (msize op) := by unfold U32 msize; repeat' split <;> omega
  have ht : there l.length at_ (msize op) = true := by simp [mLoadOk] at h; exact h.2
  have hop : op = 11 ∨ op = 12 ∨ op = 13 ∨ op = 14 ∨ op = 15 := by simp [mLoadOk, loads] at h; omega
  have hat : at_.toNat + (msize op).toNat ≤ l.length := by
    simp [there] at ht; unfold U32 at ha; omega
  have haf : at_ + msize op ≤ 4294967296 := by
    simp [there] at ht
    unfold U32 at ha
    rcases hop with rfl | rfl | rfl | rfl | rfl <;> simp [msize] at ht ⊢ <;> omega
  have ha0 := ha.1
  have ha1 := ha.2
  obtain ⟨k, rfl⟩ := Int.eq_ofNat_of_zero_le ha0
  rcases hop with rfl | rfl | rfl | rfl | rfl
  · have H := Lib.hid h
    have hk0 : k + 1 ≤ l.length := by simpa [msize] using hat
    have hk1 : (k : Int) + 1 ≤ 4294967296 := by simpa [msize] using haf
    have c0 := hc (k) (by omega)
    have b0 := hb (k)
    obtain ⟨x0, hx0⟩ : ∃ x, x = l.getD (k) 0 := ⟨_, rfl⟩
    rw [← hx0] at c0 b0
    have X0 := Lib.hid hx0
    clear hx0
    clear hc hb h hat haf
    go_enter Try.func101, Try.ntmps101
    go_wp2_with (first | (go_at_call 119; refine (size_any _ _).mono ?_; rintro e w' ⟨rfl, rfl⟩; rw [show msize 11 = 1 from rfl]) | (go_at_call 120; refine (there_any _ _ _ _ _ _ hn ha hm).mono ?_; rintro e w' ⟨rfl, rfl⟩))
    go_rounds 2
    go_ret2
    refine ⟨congrArg (fun x => Ending.returned (Value.tuple #[.int .u32 x, .bool true])) (?_ : _ = mLoad l 11 k), rfl⟩
    rw [mLoad_11 H.out, ← X0.out, or0 _ (by omega)]
  · have H := Lib.hid h
    have hk0 : k + 2 ≤ l.length := by simpa [msize] using hat
    have hk1 : (k : Int) + 2 ≤ 4294967296 := by simpa [msize] using haf
    have c0 := hc (k) (by omega)
    have b0 := hb (k)
    obtain ⟨x0, hx0⟩ : ∃ x, x = l.getD (k) 0 := ⟨_, rfl⟩
    rw [← hx0] at c0 b0
    have X0 := Lib.hid hx0
    clear hx0
    have c1 := hc (k + 1) (by omega)
    have b1 := hb (k + 1)
    obtain ⟨x1, hx1⟩ : ∃ x, x = l.getD (k + 1) 0 := ⟨_, rfl⟩
    rw [← hx1] at c1 b1
    have X1 := Lib.hid hx1
    clear hx1
    clear hc hb h hat haf
    go_enter Try.func101, Try.ntmps101
    go_wp2_with (first | (go_at_call 119; refine (size_any _ _).mono ?_; rintro e w' ⟨rfl, rfl⟩; rw [show msize 12 = 2 from rfl]) | (go_at_call 120; refine (there_any _ _ _ _ _ _ hn ha hm).mono ?_; rintro e w' ⟨rfl, rfl⟩))
    go_rounds 3
    go_ret2
    refine ⟨congrArg (fun x => Ending.returned (Value.tuple #[.int .u32 x, .bool true])) (?_ : _ = mLoad l 12 k), rfl⟩
    rw [mLoad_12 H.out, ← X0.out, ← X1.out, le2 _ _ b0 b1]
  · have H := Lib.hid h
    have hk0 : k + 4 ≤ l.length := by simpa [msize] using hat
    have hk1 : (k : Int) + 4 ≤ 4294967296 := by simpa [msize] using haf
    have c0 := hc (k) (by omega)
    have b0 := hb (k)
    obtain ⟨x0, hx0⟩ : ∃ x, x = l.getD (k) 0 := ⟨_, rfl⟩
    rw [← hx0] at c0 b0
    have X0 := Lib.hid hx0
    clear hx0
    have c1 := hc (k + 1) (by omega)
    have b1 := hb (k + 1)
    obtain ⟨x1, hx1⟩ : ∃ x, x = l.getD (k + 1) 0 := ⟨_, rfl⟩
    rw [← hx1] at c1 b1
    have X1 := Lib.hid hx1
    clear hx1
    have c2 := hc (k + 2) (by omega)
    have b2 := hb (k + 2)
    obtain ⟨x2, hx2⟩ : ∃ x, x = l.getD (k + 2) 0 := ⟨_, rfl⟩
    rw [← hx2] at c2 b2
    have X2 := Lib.hid hx2
    clear hx2
    have c3 := hc (k + 3) (by omega)
    have b3 := hb (k + 3)
    obtain ⟨x3, hx3⟩ : ∃ x, x = l.getD (k + 3) 0 := ⟨_, rfl⟩
    rw [← hx3] at c3 b3
    have X3 := Lib.hid hx3
    clear hx3
    clear hc hb h hat haf
    go_enter Try.func101, Try.ntmps101
    go_wp2_with (first | (go_at_call 119; refine (size_any _ _).mono ?_; rintro e w' ⟨rfl, rfl⟩; rw [show msize 13 = 4 from rfl]) | (go_at_call 120; refine (there_any _ _ _ _ _ _ hn ha hm).mono ?_; rintro e w' ⟨rfl, rfl⟩))
    go_rounds 5
    go_ret2
    refine ⟨congrArg (fun x => Ending.returned (Value.tuple #[.int .u32 x, .bool true])) (?_ : _ = mLoad l 13 k), rfl⟩
    rw [mLoad_13 H.out, ← X0.out, ← X1.out, ← X2.out, ← X3.out, le4 _ _ _ _ b0 b1 b2 b3]
  · have H := Lib.hid h
    have hk0 : k + 1 ≤ l.length := by simpa [msize] using hat
    have hk1 : (k : Int) + 1 ≤ 4294967296 := by simpa [msize] using haf
    have c0 := hc (k) (by omega)
    have b0 := hb (k)
    obtain ⟨x0, hx0⟩ : ∃ x, x = l.getD (k) 0 := ⟨_, rfl⟩
    rw [← hx0] at c0 b0
    have X0 := Lib.hid hx0
    clear hx0
    clear hc hb h hat haf
    go_enter Try.func101, Try.ntmps101
    go_wp2_with (first | (go_at_call 119; refine (size_any _ _).mono ?_; rintro e w' ⟨rfl, rfl⟩; rw [show msize 14 = 1 from rfl]) | (go_at_call 120; refine (there_any _ _ _ _ _ _ hn ha hm).mono ?_; rintro e w' ⟨rfl, rfl⟩))
    go_rounds 2
    go_ret2
    refine ⟨congrArg (fun x => Ending.returned (Value.tuple #[.int .u32 x, .bool true])) (?_ : _ = mLoad l 14 k), rfl⟩
    rw [mLoad_14 H.out, ← X0.out, or0 _ (by omega)]
  · have H := Lib.hid h
    have hk0 : k + 2 ≤ l.length := by simpa [msize] using hat
    have hk1 : (k : Int) + 2 ≤ 4294967296 := by simpa [msize] using haf
    have c0 := hc (k) (by omega)
    have b0 := hb (k)
    obtain ⟨x0, hx0⟩ : ∃ x, x = l.getD (k) 0 := ⟨_, rfl⟩
    rw [← hx0] at c0 b0
    have X0 := Lib.hid hx0
    clear hx0
    have c1 := hc (k + 1) (by omega)
    have b1 := hb (k + 1)
    obtain ⟨x1, hx1⟩ : ∃ x, x = l.getD (k + 1) 0 := ⟨_, rfl⟩
    rw [← hx1] at c1 b1
    have X1 := Lib.hid hx1
    clear hx1
    clear hc hb h hat haf
    go_enter Try.func101, Try.ntmps101
    go_wp2_with (first | (go_at_call 119; refine (size_any _ _).mono ?_; rintro e w' ⟨rfl, rfl⟩; rw [show msize 15 = 2 from rfl]) | (go_at_call 120; refine (there_any _ _ _ _ _ _ hn ha hm).mono ?_; rintro e w' ⟨rfl, rfl⟩))
    go_rounds 3
    go_ret2
    refine ⟨congrArg (fun x => Ending.returned (Value.tuple #[.int .u32 x, .bool true])) (?_ : _ = mLoad l 15 k), rfl⟩
    rw [mLoad_15 H.out, ← X0.out, ← X1.out, le2 _ _ b0 b1]
/-- mem.Load, whole -/
theorem load_any (v : Value) (l : List Int) (op at_ : Int) (w : World) (hv : Ints .u8 w v l) (ha : U32 at_) (hb : ∀ i, 0 ≤ l.getD i 0 ∧ l.getD i 0 < 256) :
    Calls Try.prog 101 #[v, .int .i64 op, .int .u32 at_] w fun e w' => e = .returned (.tuple #[.int .u32 (mLoad l op at_), .bool (mLoadOk l op at_)]) ∧ w = w' := by
  obtain ⟨ao, cap, rfl, hc, hm, _, ho⟩ := hv.open
  by_cases h : mLoadOk l op at_ = true
  · have hne : l ≠ [] := by
      rintro rfl
      simp [mLoadOk, there] at h
      have := ha.1; omega
    obtain ⟨b, off, rfl, _, hcell⟩ := ho hne
    rw [h]
    exact load_yes b off cap l op at_ w (by omega) ha h hcell hb
  · have h' : mLoadOk l op at_ = false := by simpa using h
    rw [h', show mLoad l op at_ = 0 from by unfold mLoad; rw [if_neg h]]
    exact load_no ao l.length cap op at_ w (by omega) ha h'
theorem put_no (ao : Option Addr) (n c : Nat) (op at_ x : Int) (w : World) (hn : n ≤ maxLen) (ha : U32 at_) (h : (stores op && there n at_ (msize op)) = false) :
    Calls Try.prog 133 #[.slice ao n c, .int .i64 op, .int .u32 at_, .int .u32 x] w fun e w' => e = .returned (.bool false) ∧ w = w' := by
  have hm : U32 (msize op) := by unfold U32 msize; repeat' split <;> omega
  by_cases h1 : 16 ≤ op ∧ op ≤ 18
  · have hs : stores op = true := by simp [stores]; omega
    have ht : there n at_ (msize op) = false := by simpa [hs] using h
    obtain ⟨h1, h2⟩ := h1
    clear h hs
    go_enter Try.func133, Try.ntmps133
    go_wp2_with (first | (go_at_call 119; refine (size_any _ _).mono ?_; rintro e w' ⟨rfl, rfl⟩) | (go_at_call 120; refine (there_any _ _ _ _ _ _ hn ha hm).mono ?_; rintro e w' ⟨rfl, rfl⟩))
    go_ret
    exact ⟨rfl, rfl⟩
  · clear h
    have h3 : op < 16 ∨ 18 < op := by omega
    clear h1
    rcases h3 with h3 | h3
    all_goals
      go_enter Try.func133, Try.ntmps133
      go_wp2_with (first | (go_at_call 119; refine (size_any _ _).mono ?_; rintro e w' ⟨rfl, rfl⟩) | (go_at_call 120; refine (there_any _ _ _ _ _ _ hn ha hm).mono ?_; rintro e w' ⟨rfl, rfl⟩))
      go_ret
      exact ⟨rfl, rfl⟩
set_option maxHeartbeats 1000000 in
theorem put_yes (b off c : Nat) (l : List Int) (op : Int) (k : Nat) (x : Int) (w : World) (hn : l.length ≤ maxLen) (ha : U32 k) (hx : U32 x) (h : mStoreOk l op k = true)
    (hc : ∀ i, i < l.length → ∃ y, w.cell? ⟨b, off + i, none⟩ = some y) (hf : ∀ i, i < l.length → w.frozen? ⟨b, off + i, none⟩ = false) :
    Calls Try.prog 133 #[.slice (some ⟨b, off, none⟩) l.length c, .int .i64 op, .int .u32 k, .int .u32 x] w fun e w' => e = .returned (.bool true) ∧ w' = putW w b off k x (msize op).toNat := by
  have hm : U32 (msize op) := by unfold U32 msize; repeat' split <;> omega
  have ht : there l.length k (msize op) = true := by simp [mStoreOk] at h; exact h.2
  have hop : op = 16 ∨ op = 17 ∨ op = 18 := by simp [mStoreOk, stores] at h; omega
  have hat : k + (msize op).toNat ≤ l.length := by
    simp [there] at ht; unfold U32 at ha; omega
  have haf : k + msize op ≤ 4294967296 := by
    simp [there] at ht
    unfold U32 at ha
    rcases hop with rfl | rfl | rfl <;> simp [msize] at ht ⊢ <;> omega
  have HA := Lib.hid ha
  have HM := Lib.hid hm
  have HT := Lib.hid ht
  have HN := Lib.hid hn
  have hx0 := hx.1
  have hx1 := hx.2
  clear ha hm hn
  rcases hop with rfl | rfl | rfl
  · have hk0 : k + 1 ≤ l.length := by simpa [msize] using hat
    have hk1 : k + 1 ≤ 4294967296 := by simp [msize] at haf; omega
    have ht1 : there l.length k 1 = true := HT.out
    have HM1 : Hid (U32 1) := HM
    obtain ⟨x0, c0⟩ := hc (k) (by omega)
    have f0 := hf (k) (by omega)
    clear hc hf h hat haf ht
    go_enter Try.func133, Try.ntmps133
    go_wp2_with (first | (go_at_call 119; refine (size_any _ _).mono ?_; rintro e w' ⟨rfl, rfl⟩; rw [show msize 16 = 1 from rfl]) | (go_at_call 120; refine (there_any _ _ _ _ _ _ HN.out HA.out HM1.out).mono ?_; rintro e w' ⟨rfl, rfl⟩))
    go_rounds 2
    go_ret
    refine ⟨rfl, ?_⟩
    simp [putW, msize]
  · have hk0 : k + 2 ≤ l.length := by simpa [msize] using hat
    have hk1 : k + 2 ≤ 4294967296 := by simp [msize] at haf; omega
    have ht1 : there l.length k 2 = true := HT.out
    have HM1 : Hid (U32 2) := HM
    obtain ⟨x0, c0⟩ := hc (k) (by omega)
    have f0 := hf (k) (by omega)
    obtain ⟨x1, c1⟩ := hc (k + 1) (by omega)
    have f1 := hf (k + 1) (by omega)
    clear hc hf h hat haf ht
    go_enter Try.func133, Try.ntmps133
    go_wp2_with (first | (go_at_call 119; refine (size_any _ _).mono ?_; rintro e w' ⟨rfl, rfl⟩; rw [show msize 17 = 2 from rfl]) | (go_at_call 120; refine (there_any _ _ _ _ _ _ HN.out HA.out HM1.out).mono ?_; rintro e w' ⟨rfl, rfl⟩))
    go_rounds 3
    go_ret
    refine ⟨rfl, ?_⟩
    simp [putW, msize]
  · have hk0 : k + 4 ≤ l.length := by simpa [msize] using hat
    have hk1 : k + 4 ≤ 4294967296 := by simp [msize] at haf; omega
    have ht1 : there l.length k 4 = true := HT.out
    have HM1 : Hid (U32 4) := HM
    obtain ⟨x0, c0⟩ := hc (k) (by omega)
    have f0 := hf (k) (by omega)
    obtain ⟨x1, c1⟩ := hc (k + 1) (by omega)
    have f1 := hf (k + 1) (by omega)
    obtain ⟨x2, c2⟩ := hc (k + 2) (by omega)
    have f2 := hf (k + 2) (by omega)
    obtain ⟨x3, c3⟩ := hc (k + 3) (by omega)
    have f3 := hf (k + 3) (by omega)
    clear hc hf h hat haf ht
    go_enter Try.func133, Try.ntmps133
    go_wp2_with (first | (go_at_call 119; refine (size_any _ _).mono ?_; rintro e w' ⟨rfl, rfl⟩; rw [show msize 18 = 4 from rfl]) | (go_at_call 120; refine (there_any _ _ _ _ _ _ HN.out HA.out HM1.out).mono ?_; rintro e w' ⟨rfl, rfl⟩))
    go_rounds 5
    go_ret
    refine ⟨rfl, ?_⟩
    simp [putW, msize]
    rw [show x / 16777216 % 256 = x / 16777216 from by omega]
end Go.Proofs.Ytlfnddmncbkjaab.W
