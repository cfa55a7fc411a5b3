import Derived.Test.YtlfnddmncbkjaacZMA
import Derived.Test.YtlfnddmncbkjaacZGD
import Derived.Test.YtlfnddmncbkjaacZMB
import Derived.Deep.RegionHeld3
set_option linter.unusedVariables false
set_option linter.unusedSimpArgs false
set_option maxRecDepth 100000
set_option maxHeartbeats 4000000
namespace Go.Proofs.Ytlfnddmncbkjaac.W
open Go.RowKit Fb
theorem size_any (op : Int) (w : World) :
    Calls Try.prog 93 #[.int .i64 op] w fun e w' => e = .returned (.int .u32 (msize op)) ∧ w = w' := by
  go_enter Try.func93, Try.ntmps93
  go_wp2
  all_goals go_ret
  all_goals refine ⟨ret_int ?_, rfl⟩
  all_goals simp_all [msize]
theorem there_any (ao : Option Addr) (n c : Nat) (at_ many : Int) (w : World) (hn : n ≤ maxLen) (ha : U32 at_) (hm : U32 many) :
    Calls Try.prog 94 #[.slice ao n c, .int .u32 at_, .int .u32 many] w fun e w' => e = .returned (.bool (there n at_ many)) ∧ w = w' := by
  unfold maxLen at hn
  unfold U32 at ha hm
  go_enter Try.func94, Try.ntmps94
  go_wp2
  all_goals go_ret
  all_goals refine ⟨ret_bool ?_, rfl⟩
  all_goals simp [there, *]
  all_goals omega
theorem load_no (ao : Option Addr) (n c : Nat) (op at_ : Int) (w : World) (hn : n ≤ maxLen) (ha : U32 at_) (h : (loads op && there n at_ (msize op)) = false) :
    Calls Try.prog 68 #[.slice ao n c, .int .i64 op, .int .u32 at_] w fun e w' => e = .returned (.tuple #[.int .u32 0, .bool false]) ∧ w = w' := by
  have hm : U32 (msize op) := by unfold U32 msize; repeat' split <;> omega
  by_cases h1 : 16 ≤ op ∧ op ≤ 18
  · obtain ⟨h1, h2⟩ := h1
    clear h
    go_enter Try.func68, Try.ntmps68
    go_wp2_with (first | (go_at_call 93; refine (size_any _ _).mono ?_; rintro e w' ⟨rfl, rfl⟩) | (go_at_call 94; refine (there_any _ _ _ _ _ _ hn ha hm).mono ?_; rintro e w' ⟨rfl, rfl⟩))
    go_ret2
    exact ⟨rfl, rfl⟩
  · have ht : there n at_ (msize op) = false := by
      by_cases hl : loads op = true
      · simpa [hl] using h
      · have : msize op = 0 := by
          simp [loads] at hl
          unfold msize
          rw [if_neg om, if_neg om, if_neg om]
        rw [this]; simp [there]
    clear h
    have h3 : op < 16 ∨ 18 < op := om
    clear h1
    rcases h3 with h3 | h3
    all_goals
      go_enter Try.func68, Try.ntmps68
      go_wp2_with (first | (go_at_call 93; refine (size_any _ _).mono ?_; rintro e w' ⟨rfl, rfl⟩) | (go_at_call 94; refine (there_any _ _ _ _ _ _ hn ha hm).mono ?_; rintro e w' ⟨rfl, rfl⟩))
      go_ret2
      exact ⟨rfl, rfl⟩
theorem load_yes (b off c : Nat) (l : List Int) (op at_ : Int) (w : World) (hn : l.length ≤ maxLen) (ha : U32 at_) (h : mLoadOk l op at_ = true)
    (hc : ∀ i, i < l.length → w.cell? ⟨b, off + i, none⟩ = some (.int .u8 (l.getD i 0))) (hb : ∀ i, 0 ≤ l.getD i 0 ∧ l.getD i 0 < 256) :
    Calls Try.prog 68 #[.slice (some ⟨b, off, none⟩) l.length c, .int .i64 op, .int .u32 at_] w fun e w' => e = .returned (.tuple #[.int .u32 (mLoad l op at_), .bool true]) ∧ w = w' := by
  have hm : U32 (msize op) := by unfold U32 msize; repeat' split <;> omega
  have ht : there l.length at_ (msize op) = true := by simp [mLoadOk] at h; exact h.2
  have hop : op = 11 ∨ op = 12 ∨ op = 13 ∨ op = 14 ∨ op = 15 := by simp [mLoadOk, loads] at h; omega
  have hat : at_.toNat + (msize op).toNat ≤ l.length := by
    simp [there] at ht; unfold U32 at ha; omega
  have haf : at_ + msize op ≤ 4294967296 := by
    simp [there] at ht
    unfold U32 at ha
    rcases hop with rfl | rfl | rfl | rfl | rfl <;> simp [msize] at ht ⊢ <;> omega
  have ha0 := ha.1
  have ha1 := ha.2
  obtain ⟨k, rfl⟩ := Int.eq_ofNat_of_zero_le ha0
  rcases hop with rfl | rfl | rfl | rfl | rfl
  · have H := lI h
    have hk0 : k + 1 ≤ l.length := by simpa [msize] using hat
    have hk1 : (k : Int) + 1 ≤ 4294967296 := by simpa [msize] using haf
    have c0 := hc (k) om
    have b0 := hb (k)
    obtain ⟨x0, hx0⟩ : ∃ x, x = l.getD (k) 0 := ⟨_, rfl⟩
    rw [← hx0] at c0 b0
    have X0 := lI hx0
    clear hx0
    clear hc hb h hat haf
    go_enter Try.func68, Try.ntmps68
    go_wp2_with (first | (go_at_call 93; refine (size_any _ _).mono ?_; rintro e w' ⟨rfl, rfl⟩; rw [show msize 11 = 1 from rfl]) | (go_at_call 94; refine (there_any _ _ _ _ _ _ hn ha hm).mono ?_; rintro e w' ⟨rfl, rfl⟩))
    go_rounds 2
    go_ret2
    refine ⟨congrArg (fun x => Ending.returned (Value.tuple #[.int .u32 x, .bool true])) (?_ : _ = mLoad l 11 k), rfl⟩
    rw [mLoad_11 H.out, ← X0.out, or0 _ om]
  · have H := lI h
    have hk0 : k + 2 ≤ l.length := by simpa [msize] using hat
    have hk1 : (k : Int) + 2 ≤ 4294967296 := by simpa [msize] using haf
    have c0 := hc (k) om
    have b0 := hb (k)
    obtain ⟨x0, hx0⟩ : ∃ x, x = l.getD (k) 0 := ⟨_, rfl⟩
    rw [← hx0] at c0 b0
    have X0 := lI hx0
    clear hx0
    have c1 := hc (k + 1) om
    have b1 := hb (k + 1)
    obtain ⟨x1, hx1⟩ : ∃ x, x = l.getD (k + 1) 0 := ⟨_, rfl⟩
    rw [← hx1] at c1 b1
    have X1 := lI hx1
    clear hx1
    clear hc hb h hat haf
    go_enter Try.func68, Try.ntmps68
    go_wp2_with (first | (go_at_call 93; refine (size_any _ _).mono ?_; rintro e w' ⟨rfl, rfl⟩; rw [show msize 12 = 2 from rfl]) | (go_at_call 94; refine (there_any _ _ _ _ _ _ hn ha hm).mono ?_; rintro e w' ⟨rfl, rfl⟩))
    go_rounds 3
    go_ret2
    refine ⟨congrArg (fun x => Ending.returned (Value.tuple #[.int .u32 x, .bool true])) (?_ : _ = mLoad l 12 k), rfl⟩
    rw [mLoad_12 H.out, ← X0.out, ← X1.out, le2 _ _ b0 b1]
  · have H := lI h
    have hk0 : k + 4 ≤ l.length := by simpa [msize] using hat
    have hk1 : (k : Int) + 4 ≤ 4294967296 := by simpa [msize] using haf
    have c0 := hc (k) om
    have b0 := hb (k)
    obtain ⟨x0, hx0⟩ : ∃ x, x = l.getD (k) 0 := ⟨_, rfl⟩
    rw [← hx0] at c0 b0
    have X0 := lI hx0
    clear hx0
    have c1 := hc (k + 1) om
    have b1 := hb (k + 1)
    obtain ⟨x1, hx1⟩ : ∃ x, x = l.getD (k + 1) 0 := ⟨_, rfl⟩
    rw [← hx1] at c1 b1
    have X1 := lI hx1
    clear hx1
    have c2 := hc (k + 2) om
    have b2 := hb (k + 2)
    obtain ⟨x2, hx2⟩ : ∃ x, x = l.getD (k + 2) 0 := ⟨_, rfl⟩
    rw [← hx2] at c2 b2
    have X2 := lI hx2
    clear hx2
    have c3 := hc (k + 3) om
    have b3 := hb (k + 3)
    obtain ⟨x3, hx3⟩ : ∃ x, x = l.getD (k + 3) 0 := ⟨_, rfl⟩
    rw [← hx3] at c3 b3
    have X3 := lI hx3
    clear hx3
    clear hc hb h hat haf
    go_enter Try.func68, Try.ntmps68
    go_wp2_with (first | (go_at_call 93; refine (size_any _ _).mono ?_; rintro e w' ⟨rfl, rfl⟩; rw [show msize 13 = 4 from rfl]) | (go_at_call 94; refine (there_any _ _ _ _ _ _ hn ha hm).mono ?_; rintro e w' ⟨rfl, rfl⟩))
    go_rounds 5
    go_ret2
    refine ⟨congrArg (fun x => Ending.returned (Value.tuple #[.int .u32 x, .bool true])) (?_ : _ = mLoad l 13 k), rfl⟩
    rw [mLoad_13 H.out, ← X0.out, ← X1.out, ← X2.out, ← X3.out, le4 _ _ _ _ b0 b1 b2 b3]
  · have H := lI h
    have hk0 : k + 1 ≤ l.length := by simpa [msize] using hat
    have hk1 : (k : Int) + 1 ≤ 4294967296 := by simpa [msize] using haf
    have c0 := hc (k) om
    have b0 := hb (k)
    obtain ⟨x0, hx0⟩ : ∃ x, x = l.getD (k) 0 := ⟨_, rfl⟩
    rw [← hx0] at c0 b0
    have X0 := lI hx0
    clear hx0
    clear hc hb h hat haf
    go_enter Try.func68, Try.ntmps68
    go_wp2_with (first | (go_at_call 93; refine (size_any _ _).mono ?_; rintro e w' ⟨rfl, rfl⟩; rw [show msize 14 = 1 from rfl]) | (go_at_call 94; refine (there_any _ _ _ _ _ _ hn ha hm).mono ?_; rintro e w' ⟨rfl, rfl⟩))
    go_rounds 2
    go_ret2
    refine ⟨congrArg (fun x => Ending.returned (Value.tuple #[.int .u32 x, .bool true])) (?_ : _ = mLoad l 14 k), rfl⟩
    rw [mLoad_14 H.out, ← X0.out, or0 _ om]
  · have H := lI h
    have hk0 : k + 2 ≤ l.length := by simpa [msize] using hat
    have hk1 : (k : Int) + 2 ≤ 4294967296 := by simpa [msize] using haf
    have c0 := hc (k) om
    have b0 := hb (k)
    obtain ⟨x0, hx0⟩ : ∃ x, x = l.getD (k) 0 := ⟨_, rfl⟩
    rw [← hx0] at c0 b0
    have X0 := lI hx0
    clear hx0
    have c1 := hc (k + 1) om
    have b1 := hb (k + 1)
    obtain ⟨x1, hx1⟩ : ∃ x, x = l.getD (k + 1) 0 := ⟨_, rfl⟩
    rw [← hx1] at c1 b1
    have X1 := lI hx1
    clear hx1
    clear hc hb h hat haf
    go_enter Try.func68, Try.ntmps68
    go_wp2_with (first | (go_at_call 93; refine (size_any _ _).mono ?_; rintro e w' ⟨rfl, rfl⟩; rw [show msize 15 = 2 from rfl]) | (go_at_call 94; refine (there_any _ _ _ _ _ _ hn ha hm).mono ?_; rintro e w' ⟨rfl, rfl⟩))
    go_rounds 3
    go_ret2
    refine ⟨congrArg (fun x => Ending.returned (Value.tuple #[.int .u32 x, .bool true])) (?_ : _ = mLoad l 15 k), rfl⟩
    rw [mLoad_15 H.out, ← X0.out, ← X1.out, le2 _ _ b0 b1]
theorem load_any (v : Value) (l : List Int) (op at_ : Int) (w : World) (hv : Ints .u8 w v l) (ha : U32 at_) (hb : ∀ i, 0 ≤ l.getD i 0 ∧ l.getD i 0 < 256) :
    Calls Try.prog 68 #[v, .int .i64 op, .int .u32 at_] w fun e w' => e = .returned (.tuple #[.int .u32 (mLoad l op at_), .bool (mLoadOk l op at_)]) ∧ w = w' := by
  obtain ⟨ao, cap, rfl, hc, hm, _, ho⟩ := hv.open
  by_cases h : mLoadOk l op at_ = true
  · have hne : l ≠ [] := by
      rintro rfl
      simp [mLoadOk, there] at h
      have := ha.1; omega
    obtain ⟨b, off, rfl, _, hcell⟩ := ho hne
    rw [h]
    exact load_yes b off cap l op at_ w om ha h hcell hb
  · have h' : mLoadOk l op at_ = false := by simpa using h
    rw [h', show mLoad l op at_ = 0 from by unfold mLoad; rw [if_neg h]]
    exact load_no ao l.length cap op at_ w om ha h'
theorem put_no (ao : Option Addr) (n c : Nat) (op at_ x : Int) (w : World) (hn : n ≤ maxLen) (ha : U32 at_) (h : (stores op && there n at_ (msize op)) = false) :
    Calls Try.prog 99 #[.slice ao n c, .int .i64 op, .int .u32 at_, .int .u32 x] w fun e w' => e = .returned (.bool false) ∧ w = w' := by
  have hm : U32 (msize op) := by unfold U32 msize; repeat' split <;> omega
  by_cases h1 : 16 ≤ op ∧ op ≤ 18
  · have hs : stores op = true := by simp [stores]; omega
    have ht : there n at_ (msize op) = false := by simpa [hs] using h
    obtain ⟨h1, h2⟩ := h1
    clear h hs
    go_enter Try.func99, Try.ntmps99
    go_wp2_with (first | (go_at_call 93; refine (size_any _ _).mono ?_; rintro e w' ⟨rfl, rfl⟩) | (go_at_call 94; refine (there_any _ _ _ _ _ _ hn ha hm).mono ?_; rintro e w' ⟨rfl, rfl⟩))
    go_ret
    exact ⟨rfl, rfl⟩
  · clear h
    have h3 : op < 16 ∨ 18 < op := om
    clear h1
    rcases h3 with h3 | h3
    all_goals
      go_enter Try.func99, Try.ntmps99
      go_wp2_with (first | (go_at_call 93; refine (size_any _ _).mono ?_; rintro e w' ⟨rfl, rfl⟩) | (go_at_call 94; refine (there_any _ _ _ _ _ _ hn ha hm).mono ?_; rintro e w' ⟨rfl, rfl⟩))
      go_ret
      exact ⟨rfl, rfl⟩
theorem put_yes (b off c : Nat) (l : List Int) (op : Int) (k : Nat) (x : Int) (w : World) (hn : l.length ≤ maxLen) (ha : U32 k) (hx : U32 x) (h : mStoreOk l op k = true)
    (hc : ∀ i, i < l.length → ∃ y, w.cell? ⟨b, off + i, none⟩ = some y) (hf : ∀ i, i < l.length → w.frozen? ⟨b, off + i, none⟩ = false) :
    Calls Try.prog 99 #[.slice (some ⟨b, off, none⟩) l.length c, .int .i64 op, .int .u32 k, .int .u32 x] w fun e w' => e = .returned (.bool true) ∧ w' = putW w b off k x (msize op).toNat := by
  have hm : U32 (msize op) := by unfold U32 msize; repeat' split <;> omega
  have ht : there l.length k (msize op) = true := by simp [mStoreOk] at h; exact h.2
  have hop : op = 16 ∨ op = 17 ∨ op = 18 := by simp [mStoreOk, stores] at h; omega
  have hat : k + (msize op).toNat ≤ l.length := by
    simp [there] at ht; unfold U32 at ha; omega
  have haf : k + msize op ≤ 4294967296 := by
    simp [there] at ht
    unfold U32 at ha
    rcases hop with rfl | rfl | rfl <;> simp [msize] at ht ⊢ <;> omega
  have HA := lI ha
  have HM := lI hm
  have HT := lI ht
  have HN := lI hn
  have hx0 := hx.1
  have hx1 := hx.2
  clear ha hm hn
  rcases hop with rfl | rfl | rfl
  · have hk0 : k + 1 ≤ l.length := by simpa [msize] using hat
    have hk1 : k + 1 ≤ 4294967296 := by simp [msize] at haf; omega
    have ht1 : there l.length k 1 = true := HT.out
    have HM1 : Hid (U32 1) := HM
    obtain ⟨x0, c0⟩ := hc (k) om
    have f0 := hf (k) om
    clear hc hf h hat haf ht
    go_enter Try.func99, Try.ntmps99
    go_wp2_with (first | (go_at_call 93; refine (size_any _ _).mono ?_; rintro e w' ⟨rfl, rfl⟩; rw [show msize 16 = 1 from rfl]) | (go_at_call 94; refine (there_any _ _ _ _ _ _ HN.out HA.out HM1.out).mono ?_; rintro e w' ⟨rfl, rfl⟩))
    go_rounds 2
    go_ret
    refine ⟨rfl, ?_⟩
    simp [putW, msize]
  · have hk0 : k + 2 ≤ l.length := by simpa [msize] using hat
    have hk1 : k + 2 ≤ 4294967296 := by simp [msize] at haf; omega
    have ht1 : there l.length k 2 = true := HT.out
    have HM1 : Hid (U32 2) := HM
    obtain ⟨x0, c0⟩ := hc (k) om
    have f0 := hf (k) om
    obtain ⟨x1, c1⟩ := hc (k + 1) om
    have f1 := hf (k + 1) om
    clear hc hf h hat haf ht
    go_enter Try.func99, Try.ntmps99
    go_wp2_with (first | (go_at_call 93; refine (size_any _ _).mono ?_; rintro e w' ⟨rfl, rfl⟩; rw [show msize 17 = 2 from rfl]) | (go_at_call 94; refine (there_any _ _ _ _ _ _ HN.out HA.out HM1.out).mono ?_; rintro e w' ⟨rfl, rfl⟩))
    go_rounds 3
    go_ret
    refine ⟨rfl, ?_⟩
    simp [putW, msize]
  · have hk0 : k + 4 ≤ l.length := by simpa [msize] using hat
    have hk1 : k + 4 ≤ 4294967296 := by simp [msize] at haf; omega
    have ht1 : there l.length k 4 = true := HT.out
    have HM1 : Hid (U32 4) := HM
    obtain ⟨x0, c0⟩ := hc (k) om
    have f0 := hf (k) om
    obtain ⟨x1, c1⟩ := hc (k + 1) om
    have f1 := hf (k + 1) om
    obtain ⟨x2, c2⟩ := hc (k + 2) om
    have f2 := hf (k + 2) om
    obtain ⟨x3, c3⟩ := hc (k + 3) om
    have f3 := hf (k + 3) om
    clear hc hf h hat haf ht
    go_enter Try.func99, Try.ntmps99
    go_wp2_with (first | (go_at_call 93; refine (size_any _ _).mono ?_; rintro e w' ⟨rfl, rfl⟩; rw [show msize 18 = 4 from rfl]) | (go_at_call 94; refine (there_any _ _ _ _ _ _ HN.out HA.out HM1.out).mono ?_; rintro e w' ⟨rfl, rfl⟩))
    go_rounds 5
    go_ret
    refine ⟨rfl, ?_⟩
    simp [putW, msize]
    rw [show x / 16777216 % 256 = x / 16777216 from by omega]
theorem divide_any (a b : Int) (w : World) (ha : -2147483648 ≤ a) (ha' : a ≤ 2147483647) :
    Calls Try.prog 119 #[.int .i32 a, .int .i32 b] w fun e w' => e = .returned (.tuple #[.int .i32 (divq a b), .int .i32 (divr a b)]) ∧ ∃ n, w' = w.drewN n := by
  by_cases h0 : b = 0
  · subst h0
    go_enter Try.func119, Try.ntmps119
    go_wp2
    go_ret2
    exact ⟨rfl, 0, rfl⟩
  · by_cases h1 : b = -1
    · subst h1
      go_enter Try.func119, Try.ntmps119
      go_wp2
      go_ret2
      exact ⟨rfl, 0, rfl⟩
    · have hz : (b == 0) = false := by simpa using h0
      have hz1 : (b == -1) = false := by simpa using h1
      go_enter Try.func119, Try.ntmps119
      go_wp2
      go_quiet (fail)
      go_wp2
      go_ret2
      refine ⟨?_, nq, rfl⟩
      have e1 : wrap32 (a.tdiv b) = divq a b := by
        rw [divq, if_neg h0, if_neg h1]
        have := tdiv_small a b ha ha' h0 h1
        unfold wrap32; omega
      have e2 : a.tmod b = divr a b := by rw [divr, if_neg h0, if_neg h1]
      rw [← e1, ← e2]
      rfl
theorem quotient_any (op a b : Int) (w : World) (ha : 0 ≤ a) (ha' : a < 4294967296) (hb : 0 ≤ b) (hb' : b < 4294967296) :
    Calls Try.prog 103 #[.int .i64 op, .int .u32 a, .int .u32 b] w fun e w' => e = .returned (.int .u32 (quot op a b)) ∧ ∃ n, w' = w.drewN n := by
  have hs := wrap32_small a
  by_cases h0 : b = 0
  · have hz : (b == 0) = true := by simpa using h0
    have H0 := lI h0
    clear h0
    go_enter Try.func103, Try.ntmps103
    go_wp2_with (go_at_call 119; refine (divide_any _ _ _ hs.1 hs.2).mono ?_; rintro e w' ⟨rfl, n, rfl⟩)
    all_goals go_ret
    all_goals refine ⟨ret_int ?_, n, rfl⟩
    all_goals have h0 := H0.out
    all_goals simp [quot, *]
  · have hz : (b == 0) = false := by simpa using h0
    go_enter Try.func103, Try.ntmps103
    go_wp2_with (go_at_call 119; refine (divide_any _ _ _ hs.1 hs.2).mono ?_; rintro e w' ⟨rfl, n, rfl⟩)
    all_goals go_ret
    all_goals refine ⟨ret_int ?_, n, rfl⟩
    all_goals simp [quot, *]
theorem alu_any (op a b : Int) (w : World) (ha : 0 ≤ a) (ha' : a < 4294967296) (hb : 0 ≤ b) (hb' : b < 4294967296) :
    Calls Try.prog 73 #[.int .i64 op, .int .u32 a, .int .u32 b] w fun e w' => e = .returned (.int .u32 (alu op a b)) ∧ ∃ n, w' = w.drewN n := by
  have hm : bits .and .u32 b 31 = b % 32 := mask32 b 5 om 31 rfl hb hb'
  have hs := wrap32_small a
  have hs2 := wrap32_small b
  go_enter Try.func73, Try.ntmps73
  go_wp2_with (first | (go_at_call 103; refine (quotient_any _ _ _ _ ha ha' hb hb').mono ?_; rintro e w' ⟨rfl, n, rfl⟩) | go_in)
  all_goals go_ret
  all_goals refine ⟨ret_int ?_, by first | exact ⟨0, rfl⟩ | exact ⟨_, rfl⟩⟩
  all_goals first
    | (simp [alu, *]; done)
    | (rw [mulh_eq _ _ hs om]; simp [alu, *]; done)
    | (rw [mulhu_eq _ _ ha ha' hb hb']; simp [alu, *]; done)
theorem holds_any (op a b : Int) (w : World) (ha : 0 ≤ a) (ha' : a < 4294967296) (hb : 0 ≤ b) (hb' : b < 4294967296) :
    Calls Try.prog 71 #[.int .i64 op, .int .u32 a, .int .u32 b] w fun e w' => e = .returned (.bool (holds op a b)) ∧ w = w' := by
  go_enter Try.func71, Try.ntmps71
  go_wp2
  all_goals go_ret
  all_goals refine ⟨ret_bool ?_, rfl⟩
  all_goals simp [holds, *]
theorem amo_any (op a b : Int) (w : World) (ha : 0 ≤ a) (ha' : a < 4294967296) (hb : 0 ≤ b) (hb' : b < 4294967296) :
    Calls Try.prog 104 #[.int .i64 op, .int .u32 a, .int .u32 b] w fun e w' => e = .returned (.int .u32 (amo op a b)) ∧ w = w' := by
  go_enter Try.func104, Try.ntmps104
  go_wp2
  all_goals go_ret
  all_goals refine ⟨ret_int ?_, rfl⟩
  all_goals simp only [beq_iff_eq, beq_eq_false_iff_ne, ne_eq] at *
  all_goals first | (subst_vars; first | rfl | (simp [amo]; done) | (simp [amo]; omega)) | (simp [amo, *]; done) | (simp [amo, *]; omega)
section
variable {cp hb ho : Nat} {vm : Value} {d : CoreD} {w : World}
theorem set_any (h : CoreAt cp hb ho vm 58 w d) (wf : d.h.Wf) (k : Nat) (hk : k < 32) (x : Int) :
    Calls Try.prog 70 #[.pointer (some ⟨cp, 0, none⟩), .int .i64 k, .int .u32 x] w fun e w' => e = .returned (.tuple #[]) ∧ CoreAt cp hb ho vm 58 w' (d.set k x) ∧ Cgo cp hb ho vm 58 w w' := by
  have hp := h.ptr
  have hc := h.hart.get (hlist_reg wf k hk)
  have hf := h.hfz (ho + k)
  have H := lI h
  clear h
  go_enter Try.func70, Try.ntmps70
  by_cases hk0 : k = 0
  · subst hk0
    go_wp2_with fail
    go_end0
    refine ⟨rfl, ?_, Cgo.refl _⟩
    have e : d.set ((0 : Nat) : Int) x = d := by simp [CoreD.set, Hart.setReg]
    rw [e]
    exact H.out
  · have hk1 : (0 : Int) < k := om
    go_wp2_with fail
    go_end0
    refine ⟨rfl, ?_, Cgo.setHart _ k om _⟩
    have e : d.set (k : Int) x = { d with h := { d.h with regs := d.h.regs.set k x } } := by simp [CoreD.set, Hart.setReg]; omega
    rw [e]
    exact H.out.setHart k _ _ (hlist_setReg wf.len k hk x) (by rw [hlist_length wf]; omega)
theorem trap_any (h : CoreAt cp hb ho vm 58 w d) (wf : d.h.Wf) (c : Int) :
    Calls Try.prog 47 #[.pointer (some ⟨cp, 0, none⟩), .int .i64 c] w fun e w' => e = .returned (.tuple #[]) ∧ CoreAt cp hb ho vm 58 w' (d.trap c) ∧ Cgo cp hb ho vm 58 w w' := by
  have hp := h.ptr
  have h35 := h.hart.get (hlist_state wf)
  have h36 := h.hart.get (hlist_cause wf)
  have f35 := h.hfz (ho + 35)
  have f36 := h.hfz (ho + 36)
  have hne := h.hbl
  have H := lI h
  clear h
  go_enter Try.func47, Try.ntmps47
  go_wp2_with fail
  go_region
  all_goals go_wp2_with fail
  all_goals go_end0
  all_goals exact ⟨rfl, ((H.out.setHart 35 _ _ (hlist_setState wf.len 2) (by rw [hlist_length wf]; omega)).setHart 36 _ _ (hlist_setCause (h := { d.h with state := 2 }) wf.len c) (by have := hlist_length wf; unfold hlist at *; simp at *; omega)).below (Below.drew br), ((Cgo.setHart _ 35 om _).trans (Cgo.setHart _ 36 om _)).drew⟩
theorem cput_any (h : CoreAt cp hb ho vm 58 w d) (wf : d.Wf) (op at_ x : Int) (ha : U32 at_) (hx : U32 x) :
    Calls Try.prog 72 #[.pointer (some ⟨cp, 0, none⟩), .int .i64 op, .int .u32 at_, .int .u32 x] w fun e w' => e = .returned (.bool (mStoreOk d.m op at_)) ∧ CoreAt cp hb ho vm 58 w' (d.put op at_ x) ∧ Cgo cp hb ho vm 58 w w' := by
  have hp := h.ptr
  have hm := h.mem
  have hfr := h.fr
  have htw := h.tw
  have f3 := h.frz 3
  have f4 := h.frz 4
  have hne := h.hbl
  have H := lI h
  have HA := lI ha
  have HX := lI hx
  obtain ⟨ao, cap, rfl, hc1, hc2, _, hopen⟩ := h.bytes.open
  clear h ha hx
  cases hok : mStoreOk d.m op at_ with
  | false =>
    have e : d.put op at_ x = d := by unfold CoreD.put; rw [hok]; rfl
    rw [e]
    have hc := put_no ao d.m.length cap op at_ x w om HA.out hok
    go_enter Try.func72, Try.ntmps72
    go_wp2_with fail
    refine hc.mono ?_
    rintro e w' ⟨rfl, rfl⟩
    go_wp2_with fail
    go_ret
    exact ⟨rfl, H.out, Cgo.refl _⟩
  | true =>
    have hpos := storeOk_pos HA.out hok
    obtain ⟨b, off, rfl, hbl, hcell⟩ := hopen (by intro e; rw [e] at hpos; simp at hpos)
    obtain ⟨m1, m2, m3, m4⟩ := H.out.mfz b off _ _ rfl
    obtain ⟨k, rfl⟩ := Int.eq_ofNat_of_zero_le HA.out.1
    have hc := put_yes b off cap d.m op k x w om HA.out HX.out hok (fun i hi => ⟨_, hcell i hi⟩) (fun i _ => m4 _)
    have hk : k + (msize op).toNat ≤ d.m.length := by
      simp [mStoreOk, there] at hok
      have := HA.out.1
      omega
    have H2 := lI (H.out.putW k x (msize op).toNat hk hpos)
    have C2 : Hid (Cgo cp hb ho (.slice (some ⟨b, off, none⟩) d.m.length cap) 58 w (putW w b off k x (msize op).toNat)) := lI (Cgo.putW w rfl m2 k x _)
    have HP : Hid (d.put op k x = { d with m := lay d.m k x (msize op).toNat, fr := (k : Int), tw := ((k : Int) + msize op) % 4294967296 }) := lI (by
      unfold CoreD.put; rw [if_pos hok]; congr 1; unfold mStore; rw [if_pos hok])
    have hop : op = 16 ∨ op = 17 ∨ op = 18 := by simp [mStoreOk, stores] at hok; omega
    clear hcell hopen m1 m2 m3 m4 hp hm hfr htw f3 f4
    generalize putW w b off k x (msize op).toNat = w2 at *
    have hp := H2.out.ptr
    have hm := H2.out.mem
    have hfr := H2.out.fr
    have htw := H2.out.tw
    have f3 := H2.out.frz 3
    have f4 := H2.out.frz 4
    have hp0 := H.out.ptr
    have hm0 := H.out.mem
    have hku := HA.out.2
    have ix0 : ∀ W, (Instr.index 181 (.agg #[.int .u32 1, .int .u32 2, .int .u32 4]) (.int .i64 0)).run Try.prog W = .ok (.int .u32 1) W := fun _ => by kernel_rfl
    have ix1 : ∀ W, (Instr.index 181 (.agg #[.int .u32 1, .int .u32 2, .int .u32 4]) (.int .i64 1)).run Try.prog W = .ok (.int .u32 2) W := fun _ => by kernel_rfl
    have ix2 : ∀ W, (Instr.index 181 (.agg #[.int .u32 1, .int .u32 2, .int .u32 4]) (.int .i64 2)).run Try.prog W = .ok (.int .u32 4) W := fun _ => by kernel_rfl
    rcases hop with rfl | rfl | rfl
    all_goals
      go_enter Try.func72, Try.ntmps72
      go_upto_region 1 with (fail)
      clear hp hm hfr htw f3 f4
      go_wp2_with fail
      refine hc.mono ?_
      rintro e w' ⟨rfl, rfl⟩
      clear hp0 hm0
      have hp := H2.out.ptr
      have hfr := H2.out.fr
      have htw := H2.out.tw
      have f3 := H2.out.frz 3
      have f4 := H2.out.frz 4
      go_wp2_with fail
      go_ret
      refine ⟨rfl, ?_, (C2.out.trans (Cgo.setCore _ hne _ _)).trans (Cgo.setCore _ hne _ _)⟩
      rw [HP.out]
      exact (H2.out.setFr _).setTo _
theorem call_any (h : CoreAt cp hb ho vm 58 w d) (wf : d.Wf) (hlen : d.out.length < 1099511627776) :
    Calls Try.prog 76 #[.pointer (some ⟨cp, 0, none⟩)] w fun e w' => e = .returned (.bool (callS d).2) ∧ CoreAt cp hb ho vm 58 w' (callS d).1 ∧ Cgo cp hb ho vm 58 w w' := by
  have hp := h.ptr
  have h17 := h.hart.get (hlist_reg wf.h 17 om)
  have h10 := h.hart.get (hlist_reg wf.h 10 om)
  have h35 := h.hart.get (hlist_state wf.h)
  have f35 := h.hfz (ho + 35)
  have f2 := h.frz 2
  have hne := h.hbl
  have hlt := h.lt
  have H := lI h
  have hT := lI (trap_any h wf.h 5)
  have hC : callS d = if d.h.regs.getD 17 0 = 0 then ({ d with h := { d.h with state := 1 } }, false) else if d.h.regs.getD 17 0 = 1 then ({ d with out := d.out ++ [d.h.regs.getD 10 0] }, true) else (d.trap 5, false) := rfl
  rw [hC]
  clear hC h
  generalize d.h.regs.getD 17 0 = x17 at *
  generalize d.h.regs.getD 10 0 = x10 at *
  by_cases h0 : x17 = 0
  · rw [if_pos h0]
    subst h0
    go_enter Try.func76, Try.ntmps76
    go_wp2_with fail
    go_ret
    exact ⟨rfl, H.out.setHart 35 _ _ (hlist_setState wf.h.len 1) yF, Cgo.setHart _ 35 om _⟩
  · rw [if_neg h0]
    by_cases h1 : x17 = 1
    · rw [if_pos h1]
      subst h1
      obtain ⟨v, hv1, hv3⟩ := H.out.row
      have hfar : Hid (some cp ≠ v.ownBlock) := lI (fun e => by have := (hv3.lt cp e.symm).1; omega)
      have hlo : ∀ k, v.ownBlock = some k → cp + 1 ≤ k := fun k e => (hv3.lt k e).1
      have HLO := lI hlo
      have H3 := lI hv3
      have HV := lI (And.intro hv1 f2)
      obtain ⟨i0, hi, hz0, hz1, hz2⟩ := info_parts (show (Try.prog.info? 58).map (fun i => (i.zero, i.size, i.bytes)) = some (some (.int .u32 0), 1, 4) by kernel_rfl)
      clear hv3 hlo
      go_enter Try.func76, Try.ntmps76
      go_wp2_with fail
      go_region_law (
        refine step_append_lies _ zE _ _ _ zE (cp + 1) 58 i0 _ 1 4 Try.underlying27 hi hz0 hz1 hz2 rfl om v d.out.length _ zE ((H3.out.alloc _).drew)
            ⟨w.heap.size, 0, none⟩ 1 1 [.int .u32 x10] zE zE (World.news_of_block (cs := #[.int .u32 x10]) (t := 58) (fr := (0, 0)) (heap_alloc_new w _)) (by simp [Value.oneCell'])
            om (by unfold maxLen; omega) om zP (w.heap.size + 1) zH ?_
        intro gg cap w1 hown1 hgrow hat hgl
        have hc1 : w1.cell? ⟨cp, 2, none⟩ = some v := (hgrow.cell_far _ zP hfar.out).trans (by simp [World.cell?_alloc_some, HV.out.1])
        have hc0 : w1.cell? ⟨cp, 0, none⟩ = some (.pointer (some ⟨hb, ho, none⟩)) := (hgrow.cell_far _ zP hfar.out).trans (by simp [World.cell?_alloc_some, hp])
        have hf1 : w1.frozen? ⟨cp, 2, none⟩ = false := (hgrow.frozen_far _ zP hfar.out).trans ((frozen_da (p := ⟨cp, 2, none⟩) _ hlt).trans HV.out.2))
      all_goals
        go_wp2
        go_ret
        refine ⟨rfl, H.out.append (((Below.alloc br om _).drew).grown hgrow zP HLO.out) (by simpa using hown1), ?_⟩
        exact (((Cgo.of_below (Below.alloc br (Nat.le_refl _) _) om).drew).trans (Cgo.grown hne ((H3.out.alloc _).drew) hgrow zP)).trans (Cgo.setCore _ hne _ _)
    · rw [if_neg h1]
      go_enter Try.func76, Try.ntmps76
      go_wp2_with fail
      refine hT.out.mono ?_
      rintro e w1 ⟨rfl, hc, hg⟩
      go_wp2_with fail
      go_ret
      exact ⟨rfl, hc, hg⟩
end
section
variable {cp hb ho : Nat} {vm : Value} {d : CoreD} {w : World}
theorem atom_any (h : CoreAt cp hb ho vm 58 w d) (wf : d.Wf) (op a b : Int) (hop : 46 ≤ op ∧ op ≤ 56) (ha : U32 a) (hb' : U32 b) :
    Calls Try.prog 75 #[.pointer (some ⟨cp, 0, none⟩), .int .i64 op, .int .u32 a, .int .u32 b] w fun e w' => e = .returned (.tuple #[.int .u32 (atomS d op a b).2.1, .bool (atomS d op a b).2.2]) ∧ CoreAt cp hb ho vm 58 w' (atomS d op a b).1 ∧ Cgo cp hb ho vm 58 w w' := by
  have hl := lI (load_any vm d.m 13 a w h.bytes ha wf.m.getD)
  have hlu := lI (mLoad_u d.m 13 a om ha wf.m.getD)
  have hne := h.hbl
  have H := lI h
  have HA := lI ha
  have HB := lI hb'
  obtain ⟨o0, o1⟩ := hop
  clear ha hb'
  cases hok : mLoadOk d.m 13 a with
  | false =>
    have hT := lI (trap_any h wf.h 4)
    rw [hok] at hl
    by_cases h46 : op = 46
    · subst h46
      have e : atomS d 46 a b = (d.trap 3, 0, false) := by unfold atomS; rw [hok]; rfl
      rw [e]
      clear e
      have hp := h.ptr
      have hm := h.mem
      clear h
      go_enter Try.func75, Try.ntmps75
      go_wp2_with fail
      refine hl.out.mono ?_
      rintro e w' ⟨rfl, rfl⟩
      clear hp hm
      go_wp2_with fail
      refine hT.out.mono ?_
      rintro e w1 ⟨rfl, hc1, hg1⟩
      have hT2 := lI (trap_any hc1 (wf.trap 4 om).h 3)
      have HG := lI hg1
      clear hc1 hg1 hT hl
      go_wp2_with fail
      refine hT2.out.mono ?_
      rintro e w2 ⟨rfl, hc2, hg2⟩
      go_wp2_with fail
      go_ret2
      exact ⟨rfl, hc2, HG.out.trans hg2⟩
    · have e : atomS d op a b = (d.trap 4, 0, false) := by unfold atomS; rw [hok, if_neg zN, if_neg h46]
      rw [e]
      clear e
      have hp := h.ptr
      have hm := h.mem
      clear h
      go_enter Try.func75, Try.ntmps75
      go_wp2_with fail
      refine hl.out.mono ?_
      rintro e w' ⟨rfl, rfl⟩
      clear hp hm
      go_wp2_with fail
      refine hT.out.mono ?_
      rintro e w1 ⟨rfl, hc1, hg1⟩
      go_wp2_with fail
      go_ret2
      exact ⟨rfl, hc1, hg1⟩
  | true =>
    rw [hok] at hl
    obtain ⟨old, hold⟩ : ∃ x, x = mLoad d.m 13 a := ⟨_, rfl⟩
    rw [← hold] at hl hlu
    have h33 := h.hart.get (hlist_held wf.h)
    have h34 := h.hart.get (hlist_heldAt wf.h)
    have f33 := h.hfz (ho + 33)
    have f34 := h.hfz (ho + 34)
    have hp := h.ptr
    have hm := h.mem
    by_cases h46 : op = 46
    · subst h46
      have e : atomS d 46 a b = (d.hold true a, old, true) := by unfold atomS; rw [hok, ← hold]; rfl
      rw [e]
      clear e h hold
      go_enter Try.func75, Try.ntmps75
      go_upto_region 1 with (fail)
      go_wp2_with (go_at_call 68; refine hl.out.mono ?_; rintro e w' ⟨rfl, rfl⟩)
      go_region
      all_goals go_wp2_with fail
      all_goals go_ret2
      all_goals exact ⟨rfl, ((H.out.setHart 33 _ _ (hlist_setHeld wf.h.len true) yF).setHart 34 _ _ (hlist_setHeldAt (h := { d.h with held := true }) wf.h.len a) yL).below (Below.drew br), ((Cgo.setHart _ 33 om _).trans (Cgo.setHart _ 34 om _)).drew⟩
    · by_cases h47 : op = 47
      · subst h47
        by_cases hq : (d.h.held && d.h.heldAt == a) = true
        · have e : atomS d 47 a b = ((d.put 18 a b).hold false 0, 0, true) := by unfold atomS; rw [hok, if_pos rfl, if_neg om, if_pos rfl, if_pos hq]
          rw [e]
          clear e hold
          rw [Bool.and_eq_true, beq_iff_eq] at hq
          obtain ⟨q1, q2⟩ := hq
          rw [q1] at h33
          rw [q2] at h34
          have HPut := lI (cput_any h wf 18 a b HA.out HB.out)
          clear h f33 f34
          go_enter Try.func75, Try.ntmps75
          go_upto_region 1 with (fail)
          go_wp2_with (go_at_call 68; refine hl.out.mono ?_; rintro e w' ⟨rfl, rfl⟩)
          refine HPut.out.mono ?_
          rintro e w1 ⟨rfl, hc1, hg1⟩
          have hl2 : hlist (d.put 18 a b).h = hlist d.h := by rw [CoreD.put_h]
          have wf2 : (d.put 18 a b).h.Wf := by rw [CoreD.put_h]; exact wf.h
          clear h33 h34 hp hm
          have hp := hc1.ptr
          have h33 := hc1.hart.get (hlist_held wf2)
          have h34 := hc1.hart.get (hlist_heldAt wf2)
          have f33 := hc1.hfz (ho + 33)
          have f34 := hc1.hfz (ho + 34)
          have H1 := lI hc1
          have G1 := lI hg1
          clear hc1 hg1 HPut hl
          go_wp2_with fail
          go_region
          all_goals go_wp2_with fail
          all_goals go_ret2
          all_goals exact ⟨rfl, ((H1.out.setHart 33 _ _ (hlist_setHeld wf2.len false) zT).setHart 34 _ _ (hlist_setHeldAt (h := { (d.put 18 a b).h with held := false }) wf2.len 0) (by have := hlist_length wf2; unfold hlist at *; simp at *; omega)).below (Below.drew br), ((G1.out.trans (Cgo.setHart _ 33 om _)).trans (Cgo.setHart _ 34 om _)).drew⟩
        · have e : atomS d 47 a b = (d.hold false 0, 1, true) := by unfold atomS; rw [hok, if_pos rfl, if_neg om, if_pos rfl, if_neg hq]
          rw [e]
          clear e h hold
          rw [Bool.and_eq_true, beq_iff_eq] at hq
          cases hh : d.h.held with
          | false =>
            rw [hh] at h33
            clear hq
            go_enter Try.func75, Try.ntmps75
            go_upto_region 1 with (fail)
            go_wp2_with (go_at_call 68; refine hl.out.mono ?_; rintro e w' ⟨rfl, rfl⟩)
            go_region
            all_goals go_wp2_with fail
            all_goals go_ret2
            all_goals exact ⟨rfl, ((H.out.setHart 33 _ _ (hlist_setHeld wf.h.len false) yF).setHart 34 _ _ (hlist_setHeldAt (h := { d.h with held := false }) wf.h.len 0) yL).below (Below.drew br), ((Cgo.setHart _ 33 om _).trans (Cgo.setHart _ 34 om _)).drew⟩
          | true =>
            have hq2 : ¬ d.h.heldAt = a := fun e => hq ⟨hh, e⟩
            rw [hh] at h33
            clear hq
            go_enter Try.func75, Try.ntmps75
            go_upto_region 1 with (fail)
            go_wp2_with (go_at_call 68; refine hl.out.mono ?_; rintro e w' ⟨rfl, rfl⟩)
            go_region
            all_goals go_wp2_with fail
            all_goals go_ret2
            all_goals exact ⟨rfl, ((H.out.setHart 33 _ _ (hlist_setHeld wf.h.len false) yF).setHart 34 _ _ (hlist_setHeldAt (h := { d.h with held := false }) wf.h.len 0) yL).below (Below.drew br), ((Cgo.setHart _ 33 om _).trans (Cgo.setHart _ 34 om _)).drew⟩
      · have e : atomS d op a b = (d.put 18 a (amo op old b), old, true) := by unfold atomS; rw [hok, if_pos rfl, if_neg h46, if_neg h47, ← hold]
        rw [e]
        have HAm := lI (amo_any op old b w hlu.out.1 hlu.out.2 HB.out.1 HB.out.2)
        have HPut := lI (cput_any h wf 18 a (amo op old b) HA.out (amo_lo op old b hlu.out HB.out))
        clear e h hold
        go_enter Try.func75, Try.ntmps75
        go_upto_region 1 with (fail)
        go_wp2_with (go_at_call 68; refine hl.out.mono ?_; rintro e w' ⟨rfl, rfl⟩)
        refine HAm.out.mono ?_
        rintro e w' ⟨rfl, rfl⟩
        go_wp2_with fail
        refine HPut.out.mono ?_
        rintro e w1 ⟨rfl, hc1, hg1⟩
        clear hp hm h33 h34 f33 f34
        go_wp2_with fail
        go_ret2
        exact ⟨rfl, hc1, hg1⟩
end
section
variable {cp hb ho : Nat} {vm : Value} {d : CoreD} {w : World}
theorem do_lui (h : CoreAt cp hb ho vm 58 w d) (wf : d.Wf) (hlen : d.out.length < 1099511627776) (kd k1 k2 : Nat) (imm : Int) (hd : kd < 32) (h1 : k1 < 32) (h2 : k2 < 32) (hi : -2147483648 ≤ imm ∧ imm ≤ 2147483647) :
    Calls Try.prog 48 #[.pointer (some ⟨cp, 0, none⟩), .agg #[.int .i64 1, .int .i64 kd, .int .i64 k1, .int .i64 k2, .int .i32 imm]] w fun e w' => e = .returned (.tuple #[]) ∧ CoreAt cp hb ho vm 58 w' (doS ⟨1, kd, k1, k2, imm⟩ d) ∧ Cgo cp hb ho vm 58 w w' := by
  obtain ⟨i0, i1⟩ := hi
  obtain ⟨xa, hxa⟩ : ∃ x, x = d.h.regs.getD k1 0 := ⟨_, rfl⟩
  obtain ⟨xb, hxb⟩ : ∃ x, x = d.h.regs.getD k2 0 := ⟨_, rfl⟩
  obtain ⟨xn, hxn⟩ : ∃ x, x = imm % 4294967296 := ⟨_, rfl⟩
  obtain ⟨pc, hpc⟩ : ∃ x, x = d.h.pc := ⟨_, rfl⟩
  have era : d.h.reg (k1 : Int) = xa := by rw [hxa]; rfl
  have erb : d.h.reg (k2 : Int) = xb := by rw [hxb]; rfl
  have ua : U32 xa := by rw [← era]; exact reg_u wf.h _
  have ub : U32 xb := by rw [← erb]; exact reg_u wf.h _
  have un : U32 xn := by rw [hxn]; exact mod_lo _
  have up : U32 pc := by rw [hpc]; exact wf.h.pc
  have e : doS ⟨1, kd, k1, k2, imm⟩ d = (d.set kd xn).setPc ((pc + 4) % 4294967296) := by
    unfold doS
    dsimp only
    rw [era, erb, ← hxn, ← hpc]
    rw [if_pos om]
  rw [e]
  clear e
  have hne := h.hbl
  have HA := lI ua
  have HB := lI ub
  have HN := lI un
  have HU := lI up
  obtain ⟨w1, hw1⟩ : ∃ w1, w1 = w.alloc (.cells #[.int .i64 1, .int .i64 kd, .int .i64 k1, .int .i64 k2, .int .i32 imm] 110) := ⟨_, rfl⟩
  have H1 : Hid (CoreAt cp hb ho vm 58 w1 d) := lI zC
  have G1 : Hid (Cgo cp hb ho vm 58 w w1) := lI zB
  have hbx : cp < w.heap.size := h.lt
  have HX : Hid (w1.heap[w.heap.size]? = some (.cells #[.int .i64 1, .int .i64 kd, .int .i64 k1, .int .i64 k2, .int .i32 imm] 110 (0, 0))) := lI zJ
  have q0 : (w1).cell? ⟨w.heap.size, 0, none⟩ = some (.int .i64 1) := by rw [hw1]; go_cell
  have q1 : (w1).cell? ⟨w.heap.size, 1, none⟩ = some (.int .i64 kd) := by rw [hw1]; go_cell
  have q2 : (w1).cell? ⟨w.heap.size, 2, none⟩ = some (.int .i64 k1) := by rw [hw1]; go_cell
  have q3 : (w1).cell? ⟨w.heap.size, 3, none⟩ = some (.int .i64 k2) := by rw [hw1]; go_cell
  have q4 : (w1).cell? ⟨w.heap.size, 4, none⟩ = some (.int .i32 imm) := by rw [hw1]; go_cell
  have HW1 := lI hw1
  clear hw1 h
  have hp := H1.out.ptr
  have hca := H1.out.hart.get (hlist_reg wf.h k1 h1)
  have hcb := H1.out.hart.get (hlist_reg wf.h k2 h2)
  have hc32 := H1.out.hart.get (hlist_pc wf.h)
  rw [← hxa] at hca
  rw [← hxb] at hcb
  rw [← hpc] at hc32
  have HPC := lI hpc
  have HIM := lI hxn
  clear hxa hxb era erb hpc ua ub un up hxn
  obtain ⟨b1, b2⟩ := HU.out
  have j1 : (k1 : Int) < 32 := om
  have j2 : (k2 : Int) < 32 := om
  go_enter Try.func48, Try.ntmps48
  go_upto_region 1 with (fail)
  rw [← HW1.out]
  go_quiet (fail)
  rw [← HIM.out]
  clear hca hcb
  go_upto_region 37 with (go_at_call 70; refine (set_any (H1.out.drewN _) wf.h kd hd _).mono ?_; rintro e w2 ⟨rfl, hc, hg⟩)
  have HG : Hid (Cgo cp hb ho vm 58 w w2) := lI (((G1.out.drewN _)).trans hg)
  have wf2 := (wf.set kd xn HN.out).h
  clear hg q0 q1 q2 q3 q4
  clear hp hc32
  have hp := hc.ptr
  have h32 := hc.hart.get (hlist_pc wf2)
  have f32 := hc.hfz (ho + 32)
  have HC := lI hc
  clear hc
  go_wp2_with fail
  go_end0
  exact ⟨rfl, HC.out.setHart 32 _ _ (hlist_setPc wf2.len _) zT, HG.out.trans (Cgo.setHart _ 32 om _)⟩
theorem do_jal (h : CoreAt cp hb ho vm 58 w d) (wf : d.Wf) (hlen : d.out.length < 1099511627776) (kd k1 k2 : Nat) (imm : Int) (hd : kd < 32) (h1 : k1 < 32) (h2 : k2 < 32) (hi : -2147483648 ≤ imm ∧ imm ≤ 2147483647) :
    Calls Try.prog 48 #[.pointer (some ⟨cp, 0, none⟩), .agg #[.int .i64 3, .int .i64 kd, .int .i64 k1, .int .i64 k2, .int .i32 imm]] w fun e w' => e = .returned (.tuple #[]) ∧ CoreAt cp hb ho vm 58 w' (doS ⟨3, kd, k1, k2, imm⟩ d) ∧ Cgo cp hb ho vm 58 w w' := by
  obtain ⟨i0, i1⟩ := hi
  obtain ⟨xa, hxa⟩ : ∃ x, x = d.h.regs.getD k1 0 := ⟨_, rfl⟩
  obtain ⟨xb, hxb⟩ : ∃ x, x = d.h.regs.getD k2 0 := ⟨_, rfl⟩
  obtain ⟨xn, hxn⟩ : ∃ x, x = imm % 4294967296 := ⟨_, rfl⟩
  obtain ⟨pc, hpc⟩ : ∃ x, x = d.h.pc := ⟨_, rfl⟩
  have era : d.h.reg (k1 : Int) = xa := by rw [hxa]; rfl
  have erb : d.h.reg (k2 : Int) = xb := by rw [hxb]; rfl
  have ua : U32 xa := by rw [← era]; exact reg_u wf.h _
  have ub : U32 xb := by rw [← erb]; exact reg_u wf.h _
  have un : U32 xn := by rw [hxn]; exact mod_lo _
  have up : U32 pc := by rw [hpc]; exact wf.h.pc
  have e : doS ⟨3, kd, k1, k2, imm⟩ d = (d.set kd ((pc + 4) % 4294967296)).setPc ((pc + xn) % 4294967296) := by
    unfold doS
    dsimp only
    rw [era, erb, ← hxn, ← hpc]
    rw [if_neg om, if_neg om, if_pos om]
  rw [e]
  clear e
  have hne := h.hbl
  have HA := lI ua
  have HB := lI ub
  have HN := lI un
  have HU := lI up
  obtain ⟨w1, hw1⟩ : ∃ w1, w1 = w.alloc (.cells #[.int .i64 3, .int .i64 kd, .int .i64 k1, .int .i64 k2, .int .i32 imm] 110) := ⟨_, rfl⟩
  have H1 : Hid (CoreAt cp hb ho vm 58 w1 d) := lI zC
  have G1 : Hid (Cgo cp hb ho vm 58 w w1) := lI zB
  have hbx : cp < w.heap.size := h.lt
  have HX : Hid (w1.heap[w.heap.size]? = some (.cells #[.int .i64 3, .int .i64 kd, .int .i64 k1, .int .i64 k2, .int .i32 imm] 110 (0, 0))) := lI zJ
  have q0 : (w1).cell? ⟨w.heap.size, 0, none⟩ = some (.int .i64 3) := by rw [hw1]; go_cell
  have q1 : (w1).cell? ⟨w.heap.size, 1, none⟩ = some (.int .i64 kd) := by rw [hw1]; go_cell
  have q2 : (w1).cell? ⟨w.heap.size, 2, none⟩ = some (.int .i64 k1) := by rw [hw1]; go_cell
  have q3 : (w1).cell? ⟨w.heap.size, 3, none⟩ = some (.int .i64 k2) := by rw [hw1]; go_cell
  have q4 : (w1).cell? ⟨w.heap.size, 4, none⟩ = some (.int .i32 imm) := by rw [hw1]; go_cell
  have HW1 := lI hw1
  clear hw1 h
  have hp := H1.out.ptr
  have hca := H1.out.hart.get (hlist_reg wf.h k1 h1)
  have hcb := H1.out.hart.get (hlist_reg wf.h k2 h2)
  have hc32 := H1.out.hart.get (hlist_pc wf.h)
  rw [← hxa] at hca
  rw [← hxb] at hcb
  rw [← hpc] at hc32
  have HPC := lI hpc
  have HIM := lI hxn
  clear hxa hxb era erb hpc ua ub un up hxn
  obtain ⟨b1, b2⟩ := HU.out
  have j1 : (k1 : Int) < 32 := om
  have j2 : (k2 : Int) < 32 := om
  go_enter Try.func48, Try.ntmps48
  go_upto_region 1 with (fail)
  rw [← HW1.out]
  go_quiet (fail)
  rw [← HIM.out]
  clear hca hcb
  obtain ⟨n0, n1⟩ := HN.out
  go_upto_region 10 with (go_at_call 70; refine (set_any (H1.out.drewN _) wf.h kd hd _).mono ?_; rintro e w2 ⟨rfl, hc, hg⟩)
  have HG : Hid (Cgo cp hb ho vm 58 w w2) := lI (((G1.out.drewN _)).trans hg)
  have wf2 := (wf.set kd ((pc + 4) % 4294967296) (mod_lo _)).h
  clear hg q0 q1 q2 q3 q4
  clear hp hc32
  have hp := hc.ptr
  have h32 := hc.hart.get (hlist_pc wf2)
  have ep : (d.set kd ((pc + 4) % 4294967296)).h.pc = pc := by rw [HPC.out]; unfold CoreD.set Hart.setReg; split <;> rfl
  rw [ep] at h32
  have f32 := hc.hfz (ho + 32)
  have HC := lI hc
  clear hc
  go_wp2_with fail
  go_end0
  exact ⟨rfl, HC.out.setHart 32 _ _ (hlist_setPc wf2.len _) zT, HG.out.trans (Cgo.setHart _ 32 om _)⟩
theorem do_jalr (h : CoreAt cp hb ho vm 58 w d) (wf : d.Wf) (hlen : d.out.length < 1099511627776) (kd k1 k2 : Nat) (imm : Int) (hd : kd < 32) (h1 : k1 < 32) (h2 : k2 < 32) (hi : -2147483648 ≤ imm ∧ imm ≤ 2147483647) :
    Calls Try.prog 48 #[.pointer (some ⟨cp, 0, none⟩), .agg #[.int .i64 4, .int .i64 kd, .int .i64 k1, .int .i64 k2, .int .i32 imm]] w fun e w' => e = .returned (.tuple #[]) ∧ CoreAt cp hb ho vm 58 w' (doS ⟨4, kd, k1, k2, imm⟩ d) ∧ Cgo cp hb ho vm 58 w w' := by
  obtain ⟨i0, i1⟩ := hi
  obtain ⟨xa, hxa⟩ : ∃ x, x = d.h.regs.getD k1 0 := ⟨_, rfl⟩
  obtain ⟨xb, hxb⟩ : ∃ x, x = d.h.regs.getD k2 0 := ⟨_, rfl⟩
  obtain ⟨xn, hxn⟩ : ∃ x, x = imm % 4294967296 := ⟨_, rfl⟩
  obtain ⟨pc, hpc⟩ : ∃ x, x = d.h.pc := ⟨_, rfl⟩
  have era : d.h.reg (k1 : Int) = xa := by rw [hxa]; rfl
  have erb : d.h.reg (k2 : Int) = xb := by rw [hxb]; rfl
  have ua : U32 xa := by rw [← era]; exact reg_u wf.h _
  have ub : U32 xb := by rw [← erb]; exact reg_u wf.h _
  have un : U32 xn := by rw [hxn]; exact mod_lo _
  have up : U32 pc := by rw [hpc]; exact wf.h.pc
  have e : doS ⟨4, kd, k1, k2, imm⟩ d = (d.set kd ((pc + 4) % 4294967296)).setPc ((xa + xn) % 4294967296 - (xa + xn) % 4294967296 % 2) := by
    unfold doS
    dsimp only
    rw [era, erb, ← hxn, ← hpc]
    rw [if_neg om, if_neg om, if_neg om, if_pos om]
  rw [e]
  clear e
  obtain ⟨xt, hxt⟩ : ∃ x, x = (xa + xn) % 4294967296 - (xa + xn) % 4294967296 % 2 := ⟨_, rfl⟩
  rw [← hxt]
  have HT := lI hxt
  clear hxt
  have hne := h.hbl
  have HA := lI ua
  have HB := lI ub
  have HN := lI un
  have HU := lI up
  obtain ⟨w1, hw1⟩ : ∃ w1, w1 = w.alloc (.cells #[.int .i64 4, .int .i64 kd, .int .i64 k1, .int .i64 k2, .int .i32 imm] 110) := ⟨_, rfl⟩
  have H1 : Hid (CoreAt cp hb ho vm 58 w1 d) := lI zC
  have G1 : Hid (Cgo cp hb ho vm 58 w w1) := lI zB
  have hbx : cp < w.heap.size := h.lt
  have HX : Hid (w1.heap[w.heap.size]? = some (.cells #[.int .i64 4, .int .i64 kd, .int .i64 k1, .int .i64 k2, .int .i32 imm] 110 (0, 0))) := lI zJ
  have q0 : (w1).cell? ⟨w.heap.size, 0, none⟩ = some (.int .i64 4) := by rw [hw1]; go_cell
  have q1 : (w1).cell? ⟨w.heap.size, 1, none⟩ = some (.int .i64 kd) := by rw [hw1]; go_cell
  have q2 : (w1).cell? ⟨w.heap.size, 2, none⟩ = some (.int .i64 k1) := by rw [hw1]; go_cell
  have q3 : (w1).cell? ⟨w.heap.size, 3, none⟩ = some (.int .i64 k2) := by rw [hw1]; go_cell
  have q4 : (w1).cell? ⟨w.heap.size, 4, none⟩ = some (.int .i32 imm) := by rw [hw1]; go_cell
  have HW1 := lI hw1
  clear hw1 h
  have hp := H1.out.ptr
  have hca := H1.out.hart.get (hlist_reg wf.h k1 h1)
  have hcb := H1.out.hart.get (hlist_reg wf.h k2 h2)
  have hc32 := H1.out.hart.get (hlist_pc wf.h)
  rw [← hxa] at hca
  rw [← hxb] at hcb
  rw [← hpc] at hc32
  have HPC := lI hpc
  have HIM := lI hxn
  clear hxa hxb era erb hpc ua ub un up hxn
  obtain ⟨b1, b2⟩ := HU.out
  have j1 : (k1 : Int) < 32 := om
  have j2 : (k2 : Int) < 32 := om
  go_enter Try.func48, Try.ntmps48
  go_upto_region 1 with (fail)
  rw [← HW1.out]
  go_quiet (fail)
  rw [← HIM.out]
  clear hca hcb
  obtain ⟨n0, n1⟩ := HN.out
  obtain ⟨a0, a1⟩ := HA.out
  have hand : bits .andNot .u32 ((xa + xn) % 4294967296) 1 = xt := by rw [HT.out]; exact andNot1 _ (mod_lo _)
  go_upto_region 37 with (go_at_call 70; refine (set_any (H1.out.drewN _) wf.h kd hd _).mono ?_; rintro e w2 ⟨rfl, hc, hg⟩)
  have HG : Hid (Cgo cp hb ho vm 58 w w2) := lI (((G1.out.drewN _)).trans hg)
  have wf2 := (wf.set kd ((pc + 4) % 4294967296) (mod_lo _)).h
  clear hg q0 q1 q2 q3 q4
  clear hp hc32
  have hp := hc.ptr
  have h32 := hc.hart.get (hlist_pc wf2)
  have f32 := hc.hfz (ho + 32)
  have HC := lI hc
  clear hc
  go_wp2_with fail
  go_end0
  exact ⟨rfl, HC.out.setHart 32 _ _ (hlist_setPc wf2.len _) zT, HG.out.trans (Cgo.setHart _ 32 om _)⟩
end
end Go.Proofs.Ytlfnddmncbkjaac.W
