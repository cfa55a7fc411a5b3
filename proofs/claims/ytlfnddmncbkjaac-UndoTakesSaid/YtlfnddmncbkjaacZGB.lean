import Derived.Test.YtlfnddmncbkjaacZMA
import Derived.Test.YtlfnddmncbkjaacZGA
import Derived.Test.YtlfnddmncbkjaacZMB
set_option linter.unusedVariables false
set_option linter.unusedSimpArgs false
set_option maxRecDepth 100000
set_option maxHeartbeats 4000000
namespace Go.Proofs.Ytlfnddmncbkjaac.W
open Go.RowKit Fb
theorem of1_any (n : Int) (w : World) (h : -9223372036854775808 ≤ n ∧ n ≤ 9223372036854775807) :
    Calls Try.prog 50 #[.int .i64 n] w fun e w' => e = .returned (.int .u32 (n % 4294967296)) ∧ w = w' := by
  by_cases hn : 0 ≤ n
  all_goals
    go_enter Try.func50, Try.ntmps50
    go_wp2
    all_goals go_ret
    all_goals refine ⟨ret_int ?_, rfl⟩
    all_goals first
      | rfl
      | (have hq := Int.tmod_def n 4294967296; unfold wrap64; omega)
      | (have hq := Int.tmod_def n 4294967296; omega)
theorem size3_load (op : Int) (w : World) :
    Calls Try.prog 62 #[.int .i64 op, .bool false] w fun e w' => e = .returned (.int .i64 (lsize op)) ∧ w = w' := by
  go_enter Try.func62, Try.ntmps62
  go_wp2
  all_goals go_ret
  all_goals refine ⟨ret_int ?_, rfl⟩
  all_goals simp_all [lsize, loads, msize]
  all_goals omega
theorem size3_store (op : Int) (w : World) :
    Calls Try.prog 62 #[.int .i64 op, .bool true] w fun e w' => e = .returned (.int .i64 (ssize op)) ∧ w = w' := by
  go_enter Try.func62, Try.ntmps62
  go_wp2
  all_goals go_ret
  all_goals refine ⟨ret_int ?_, rfl⟩
  all_goals simp_all [ssize, stores, msize]
  all_goals omega
theorem there3_any (ao : Option Addr) (n c : Nat) (at_ many : Int) (w : World) (hn : n ≤ maxLen) (ha : U32 at_) (hm : U32 many) :
    Calls Try.prog 63 #[.slice ao n c, .int .u32 at_, .int .i64 many] w fun e w' => e = .returned (.bool (there n at_ many)) ∧ w = w' := by
  unfold maxLen at hn
  unfold U32 at ha hm
  go_enter Try.func63, Try.ntmps63
  go_wp2
  all_goals go_ret
  all_goals refine ⟨ret_bool ?_, rfl⟩
  all_goals simp [there, *]
  all_goals omega
theorem load3_no (ao : Option Addr) (n c : Nat) (op at_ : Int) (w : World) (hn : n ≤ maxLen) (ha : U32 at_) (h : (loads op && there n at_ (msize op)) = false) :
    Calls Try.prog 40 #[.slice ao n c, .int .i64 op, .int .u32 at_] w fun e w' => e = .returned (.tuple #[.int .u32 0, .bool false]) ∧ w = w' := by
  have hm : U32 (lsize op) := by unfold U32 lsize msize; repeat' split <;> omega
  have ht : there n at_ (lsize op) = false := by
    unfold lsize
    by_cases hl : loads op = true
    · rw [if_pos hl]; simpa [hl] using h
    · rw [if_neg hl]; simp [there]
  clear h
  go_enter Try.func40, Try.ntmps40
  go_wp2_with (first | (go_at_call 62; refine (size3_load _ _).mono ?_; rintro e w' ⟨rfl, rfl⟩) | (go_at_call 63; refine (there3_any _ _ _ _ _ _ hn ha hm).mono ?_; rintro e w' ⟨rfl, rfl⟩))
  go_ret2
  exact ⟨rfl, rfl⟩
theorem load3_yes (b off c : Nat) (l : List Int) (op at_ : Int) (w : World) (hn : l.length ≤ maxLen) (ha : U32 at_) (h : mLoadOk l op at_ = true)
    (hc : ∀ i, i < l.length → w.cell? ⟨b, off + i, none⟩ = some (.int .u8 (l.getD i 0))) (hb : ∀ i, 0 ≤ l.getD i 0 ∧ l.getD i 0 < 256) :
    Calls Try.prog 40 #[.slice (some ⟨b, off, none⟩) l.length c, .int .i64 op, .int .u32 at_] w fun e w' => e = .returned (.tuple #[.int .u32 (mLoad l op at_), .bool true]) ∧ w = w' := by
  have hm : U32 (msize op) := by unfold U32 msize; repeat' split <;> omega
  have ht : there l.length at_ (msize op) = true := by simp [mLoadOk] at h; exact h.2
  have hop : op = 11 ∨ op = 12 ∨ op = 13 ∨ op = 14 ∨ op = 15 := by simp [mLoadOk, loads] at h; omega
  have hat : at_.toNat + (msize op).toNat ≤ l.length := by
    simp [there] at ht; unfold U32 at ha; omega
  have haf : at_ + msize op ≤ 4294967296 := by
    simp [there] at ht
    unfold U32 at ha
    rcases hop with rfl | rfl | rfl | rfl | rfl <;> simp [msize] at ht ⊢ <;> omega
  obtain ⟨k, rfl⟩ := Int.eq_ofNat_of_zero_le ha.1
  have HA := lI ha
  have HM := lI hm
  have HT := lI ht
  have HN := lI hn
  clear ha hm hn
  rcases hop with rfl | rfl | rfl | rfl | rfl
  · have H := lI h
    have ht1 : there l.length k 1 = true := HT.out
    have HM1 : Hid (U32 1) := HM
    have hk0 : k + 1 ≤ l.length := by simpa [msize] using hat
    have hk1 : k + 1 ≤ 4294967296 := by simp [msize] at haf; omega
    have c0 := hc (k) om
    have b0 := hb (k)
    obtain ⟨x0, hx0⟩ : ∃ x, x = l.getD (k) 0 := ⟨_, rfl⟩
    rw [← hx0] at c0 b0
    have X0 := lI hx0
    clear hx0
    clear hc hb h hat haf ht
    go_enter Try.func40, Try.ntmps40
    go_wp2_with (first | (go_at_call 62; refine (size3_load _ _).mono ?_; rintro e w' ⟨rfl, rfl⟩; rw [show lsize 11 = 1 from rfl]) | (go_at_call 63; refine (there3_any _ _ _ _ _ _ HN.out HA.out HM1.out).mono ?_; rintro e w' ⟨rfl, rfl⟩))
    go_rounds 2
    all_goals go_wp2_with (go_at_call 50; refine (of1_any _ _ om).mono ?_; rintro e w' ⟨rfl, rfl⟩)
    all_goals go_ret2
    all_goals refine ⟨congrArg (fun x => Ending.returned (Value.tuple #[.int .u32 x, .bool true])) (?_ : _ = mLoad l 11 k), rfl⟩
    all_goals rw [mLoad_11 H.out, ← X0.out]
    all_goals first
      | omega
      | (rw [wrap_i8]; omega)
      | (rw [wrap_i16]; omega)
      | (have hq := Int.tmod_def (x0 - 256) 4294967296; rw [wrap_i8]; unfold wrap64; omega)
      | (have hq := Int.tmod_def (x0 - 256) 4294967296; rw [wrap_i8]; omega)
      | (have hq := Int.tmod_def (x0 + x1 * 256 - 65536) 4294967296; rw [wrap_i16]; unfold wrap64; omega)
      | (have hq := Int.tmod_def (x0 + x1 * 256 - 65536) 4294967296; rw [wrap_i16]; omega)
  · have H := lI h
    have ht1 : there l.length k 2 = true := HT.out
    have HM1 : Hid (U32 2) := HM
    have hk0 : k + 2 ≤ l.length := by simpa [msize] using hat
    have hk1 : k + 2 ≤ 4294967296 := by simp [msize] at haf; omega
    have c0 := hc (k) om
    have b0 := hb (k)
    obtain ⟨x0, hx0⟩ : ∃ x, x = l.getD (k) 0 := ⟨_, rfl⟩
    rw [← hx0] at c0 b0
    have X0 := lI hx0
    clear hx0
    have c1 := hc (k + 1) om
    have b1 := hb (k + 1)
    obtain ⟨x1, hx1⟩ : ∃ x, x = l.getD (k + 1) 0 := ⟨_, rfl⟩
    rw [← hx1] at c1 b1
    have X1 := lI hx1
    clear hx1
    clear hc hb h hat haf ht
    go_enter Try.func40, Try.ntmps40
    go_wp2_with (first | (go_at_call 62; refine (size3_load _ _).mono ?_; rintro e w' ⟨rfl, rfl⟩; rw [show lsize 12 = 2 from rfl]) | (go_at_call 63; refine (there3_any _ _ _ _ _ _ HN.out HA.out HM1.out).mono ?_; rintro e w' ⟨rfl, rfl⟩))
    go_rounds 3
    all_goals go_wp2_with (go_at_call 50; refine (of1_any _ _ om).mono ?_; rintro e w' ⟨rfl, rfl⟩)
    all_goals go_ret2
    all_goals refine ⟨congrArg (fun x => Ending.returned (Value.tuple #[.int .u32 x, .bool true])) (?_ : _ = mLoad l 12 k), rfl⟩
    all_goals rw [mLoad_12 H.out, ← X0.out, ← X1.out]
    all_goals first
      | omega
      | (rw [wrap_i8]; omega)
      | (rw [wrap_i16]; omega)
      | (have hq := Int.tmod_def (x0 - 256) 4294967296; rw [wrap_i8]; unfold wrap64; omega)
      | (have hq := Int.tmod_def (x0 - 256) 4294967296; rw [wrap_i8]; omega)
      | (have hq := Int.tmod_def (x0 + x1 * 256 - 65536) 4294967296; rw [wrap_i16]; unfold wrap64; omega)
      | (have hq := Int.tmod_def (x0 + x1 * 256 - 65536) 4294967296; rw [wrap_i16]; omega)
  · have H := lI h
    have ht1 : there l.length k 4 = true := HT.out
    have HM1 : Hid (U32 4) := HM
    have hk0 : k + 4 ≤ l.length := by simpa [msize] using hat
    have hk1 : k + 4 ≤ 4294967296 := by simp [msize] at haf; omega
    have c0 := hc (k) om
    have b0 := hb (k)
    obtain ⟨x0, hx0⟩ : ∃ x, x = l.getD (k) 0 := ⟨_, rfl⟩
    rw [← hx0] at c0 b0
    have X0 := lI hx0
    clear hx0
    have c1 := hc (k + 1) om
    have b1 := hb (k + 1)
    obtain ⟨x1, hx1⟩ : ∃ x, x = l.getD (k + 1) 0 := ⟨_, rfl⟩
    rw [← hx1] at c1 b1
    have X1 := lI hx1
    clear hx1
    have c2 := hc (k + 2) om
    have b2 := hb (k + 2)
    obtain ⟨x2, hx2⟩ : ∃ x, x = l.getD (k + 2) 0 := ⟨_, rfl⟩
    rw [← hx2] at c2 b2
    have X2 := lI hx2
    clear hx2
    have c3 := hc (k + 3) om
    have b3 := hb (k + 3)
    obtain ⟨x3, hx3⟩ : ∃ x, x = l.getD (k + 3) 0 := ⟨_, rfl⟩
    rw [← hx3] at c3 b3
    have X3 := lI hx3
    clear hx3
    clear hc hb h hat haf ht
    go_enter Try.func40, Try.ntmps40
    go_wp2_with (first | (go_at_call 62; refine (size3_load _ _).mono ?_; rintro e w' ⟨rfl, rfl⟩; rw [show lsize 13 = 4 from rfl]) | (go_at_call 63; refine (there3_any _ _ _ _ _ _ HN.out HA.out HM1.out).mono ?_; rintro e w' ⟨rfl, rfl⟩))
    go_rounds 5
    all_goals go_wp2_with (go_at_call 50; refine (of1_any _ _ om).mono ?_; rintro e w' ⟨rfl, rfl⟩)
    all_goals go_ret2
    all_goals refine ⟨congrArg (fun x => Ending.returned (Value.tuple #[.int .u32 x, .bool true])) (?_ : _ = mLoad l 13 k), rfl⟩
    all_goals rw [mLoad_13 H.out, ← X0.out, ← X1.out, ← X2.out, ← X3.out]
    all_goals first
      | omega
      | (rw [wrap_i8]; omega)
      | (rw [wrap_i16]; omega)
      | (have hq := Int.tmod_def (x0 - 256) 4294967296; rw [wrap_i8]; unfold wrap64; omega)
      | (have hq := Int.tmod_def (x0 - 256) 4294967296; rw [wrap_i8]; omega)
      | (have hq := Int.tmod_def (x0 + x1 * 256 - 65536) 4294967296; rw [wrap_i16]; unfold wrap64; omega)
      | (have hq := Int.tmod_def (x0 + x1 * 256 - 65536) 4294967296; rw [wrap_i16]; omega)
  · have H := lI h
    have ht1 : there l.length k 1 = true := HT.out
    have HM1 : Hid (U32 1) := HM
    have hk0 : k + 1 ≤ l.length := by simpa [msize] using hat
    have hk1 : k + 1 ≤ 4294967296 := by simp [msize] at haf; omega
    have c0 := hc (k) om
    have b0 := hb (k)
    obtain ⟨x0, hx0⟩ : ∃ x, x = l.getD (k) 0 := ⟨_, rfl⟩
    rw [← hx0] at c0 b0
    have X0 := lI hx0
    clear hx0
    clear hc hb h hat haf ht
    go_enter Try.func40, Try.ntmps40
    go_wp2_with (first | (go_at_call 62; refine (size3_load _ _).mono ?_; rintro e w' ⟨rfl, rfl⟩; rw [show lsize 14 = 1 from rfl]) | (go_at_call 63; refine (there3_any _ _ _ _ _ _ HN.out HA.out HM1.out).mono ?_; rintro e w' ⟨rfl, rfl⟩))
    go_rounds 2
    all_goals go_wp2_with (go_at_call 50; refine (of1_any _ _ om).mono ?_; rintro e w' ⟨rfl, rfl⟩)
    all_goals go_ret2
    all_goals refine ⟨congrArg (fun x => Ending.returned (Value.tuple #[.int .u32 x, .bool true])) (?_ : _ = mLoad l 14 k), rfl⟩
    all_goals rw [mLoad_14 H.out, ← X0.out]
    all_goals first
      | omega
      | (rw [wrap_i8]; omega)
      | (rw [wrap_i16]; omega)
      | (have hq := Int.tmod_def (x0 - 256) 4294967296; rw [wrap_i8]; unfold wrap64; omega)
      | (have hq := Int.tmod_def (x0 - 256) 4294967296; rw [wrap_i8]; omega)
      | (have hq := Int.tmod_def (x0 + x1 * 256 - 65536) 4294967296; rw [wrap_i16]; unfold wrap64; omega)
      | (have hq := Int.tmod_def (x0 + x1 * 256 - 65536) 4294967296; rw [wrap_i16]; omega)
  · have H := lI h
    have ht1 : there l.length k 2 = true := HT.out
    have HM1 : Hid (U32 2) := HM
    have hk0 : k + 2 ≤ l.length := by simpa [msize] using hat
    have hk1 : k + 2 ≤ 4294967296 := by simp [msize] at haf; omega
    have c0 := hc (k) om
    have b0 := hb (k)
    obtain ⟨x0, hx0⟩ : ∃ x, x = l.getD (k) 0 := ⟨_, rfl⟩
    rw [← hx0] at c0 b0
    have X0 := lI hx0
    clear hx0
    have c1 := hc (k + 1) om
    have b1 := hb (k + 1)
    obtain ⟨x1, hx1⟩ : ∃ x, x = l.getD (k + 1) 0 := ⟨_, rfl⟩
    rw [← hx1] at c1 b1
    have X1 := lI hx1
    clear hx1
    clear hc hb h hat haf ht
    go_enter Try.func40, Try.ntmps40
    go_wp2_with (first | (go_at_call 62; refine (size3_load _ _).mono ?_; rintro e w' ⟨rfl, rfl⟩; rw [show lsize 15 = 2 from rfl]) | (go_at_call 63; refine (there3_any _ _ _ _ _ _ HN.out HA.out HM1.out).mono ?_; rintro e w' ⟨rfl, rfl⟩))
    go_rounds 3
    all_goals go_wp2_with (go_at_call 50; refine (of1_any _ _ om).mono ?_; rintro e w' ⟨rfl, rfl⟩)
    all_goals go_ret2
    all_goals refine ⟨congrArg (fun x => Ending.returned (Value.tuple #[.int .u32 x, .bool true])) (?_ : _ = mLoad l 15 k), rfl⟩
    all_goals rw [mLoad_15 H.out, ← X0.out, ← X1.out]
    all_goals first
      | omega
      | (rw [wrap_i8]; omega)
      | (rw [wrap_i16]; omega)
      | (have hq := Int.tmod_def (x0 - 256) 4294967296; rw [wrap_i8]; unfold wrap64; omega)
      | (have hq := Int.tmod_def (x0 - 256) 4294967296; rw [wrap_i8]; omega)
      | (have hq := Int.tmod_def (x0 + x1 * 256 - 65536) 4294967296; rw [wrap_i16]; unfold wrap64; omega)
      | (have hq := Int.tmod_def (x0 + x1 * 256 - 65536) 4294967296; rw [wrap_i16]; omega)
theorem load3_any (v : Value) (l : List Int) (op at_ : Int) (w : World) (hv : Ints .u8 w v l) (ha : U32 at_) (hb : ∀ i, 0 ≤ l.getD i 0 ∧ l.getD i 0 < 256) :
    Calls Try.prog 40 #[v, .int .i64 op, .int .u32 at_] w fun e w' => e = .returned (.tuple #[.int .u32 (mLoad l op at_), .bool (mLoadOk l op at_)]) ∧ w = w' := by
  obtain ⟨ao, cap, rfl, hc, hm, _, ho⟩ := hv.open
  by_cases h : mLoadOk l op at_ = true
  · have hne : l ≠ [] := by
      rintro rfl
      simp [mLoadOk, there] at h
      have := ha.1; omega
    obtain ⟨b, off, rfl, _, hcell⟩ := ho hne
    rw [h]
    exact load3_yes b off cap l op at_ w om ha h hcell hb
  · have h' : mLoadOk l op at_ = false := by simpa using h
    rw [h', show mLoad l op at_ = 0 from by unfold mLoad; rw [if_neg h]]
    exact load3_no ao l.length cap op at_ w om ha h'
theorem info3_bytes : (Try.prog.info? 5).map (fun i => (i.zero, i.size, i.bytes)) = some (some (.int .u8 0), 1, 1) := by kernel_rfl
theorem store3_yes (v : Value) (l : List Int) (op : Int) (k : Nat) (x : Int) (w : World) (hv : Ints .u8 w v l) (ha : U32 k) (hx : U32 x) (h : mStoreOk l op k = true) (hr : l.length ≤ 140737488355328) :
    Calls Try.prog 77 #[v, .int .i64 op, .int .u32 k, .int .u32 x] w fun e w' =>
      (∃ v', e = .returned (.tuple #[v', .bool true]) ∧ Ints .u8 w' v' (mStore l op k x) ∧ ∀ q, v'.ownBlock = some q → w.heap.size ≤ q) ∧ Below w.heap.size w w' := by
  obtain ⟨i0, hi, hz0, hz1, hz2⟩ := info_parts info3_bytes
  have hm : U32 (msize op) := by unfold U32 msize; repeat' split <;> omega
  have ht : there l.length k (msize op) = true := by simp [mStoreOk] at h; exact h.2
  have hop : op = 16 ∨ op = 17 ∨ op = 18 := by simp [mStoreOk, stores] at h; omega
  have hat : k + (msize op).toNat ≤ l.length := by
    simp [there] at ht; unfold U32 at ha; omega
  have haf : k + msize op ≤ 4294967296 := by
    simp [there] at ht
    unfold U32 at ha
    rcases hop with rfl | rfl | rfl <;> simp [msize] at ht ⊢ <;> omega
  have hpos : 0 < l.length := by rcases hop with rfl | rfl | rfl <;> simp [msize] at hat <;> omega
  obtain ⟨ao, cv, rfl, hnc, hcm, _, ho⟩ := hv.open
  have hn : l.length ≤ maxLen := om
  have HA := lI ha
  have HM := lI hm
  have HT := lI ht
  have HN := lI hn
  have HV := lI hv
  have HH := lI h
  have hx0 := hx.1
  have hx1 := hx.2
  clear ha hm hn hv ho hcm
  rcases hop with rfl | rfl | rfl
  · have hk0 : k + 1 ≤ l.length := by simpa [msize] using hat
    have hk1 : k + 1 ≤ 4294967296 := by simp [msize] at haf; omega
    have ht1 : there l.length k 1 = true := HT.out
    have HM1 : Hid (U32 1) := HM
    clear h hat haf ht
    go_enter Try.func77, Try.ntmps77
    go_wp2_with (first | (go_at_call 62; refine (size3_store _ _).mono ?_; rintro e w' ⟨rfl, rfl⟩; rw [show ssize 16 = 1 from rfl]) | (go_at_call 63; refine (there3_any _ _ _ _ _ _ HN.out HA.out HM1.out).mono ?_; rintro e w' ⟨rfl, rfl⟩) | (at_builtin; refine append_any rfl _ _ 22 rfl w.heap.size 5 i0 (.int .u8 0) 1 1 Try.underlying22 hi hz0 hz1 hz2 rfl zN _ 0 [] rfl (ownsRow_built _ _ _ _ (Nat.le_refl _)) _ l.length (l.map (Value.int .u8)) rfl ?_ ?_ ?_ ?_ ?_ ?_))
    rotate_right
    · intro v' w1 hown hgrow
      try simp only [Nat.zero_add, List.nil_append] at hown
      have hb : Below w.heap.size w w1 := (Below.alloc br (Nat.le_refl _) _).grown hgrow zH yE
      have HB := lI hb
      rcases owns_open hown with ⟨_, h0, _⟩ | ⟨g, cap, rfl, hB, hg, hn, hm, hat, hf⟩
      · omega
      have HAT := lI hat
      have HM := lI hm
      clear hm hown hgrow hb
      have c0 := hat (k) zP
      have f0 := hf (k)
      simp only [Nat.zero_add] at c0
      clear hat hf
      go_wp2_with fail
      go_rounds 2
      go_ret2
      have hat2 := putW_at HAT.out k x 1 om
      have hb2 := putW_below w1 g 0 k x hB 1
      have e2 : mStore l 16 k x = lay l k x 1 := by unfold mStore; rw [if_pos HH.out]; rfl
      have hl2 : (lay l k x 1).length = l.length := lay_length _ _ _ _
      rw [e2]
      simp [putW] at hat2 hb2
      refine ⟨⟨_, rfl, Ints.mk ?_ hl2.symm hn HM.out, fun q e => (show g = q by simpa [Value.ownBlock] using e) ▸ (by have := hB; have := HB.out.size; simp at *; omega : w.heap.size ≤ g)⟩, HB.out.trans ?_⟩
      · first | exact hat2 | (rw [show x / 16777216 % 256 = x / 16777216 from by omega] at hat2; exact hat2)
      · first | exact hb2 | (rw [show x / 16777216 % 256 = x / 16777216 from by omega] at hb2; exact hb2)
    all_goals first | (simp; done) | omega | (unfold maxLen; omega) | skip
    · exact HV.out.below ((Below.alloc br (Nat.le_refl _) _))
    · intro u hu; obtain ⟨a, _, rfl⟩ := List.mem_map.1 hu; rfl
  · have hk0 : k + 2 ≤ l.length := by simpa [msize] using hat
    have hk1 : k + 2 ≤ 4294967296 := by simp [msize] at haf; omega
    have ht1 : there l.length k 2 = true := HT.out
    have HM1 : Hid (U32 2) := HM
    clear h hat haf ht
    go_enter Try.func77, Try.ntmps77
    go_wp2_with (first | (go_at_call 62; refine (size3_store _ _).mono ?_; rintro e w' ⟨rfl, rfl⟩; rw [show ssize 17 = 2 from rfl]) | (go_at_call 63; refine (there3_any _ _ _ _ _ _ HN.out HA.out HM1.out).mono ?_; rintro e w' ⟨rfl, rfl⟩) | (at_builtin; refine append_any rfl _ _ 22 rfl w.heap.size 5 i0 (.int .u8 0) 1 1 Try.underlying22 hi hz0 hz1 hz2 rfl zN _ 0 [] rfl (ownsRow_built _ _ _ _ (Nat.le_refl _)) _ l.length (l.map (Value.int .u8)) rfl ?_ ?_ ?_ ?_ ?_ ?_))
    rotate_right
    · intro v' w1 hown hgrow
      try simp only [Nat.zero_add, List.nil_append] at hown
      have hb : Below w.heap.size w w1 := (Below.alloc br (Nat.le_refl _) _).grown hgrow zH yE
      have HB := lI hb
      rcases owns_open hown with ⟨_, h0, _⟩ | ⟨g, cap, rfl, hB, hg, hn, hm, hat, hf⟩
      · omega
      have HAT := lI hat
      have HM := lI hm
      clear hm hown hgrow hb
      have c0 := hat (k) zP
      have f0 := hf (k)
      simp only [Nat.zero_add] at c0
      have c1 := hat (k + 1) zP
      have f1 := hf (k + 1)
      simp only [Nat.zero_add] at c1
      clear hat hf
      go_wp2_with fail
      go_rounds 3
      go_ret2
      have hat2 := putW_at HAT.out k x 2 om
      have hb2 := putW_below w1 g 0 k x hB 2
      have e2 : mStore l 17 k x = lay l k x 2 := by unfold mStore; rw [if_pos HH.out]; rfl
      have hl2 : (lay l k x 2).length = l.length := lay_length _ _ _ _
      rw [e2]
      simp [putW] at hat2 hb2
      refine ⟨⟨_, rfl, Ints.mk ?_ hl2.symm hn HM.out, fun q e => (show g = q by simpa [Value.ownBlock] using e) ▸ (by have := hB; have := HB.out.size; simp at *; omega : w.heap.size ≤ g)⟩, HB.out.trans ?_⟩
      · first | exact hat2 | (rw [show x / 16777216 % 256 = x / 16777216 from by omega] at hat2; exact hat2)
      · first | exact hb2 | (rw [show x / 16777216 % 256 = x / 16777216 from by omega] at hb2; exact hb2)
    all_goals first | (simp; done) | omega | (unfold maxLen; omega) | skip
    · exact HV.out.below ((Below.alloc br (Nat.le_refl _) _))
    · intro u hu; obtain ⟨a, _, rfl⟩ := List.mem_map.1 hu; rfl
  · have hk0 : k + 4 ≤ l.length := by simpa [msize] using hat
    have hk1 : k + 4 ≤ 4294967296 := by simp [msize] at haf; omega
    have ht1 : there l.length k 4 = true := HT.out
    have HM1 : Hid (U32 4) := HM
    clear h hat haf ht
    go_enter Try.func77, Try.ntmps77
    go_wp2_with (first | (go_at_call 62; refine (size3_store _ _).mono ?_; rintro e w' ⟨rfl, rfl⟩; rw [show ssize 18 = 4 from rfl]) | (go_at_call 63; refine (there3_any _ _ _ _ _ _ HN.out HA.out HM1.out).mono ?_; rintro e w' ⟨rfl, rfl⟩) | (at_builtin; refine append_any rfl _ _ 22 rfl w.heap.size 5 i0 (.int .u8 0) 1 1 Try.underlying22 hi hz0 hz1 hz2 rfl zN _ 0 [] rfl (ownsRow_built _ _ _ _ (Nat.le_refl _)) _ l.length (l.map (Value.int .u8)) rfl ?_ ?_ ?_ ?_ ?_ ?_))
    rotate_right
    · intro v' w1 hown hgrow
      try simp only [Nat.zero_add, List.nil_append] at hown
      have hb : Below w.heap.size w w1 := (Below.alloc br (Nat.le_refl _) _).grown hgrow zH yE
      have HB := lI hb
      rcases owns_open hown with ⟨_, h0, _⟩ | ⟨g, cap, rfl, hB, hg, hn, hm, hat, hf⟩
      · omega
      have HAT := lI hat
      have HM := lI hm
      clear hm hown hgrow hb
      have c0 := hat (k) zP
      have f0 := hf (k)
      simp only [Nat.zero_add] at c0
      have c1 := hat (k + 1) zP
      have f1 := hf (k + 1)
      simp only [Nat.zero_add] at c1
      have c2 := hat (k + 2) zP
      have f2 := hf (k + 2)
      simp only [Nat.zero_add] at c2
      have c3 := hat (k + 3) zP
      have f3 := hf (k + 3)
      simp only [Nat.zero_add] at c3
      clear hat hf
      go_wp2_with fail
      go_rounds 5
      go_ret2
      have hat2 := putW_at HAT.out k x 4 om
      have hb2 := putW_below w1 g 0 k x hB 4
      have e2 : mStore l 18 k x = lay l k x 4 := by unfold mStore; rw [if_pos HH.out]; rfl
      have hl2 : (lay l k x 4).length = l.length := lay_length _ _ _ _
      rw [e2]
      simp [putW] at hat2 hb2
      refine ⟨⟨_, rfl, Ints.mk ?_ hl2.symm hn HM.out, fun q e => (show g = q by simpa [Value.ownBlock] using e) ▸ (by have := hB; have := HB.out.size; simp at *; omega : w.heap.size ≤ g)⟩, HB.out.trans ?_⟩
      · (rw [show x / 256 / 256 / 256 % 256 = x / 16777216 % 256 from om, show x / 256 / 256 % 256 = x / 65536 % 256 from by omega]; first | exact hat2 | (rw [show x / 16777216 % 256 = x / 16777216 from by omega]; exact hat2))
      · (rw [show x / 256 / 256 / 256 % 256 = x / 16777216 % 256 from om, show x / 256 / 256 % 256 = x / 65536 % 256 from by omega]; first | exact hb2 | (rw [show x / 16777216 % 256 = x / 16777216 from by omega]; exact hb2))
    all_goals first | (simp; done) | omega | (unfold maxLen; omega) | skip
    · exact HV.out.below ((Below.alloc br (Nat.le_refl _) _))
    · intro u hu; obtain ⟨a, _, rfl⟩ := List.mem_map.1 hu; rfl
theorem store3_no (ao : Option Addr) (n c : Nat) (op at_ x : Int) (w : World) (hn : n ≤ maxLen) (ha : U32 at_) (h : (stores op && there n at_ (msize op)) = false) :
    Calls Try.prog 77 #[.slice ao n c, .int .i64 op, .int .u32 at_, .int .u32 x] w fun e w' => e = .returned (.tuple #[.slice none 0 0, .bool false]) ∧ w = w' := by
  have hm : U32 (ssize op) := by unfold U32 ssize msize; repeat' split <;> omega
  have ht : there n at_ (ssize op) = false := by
    unfold ssize
    by_cases hl : stores op = true
    · rw [if_pos hl]; simpa [hl] using h
    · rw [if_neg hl]; simp [there]
  clear h
  go_enter Try.func77, Try.ntmps77
  go_wp2_with (first | (go_at_call 62; refine (size3_store _ _).mono ?_; rintro e w' ⟨rfl, rfl⟩) | (go_at_call 63; refine (there3_any _ _ _ _ _ _ hn ha hm).mono ?_; rintro e w' ⟨rfl, rfl⟩))
  go_ret2
  exact ⟨rfl, rfl⟩
theorem store3_any (v : Value) (l : List Int) (op at_ x : Int) (w : World) (hv : Ints .u8 w v l) (ha : U32 at_) (hx : U32 x) (hr : l.length ≤ 140737488355328) :
    Calls Try.prog 77 #[v, .int .i64 op, .int .u32 at_, .int .u32 x] w fun e w' =>
      (∃ v', e = .returned (.tuple #[v', .bool (mStoreOk l op at_)]) ∧ Ints .u8 w' v' (if mStoreOk l op at_ = true then mStore l op at_ x else [])) ∧ Below w.heap.size w w' := by
  obtain ⟨k, rfl⟩ := Int.eq_ofNat_of_zero_le ha.1
  by_cases h : mStoreOk l op k = true
  · rw [if_pos h, h]
    exact (store3_yes v l op k x w hv ha hx h hr).mono fun _ _ ⟨⟨v', h1, h2, _⟩, h3⟩ => ⟨⟨v', h1, h2⟩, h3⟩
  · have h' : mStoreOk l op k = false := by simpa using h
    rw [if_neg h, h']
    obtain ⟨ao, cap, rfl, hc, hm, _, ho⟩ := hv.open
    refine (store3_no ao l.length cap op k x w om ha h').mono ?_
    rintro e w1 ⟨rfl, rfl⟩
    exact ⟨⟨_, rfl, Sl.nil _ _⟩, Below.refl _ _⟩
theorem holds1_any (op a b : Int) (w : World) (ha : 0 ≤ a) (ha' : a < 4294967296) (hb : 0 ≤ b) (hb' : b < 4294967296) :
    Calls Try.prog 53 #[.int .i64 op, .int .u32 a, .int .u32 b] w fun e w' => e = .returned (.bool (holds op a b)) ∧ w = w' := by
  have HUA := lI (show U32 a from ⟨ha, ha'⟩)
  have HUB := lI (show U32 b from ⟨hb, hb'⟩)
  obtain ⟨sa, hsa⟩ : ∃ s, s = wrap32 a := ⟨_, rfl⟩
  obtain ⟨sb, hsb⟩ : ∃ s, s = wrap32 b := ⟨_, rfl⟩
  have HSA := lI hsa
  have HSB := lI hsb
  clear hsa hsb
  go_enter Try.func53, Try.ntmps53
  go_wp2_with (first | (go_at_call 66; ((with_reducible refine (signed1s a sa _ HSA HUA).mono ?_); rintro e w' ⟨rfl, rfl⟩)) | (go_at_call 66; ((with_reducible refine (signed1s b sb _ HSB HUB).mono ?_); rintro e w' ⟨rfl, rfl⟩)))
  all_goals go_ret
  all_goals refine ⟨ret_bool ?_, rfl⟩
  all_goals (unfold holds; rw [← HSA.out, ← HSB.out]; simp [*])
theorem amo1_any (op a b : Int) (w : World) (ha : 0 ≤ a) (ha' : a < 4294967296) (hb : 0 ≤ b) (hb' : b < 4294967296) :
    Calls Try.prog 83 #[.int .i64 op, .int .u32 a, .int .u32 b] w fun e w' => e = .returned (.int .u32 (amo op a b)) ∧ ∃ n, w' = w.drewN n := by
  have HUA := lI (show U32 a from ⟨ha, ha'⟩)
  have HUB := lI (show U32 b from ⟨hb, hb'⟩)
  obtain ⟨sa, hsa⟩ : ∃ s, s = wrap32 a := ⟨_, rfl⟩
  obtain ⟨sb, hsb⟩ : ∃ s, s = wrap32 b := ⟨_, rfl⟩
  have HSA := lI hsa
  have HSB := lI hsb
  clear hsa hsb
  go_enter Try.func83, Try.ntmps83
  go_wp2_with (first | (go_at_call 66; ((with_reducible refine (signed1s a sa _ HSA HUA).mono ?_); rintro e w' ⟨rfl, rfl⟩)) | (go_at_call 66; ((with_reducible refine (signed1s b sb _ HSB HUB).mono ?_); rintro e w' ⟨rfl, rfl⟩)) | (go_at_call 55; refine (alu1_any _ _ _ _ ha ha' hb hb').mono ?_; rintro e w' ⟨rfl, n, rfl⟩))
  all_goals go_ret
  all_goals refine ⟨ret_int ?_, by first | exact ⟨0, rfl⟩ | exact ⟨_, rfl⟩⟩
  all_goals have WA := wrap32_back a HUA.out
  all_goals have WB := wrap32_back b HUB.out
  all_goals have h1 := HSA.out
  all_goals have h2 := HSB.out
  all_goals clear HSA HSB HUA HUB
  all_goals simp only [beq_iff_eq, beq_eq_false_iff_ne, ne_eq, Bool.not_eq_true', decide_eq_false_iff_not, decide_eq_true_eq, Bool.not_eq_false'] at *
  all_goals subst h1 h2
  all_goals first | rfl | (subst_vars; first | rfl | (simp [amo]; done) | (simp [amo]; omega) | (exfalso; omega)) | (simp [amo, *]; done) | (simp [amo, *]; omega)
end Go.Proofs.Ytlfnddmncbkjaac.W
namespace Go.Proofs.Ytlfnddmncbkjaac.Fb
open Go.RowKit
def RunD.hold (d : RunD) (b : Bool) (x : Int) : RunD := { d with h := d.h.hold b x }
def RunD.mem (d : RunD) (op a x : Int) : RunD := { d with m := mStore d.m op a x }
def RunD.atom (d : RunD) (op : Int) (kd ka kb : Nat) : RunD :=
  if mLoadOk d.m 13 (d.get ka) = true then
    if op = 46 then (d.hold true (d.get ka)).put kd (mLoad d.m 13 (d.get ka))
    else if op = 47 then (if (d.h.held && d.h.heldAt == d.get ka) = true then (((d.hold false 0).mem 18 (d.get ka) (d.get kb)).stored (d.get ka) 4).put kd 0 else (d.hold false 0).put kd 1)
    else ((d.mem 18 (d.get ka) (amo op (mLoad d.m 13 (d.get ka)) (d.get kb))).stored (d.get ka) 4).put kd (mLoad d.m 13 (d.get ka))
  else d.trap (if op = 46 then 3 else 4)
section
variable {rp : Nat} {TO TS : TypeId} {w : World} {d : RunD} {vm vo vs : Value}
end
end Go.Proofs.Ytlfnddmncbkjaac.Fb
namespace Go.Proofs.Ytlfnddmncbkjaac.W
open Go.RowKit Fb
end Go.Proofs.Ytlfnddmncbkjaac.W
namespace Go.Proofs.Ytlfnddmncbkjaac.Fb
open Go.RowKit
end Go.Proofs.Ytlfnddmncbkjaac.Fb
namespace Go.Proofs.Ytlfnddmncbkjaac.W
open Go.RowKit Fb
end Go.Proofs.Ytlfnddmncbkjaac.W
namespace Go.Proofs.Ytlfnddmncbkjaac.Fb
open Go.RowKit
def RunD.call (d : RunD) : RunD :=
  if d.h.reg 17 = 0 then { d with over := true, h := ({ d.h with state := 1 } : Hart).setPc d.here }
  else if d.h.reg 17 = 1 then { d with out := d.out ++ [d.h.reg 10] }
  else d.trap 5
def RunD.one (d : RunD) (m : MicD) (steps : Int) : RunD :=
  if m.op = 1 then (if (d.steps == steps || d.own) = true then d.stop m.n else { d with steps := d.steps + 1, here := m.n })
  else if m.op = 2 then d.put m.d.toNat m.n
  else if m.op = 3 then d.stop m.n
  else if m.op = 4 then d.stop (u32 (d.get m.a.toNat + m.n) - u32 (d.get m.a.toNat + m.n) % 2)
  else if m.op = 6 then d.trap 6
  else if m.op = 5 then d.call
  else if m.op - m.op.tmod 100 = 100 then (if holds (m.op.tmod 100) (d.get m.a.toNat) (d.get m.b.toNat) = true then d.stop m.n else d)
  else if m.op - m.op.tmod 100 = 200 then (if mLoadOk d.m (m.op.tmod 100) (u32 (d.get m.a.toNat + m.n)) = true then d.put m.d.toNat (mLoad d.m (m.op.tmod 100) (u32 (d.get m.a.toNat + m.n))) else d.trap 3)
  else if m.op - m.op.tmod 100 = 300 then (if mStoreOk d.m (m.op.tmod 100) (u32 (d.get m.a.toNat + m.n)) = true then (d.mem (m.op.tmod 100) (u32 (d.get m.a.toNat + m.n)) (d.get m.b.toNat)).stored (u32 (d.get m.a.toNat + m.n)) (msize (m.op.tmod 100)).toNat else d.trap 4)
  else if m.op - m.op.tmod 100 = 400 then d.put m.d.toNat (alu (m.op.tmod 100) (d.get m.a.toNat) (d.get m.b.toNat))
  else if m.op - m.op.tmod 100 = 500 then d.put m.d.toNat (alu (m.op.tmod 100) (d.get m.a.toNat) m.n)
  else if m.op - m.op.tmod 100 = 600 then d.atom (m.op.tmod 100) m.d.toNat m.a.toNat m.b.toNat
  else d
section
variable {rp : Nat} {TO TS : TypeId} {w : World} {d : RunD} {vm vo vs : Value}
end
end Go.Proofs.Ytlfnddmncbkjaac.Fb
namespace Go.Proofs.Ytlfnddmncbkjaac.W
open Go.RowKit Fb
end Go.Proofs.Ytlfnddmncbkjaac.W
namespace Go.Proofs.Ytlfnddmncbkjaac.Fb
open Go.RowKit
end Go.Proofs.Ytlfnddmncbkjaac.Fb
namespace Go.Proofs.Ytlfnddmncbkjaac.W
open Go.RowKit Fb
end Go.Proofs.Ytlfnddmncbkjaac.W
namespace Go.Proofs.Ytlfnddmncbkjaac.Fb
open Go.RowKit
theorem step_append_at {P : Program} {w : World} {ops : Array Oper} {o : Oper} {a : Act} {K : Act → World → Prop} {Q : Exit → Act → World → Prop} {E : Prop} (hgd : o.guard = none) (s x : Operand) (t : TypeId)
    (ho : o.op = .call { callee := .builtin .append, args := #[s, x], argTypes := #[t, t] })
    (base : Nat) (e : TypeId) (i : TypeInfo) (z : Value) (size bytes : Nat) (ht : P.underlying t = some (.slice e)) (hi : P.info? e = some i) (hz : i.zero = some z)
    (hsize : i.size = size) (hby : i.bytes = bytes) (hzs : z.cells.size = size) (hsz : 0 < size)
    (v : Value) (n : Nat) (xs : List Value) (hs : a.eval s = v) (hown : w.ownsRow base e size v n xs)
    (ad : Addr) (m c : Nat) (news : List Value) (hx : a.eval x = .slice (some ad) m c) (hl : news.length = m * size) (hnews : ∀ j u, news[j]? = some u → w.cell? (ad.add j) = some u) (h1 : ∀ u ∈ news, u.oneCell' = true)
    (h63 : n + m ≤ maxLen) (hbytes : (n + m) * bytes ≤ 140737488355328) (hbase : base ≤ w.heap.size)
    (h : ∀ v' w', w'.ownsRow base e size v' (n + m) (xs ++ news) → w.grownBy w' v.ownBlock → (∀ k, v'.ownBlock = some k → v.ownBlock = some k ∨ w.heap.size ≤ k) → K (a.put o.dst v') w') :
    if Region.wanted o (yielded ops a.tmps) = true then Oper.wp P o a w K Q else E := by
  have hw : Region.wanted o (yielded ops a.tmps) = true := by simp [Region.wanted, hgd]
  rw [if_pos hw]
  obtain ⟨v', w', hr, h2, h3, _, h5⟩ := run_append_own_at (P := P) w base t o.type e i z size bytes ht hi hz hsize hby hzs hsz v n xs hown ad m c news hl hnews h1 h63 hbytes hbase
  unfold Oper.wp execOp
  simp only [ho, resolve, invoke, builtin, Sem.run_bind, Sem.run_pure, Result.andThen_ok, List.map_toArray, List.map_cons, List.map_nil, hs, hx, hr]
  exact h v' w' h2 h3 (fun k e => h5.elim (fun e2 => .inl (e2 ▸ e)) (fun e2 => .inr (by rw [e] at e2; cases e2; exact Nat.le_refl _)))
end Go.Proofs.Ytlfnddmncbkjaac.Fb
namespace Go.Proofs.Ytlfnddmncbkjaac.W
open Go.RowKit Fb
end Go.Proofs.Ytlfnddmncbkjaac.W
namespace Go.Proofs.Ytlfnddmncbkjaac.Fb
open Go.RowKit
end Go.Proofs.Ytlfnddmncbkjaac.Fb
namespace Go.Proofs.Ytlfnddmncbkjaac.W
open Go.RowKit Fb
end Go.Proofs.Ytlfnddmncbkjaac.W
namespace Go.Proofs.Ytlfnddmncbkjaac.Fb
open Go.RowKit
structure R7Near (d d' : RunD) : Prop where
  s0 : d.steps ≤ d'.steps
  s1 : d'.steps ≤ d.steps + 1
  st : d'.stores.length ≤ d.stores.length + 1
  ou : d'.out.length ≤ d.out.length + 1
def RunD.fin (d : RunD) : RunD := if d.over = false ∧ 0 < d.steps then { d with h := d.h.setPc (u32 (d.here + 4)) } else d
def r8list (d : RunD) (cp : Nat) (vs : Value) (steps : Int) : List Value :=
  [.pointer (some ⟨cp, 0, none⟩), .int .u32 d.bf, .int .u32 d.bt, .int .i64 (steps - d.steps), .int .i64 d.steps, vs] ++ (d.temps.map (Value.int .u32) ++ [.int .u32 d.here, .bool d.own])
def RunD.core (d : RunD) (fr tw : Int) : CoreD := ⟨d.h, d.m, d.out, fr, tw⟩
structure R8 (rp cp hb po : Nat) (vm : Value) (TU TS TR : TypeId) (w : World) (d : RunD) (vs : Value) (steps fr tw : Int) : Prop where
  wf : d.Wf
  olen : d.out.length ≤ 1099511627776
  mmax : d.m.length ≤ 4096
  ufr : U32 fr
  utw : U32 tw
  core : CoreAt cp hb po vm TU w (d.core fr tw)
  lt : cp < rp
  at_ : At w rp 0 (r8list d cp vs steps)
  frz : ∀ o, w.frozen? ⟨rp, o, none⟩ = false
  ty : ∃ cs f, w.heap[rp]? = some (.cells cs TR f)
  sto : w.ownsRow (rp + 1) TS 2 vs d.stores.length (d.stores.flatMap rg)
structure G8 (rp : Nat) (TU : TypeId) (cp hb po : Nat) (vm : Value) (w w' : World) : Prop where
  os : w'.os = w.os
  tape : w'.tape = w.tape
  output : w'.output = w.output
  size : w.heap.size ≤ w'.heap.size
  block : ∀ k, k < w.heap.size → k ≠ hb → vm.ownBlock ≠ some k → (k < cp ∨ (cp < k ∧ k < rp ∧ ∀ cs f, w.heap[k]? ≠ some (.cells cs TU f))) → w'.heap[k]? = w.heap[k]?
  cell : ∀ o, (o < po ∨ po + 37 ≤ o) → w'.cell? ⟨hb, o, none⟩ = w.cell? ⟨hb, o, none⟩
theorem type_setCell {w : World} {b i : Nat} {v : Value} {T : TypeId} (h : ∃ cs f, w.heap[b]? = some (.cells cs T f)) : ∃ cs f, (w.setCell ⟨b, i, none⟩ v).heap[b]? = some (.cells cs T f) := by
  obtain ⟨cs, f, h⟩ := h
  simp only [World.setCell, Array.getElem?_modify]
  rw [if_pos trivial, h]
  exact ⟨_, _, rfl⟩
section
variable {rp cp hb po : Nat} {vm : Value} {TU TS TR : TypeId} {w w' w'' : World} {d d' : RunD} {vs : Value} {steps fr tw : Int}
theorem G8.refl : G8 rp TU cp hb po vm w w := ⟨rfl, rfl, rfl, Nat.le_refl _, fun _ _ _ _ _ => rfl, fun _ _ => rfl⟩
theorem G8.trans (h : G8 rp TU cp hb po vm w w') (k : G8 rp TU cp hb po vm w' w'') : G8 rp TU cp hb po vm w w'' :=
  ⟨k.os.trans h.os, k.tape.trans h.tape, k.output.trans h.output, Nat.le_trans h.size k.size, fun j h0 h1 h2 h3 => by
    have e := h.block j h0 h1 h2 h3
    refine (k.block j (Nat.lt_of_lt_of_le h0 h.size) h1 h2 ?_).trans e
    rw [e]; exact h3, fun o ho => (k.cell o ho).trans (h.cell o ho)⟩
theorem G8.below (hb' : Below w.heap.size w w') (hc : hb < w.heap.size) : G8 rp TU cp hb po vm w w' := ⟨hb'.os, hb'.tape, hb'.output, hb'.size, fun k h0 _ _ _ => hb'.block k h0, fun o _ => hb'.cell (p := ⟨hb, o, none⟩) hc⟩
theorem G8.cgo (h : Cgo cp hb po vm TU w w') (_ : hb < w.heap.size) : G8 rp TU cp hb po vm w w' :=
  ⟨h.os, h.tape, h.output, h.size, fun k h0 h1 h2 h3 => h.block k h0 h1 h2 (h3.imp id (fun h4 => ⟨h4.1, h4.2.2⟩)), h.cell⟩
theorem G8.set (hh : cp ≤ rp ∧ hb < rp) (o : Nat) (v : Value) : G8 rp TU cp hb po vm w (w.setCell ⟨rp, o, none⟩ v) :=
  ⟨rfl, rfl, rfl, by simp, fun k _ _ _ h3 => Below.heap_setCell _ _ _ _ (by show k ≠ rp; omega), fun o2 _ => World.cell?_setCell_other _ _ _ _ zR⟩
theorem r8_len (ht : d.temps.length = 4) : (r8list d cp vs steps).length = 12 := by simp [r8list, ht]
theorem CoreAt.keeps {ty : TypeId} {d : CoreD} (h : CoreAt cp hb po vm ty w d) (hs : w.heap.size ≤ w'.heap.size) (hk : ∀ k, k < w.heap.size → (k ≤ cp ∨ ∃ cs f, w.heap[k]? = some (.cells cs ty f)) → w'.heap[k]? = w.heap[k]?) : CoreAt cp hb po vm ty w' d := by
  have h1 := h.lt
  have h2 := h.hlt
  have hbl := h.hbl
  have e1 := hk cp h1 (.inl (Nat.le_refl _))
  have e2 := hk hb h2 (.inl om)
  refine ⟨h.hbl, (cell_block e1 _).trans h.ptr, (cell_block e1 _).trans h.mem, (cell_block e1 _).trans h.fr, (cell_block e1 _).trans h.tw, fun o => (frozen_block e1 o).trans (h.frz o), fun j hj => (cell_block e2 _).trans (h.hart j hj), fun o => (frozen_block e2 o).trans (h.hfz o), ?_, fun b off n c e => ?_, ?_, h.mlt⟩
  · refine r7ints_keep h.bytes (fun hn q e => ?_)
    have hq := h.mlt q e
    exact hk q om (.inl om)
  · obtain ⟨x1, x2, x3, x4⟩ := h.mfz b off n c e
    have e3 := hk b x3 (.inl om)
    exact ⟨x1, x2, Nat.lt_of_lt_of_le x3 hs, fun o => (frozen_block e3 o).trans (x4 o)⟩
  · obtain ⟨vo, y1, y2⟩ := h.row
    refine ⟨vo, (cell_block e1 _).trans y1, owns_block y2 (fun g e => ?_)⟩
    refine hk g (y2.lt g e).2 (.inr ?_)
    rcases y2.2 with ⟨rfl, _⟩ | ⟨g1, _, c1, rfl, _, q1, _⟩
    · cases e
    · cases e
      exact ⟨_, _, q1⟩
theorem R8.rlt (h : R8 rp cp hb po vm TU TS TR w d vs steps fr tw) : rp < w.heap.size := by
  have h1 := h.at_ 0 (by rw [r8_len h.wf.tlen]; omega)
  exact lt_of_cell h1
theorem R8.clt (h : R8 rp cp hb po vm TU TS TR w d vs steps fr tw) : hb < w.heap.size := by have := h.rlt; have := h.lt; have := h.core.hbl; omega
theorem R8.below (h : R8 rp cp hb po vm TU TS TR w d vs steps fr tw) (hb' : Below w.heap.size w w') : R8 rp cp hb po vm TU TS TR w' d vs steps fr tw := by
  have h1 := h.rlt
  obtain ⟨cs, f, hty⟩ := h.ty
  exact ⟨h.wf, h.olen, h.mmax, h.ufr, h.utw, h.core.below hb', h.lt, h.at_.below hb', fun o => (hb'.frozen (p := ⟨rp, o, none⟩) h1).trans (h.frz o), ⟨cs, f, (hb'.block rp h1).trans hty⟩, owns_below h.sto hb'⟩
theorem own_type {B : Nat} {e : TypeId} {k : Nat} {v : Value} {n : Nat} {xs : List Value} (h : w.ownsRow B e k v n xs) {g : Nat} (hg : v.ownBlock = some g) : ∃ cs f, w.heap[g]? = some (.cells cs e f) := by
  rcases h.2 with ⟨rfl, _⟩ | ⟨g1, _, c1, rfl, _, q1, _⟩
  · cases hg
  · cases hg
    exact ⟨_, _, q1⟩
theorem R8.cgo (h : R8 rp cp hb po vm TU TS TR w d vs steps fr tw) {fr' tw' : Int} (hc : CoreAt cp hb po vm TU w' (d'.core fr' tw')) (hg : Cgo cp hb po vm TU w w') (hR : TR ≠ TU) (hS : TS ≠ TU)
    (wf : d'.Wf) (ho : d'.out.length ≤ 1099511627776) (hm : d'.m.length ≤ 4096) (hf : U32 fr') (ht : U32 tw') (e1 : d'.bf = d.bf) (e2 : d'.bt = d.bt) (e3 : d'.steps = d.steps) (e4 : d'.temps = d.temps) (e5 : d'.here = d.here) (e6 : d'.own = d.own) (e7 : d'.stores = d.stores) :
    R8 rp cp hb po vm TU TS TR w' d' vs steps fr' tw' := by
  have h1 := h.rlt
  have h2 := h.lt
  have h3 := h.core.hbl
  obtain ⟨cs, f, hty⟩ := h.ty
  have hrp : w'.heap[rp]? = w.heap[rp]? := hg.block rp h1 om (fun e => by have := h.core.mlt _ e; omega) (.inr ⟨h2, fun cs2 f2 e => by rw [hty] at e; cases e; exact hR rfl⟩)
  have hl : r8list d' cp vs steps = r8list d cp vs steps := by unfold r8list; rw [e1, e2, e3, e4, e5, e6]
  refine ⟨wf, ho, hm, hf, ht, hc, h2, ?_, fun o => (frozen_block hrp o).trans (h.frz o), ⟨cs, f, hrp.trans hty⟩, ?_⟩
  · rw [hl]; exact fun j hj => (cell_block hrp _).trans (h.at_ j hj)
  · rw [e7]
    refine owns_block h.sto (fun g e => ?_)
    have hg2 := h.sto.lt g e
    obtain ⟨cs3, f3, hty3⟩ := own_type h.sto e
    exact hg.block g hg2.2 om (fun e => by have := h.core.mlt _ e; omega) (.inr ⟨om, fun cs2 f2 e => by rw [hty3] at e; cases e; exact hS rfl⟩)
theorem R8.setCell2 {steps' : Int} (h : R8 rp cp hb po vm TU TS TR w d vs steps fr tw) (hR : TR ≠ TU) (i : Nat) (hi : i < 12) (v : Value) (hl : (r8list d cp vs steps).set i v = r8list d' cp vs steps') (hh : d'.h = d.h) (hm : d'.m = d.m) (ho : d'.out = d.out) (hs : d'.stores = d.stores) (wf : d'.Wf) :
    R8 rp cp hb po vm TU TS TR (w.setCell ⟨rp, i, none⟩ v) d' vs steps' fr tw := by
  have h1 := h.rlt
  have h2 := h.lt
  obtain ⟨cs, f, hty⟩ := h.ty
  refine ⟨wf, by rw [ho]; exact h.olen, by rw [hm]; exact h.mmax, h.ufr, h.utw, ?_, h2, ?_, fun o => (World.frozen?_setCell _ _ _ _).trans (h.frz o), type_setCell h.ty, ?_⟩
  · have e : d'.core fr tw = d.core fr tw := by unfold RunD.core; rw [hh, hm, ho]
    rw [e]
    refine h.core.keeps zH (fun k hk hor => Below.heap_setCell _ _ _ _ ?_)
    show k ≠ rp
    rcases hor with h3 | ⟨cs2, f2, h3⟩
    · omega
    · intro e2; subst e2; rw [hty] at h3; cases h3; exact hR rfl
  · have := h.at_.set i (by rw [r8_len h.wf.tlen]; exact hi) v
    rw [Nat.zero_add, hl] at this
    exact this
  · rw [hs]; exact ownsRow_setCell_below h.sto (a := ⟨rp, i, none⟩) (Nat.lt_succ_self rp) v
theorem R8.setCell (h : R8 rp cp hb po vm TU TS TR w d vs steps fr tw) (hR : TR ≠ TU) (i : Nat) (hi : i < 12) (v : Value) (hl : (r8list d cp vs steps).set i v = r8list d' cp vs steps) (hh : d'.h = d.h) (hm : d'.m = d.m) (ho : d'.out = d.out) (hs : d'.stores = d.stores) (wf : d'.Wf) :
    R8 rp cp hb po vm TU TS TR (w.setCell ⟨rp, i, none⟩ v) d' vs steps fr tw := h.setCell2 hR i hi v hl hh hm ho hs wf
end
def own8 (bf bt : Int) (c : CoreD) : Bool := decide (c.fr < c.tw) && (decide (c.fr < bt) && decide (bf < c.tw))
structure Did8 (d e : RunD) (c : CoreD) (p : Int) (last : Bool) : Prop where
  m : e.m = c.m
  out : e.out = d.out ++ c.out
  steps : e.steps = d.steps
  here : e.here = p
  tl : e.temps.length = 4
  bf : e.bf = d.bf
  bt : e.bt = d.bt
  stores : e.stores = if c.fr < c.tw then d.stores ++ [(c.fr, c.tw)] else d.stores
  own : e.own = (d.own || own8 d.bf d.bt c)
  yes : e.over = true → e.h = c.h ∧ (c.h.state ≠ 0 ∨ last = true)
  no : e.over = false → e.h.setPc (u32 (p + 4)) = c.h ∧ c.h.state = 0
structure At8 (d : RunD) (p : Int) : Prop where
  over : d.over = false
  here : d.here = p
  tl : d.temps.length = 4
  state : d.h.state = 0
  zero : d.h.regs.getD 0 0 = 0
  len : d.h.regs.length = 32
  regs : ∀ x ∈ d.h.regs, U32 x
  mlen : d.m.length ≤ 4096
  b : d.bf < d.bt
section
variable {d : RunD} {p : Int} {last : Bool}
theorem storeOk_range {l : List Int} {op a : Int} (h : mStoreOk l op a = true) : 0 < msize op ∧ msize op ≤ 4 ∧ a + msize op ≤ l.length := by
  unfold mStoreOk there at h
  simp only [Bool.and_eq_true, decide_eq_true_eq] at h
  refine ⟨h.2.1.1, ?_, h.2.2⟩
  unfold msize; repeat' split
  all_goals omega
end
def Mem8 (m : List Int) (c : CoreD) : Prop := c.m = m ∨ ∃ op a x, mStoreOk m op a = true ∧ 0 ≤ a ∧ c.m = mStore m op a x ∧ c.fr = a ∧ c.tw = (a + msize op) % 4294967296
theorem put_mem8 (d : CoreD) (op a x : Int) (ha : 0 ≤ a) : Mem8 d.m (d.put op a x) := by
  unfold CoreD.put
  by_cases c : mStoreOk d.m op a = true
  · rw [if_pos c]; exact .inr ⟨op, a, x, c, ha, rfl, rfl, rfl⟩
  · rw [if_neg c]; exact .inl rfl
theorem ite_mem8 {m : List Int} {c : Prop} [Decidable c] {a b : CoreD} (h1 : c → Mem8 m a) (h2 : ¬ c → Mem8 m b) : Mem8 m (if c then a else b) := by split; exact h1 ‹_›; exact h2 ‹_›
theorem atomS_mem8 (d : CoreD) (op a b : Int) (ha : 0 ≤ a) : Mem8 d.m (atomS d op a b).1 := by
  unfold atomS
  split
  · split
    · exact .inl rfl
    · split
      · split
        · exact put_mem8 d 18 a b ha
        · exact .inl rfl
      · exact put_mem8 d 18 a _ ha
  · exact .inl rfl
theorem callS_m (d : CoreD) : (callS d).1.m = d.m := by
  unfold callS
  split
  · rfl
  · split <;> rfl
theorem doS_mem8 (d : CoreD) (hr : ∀ k, 0 ≤ d.h.reg k) (i : InsD) : Mem8 d.m (doS i d) := by
  unfold doS
  dsimp only
  repeat' (with_reducible refine ite_mem8 (fun _ => ?_) (fun _ => ?_))
  all_goals first
    | exact .inl rfl
    | exact put_mem8 d i.op _ _ (Int.emod_nonneg _ zN)
    | exact atomS_mem8 d i.op (d.h.reg i.rs1) (d.h.reg i.rs2) (hr _)
    | exact .inl (callS_m d)
theorem mLoad_apart {m : List Int} {op a x : Int} (ha : 0 ≤ a) {q : Int} (hq : 0 ≤ q) (h : q + 4 ≤ a ∨ a + msize op ≤ q) (hs : mStoreOk m op a = true) : mLoad (mStore m op a x) 13 q = mLoad m 13 q ∧ mLoadOk (mStore m op a x) 13 q = mLoadOk m 13 q := by
  obtain ⟨h1, h2, h3⟩ := storeOk_range hs
  obtain ⟨k, rfl⟩ := Int.eq_ofNat_of_zero_le ha
  obtain ⟨j, rfl⟩ := Int.eq_ofNat_of_zero_le hq
  have e : mLoadOk (mStore m op k x) 13 j = mLoadOk m 13 j := by unfold mLoadOk; rw [mStore_length]
  refine ⟨?_, e⟩
  by_cases c : mLoadOk m 13 j = true
  · rw [mLoad_13 c, mLoad_13 (by rw [e]; exact c)]
    unfold mStore
    rw [if_pos hs, lay_other _ _ _ _ _ om, lay_other _ _ _ _ _ om, lay_other _ _ _ _ _ om, lay_other _ _ _ _ _ om]
  · unfold mLoad
    rw [if_neg (by rw [e]; exact c), if_neg c]
theorem fetch_apart {m : List Int} {op a x : Int} (ha : 0 ≤ a) {q : Int} (hq : 0 ≤ q) (h : q + 4 ≤ a ∨ a + msize op ≤ q) (hs : mStoreOk m op a = true) : fetchS (mStore m op a x) q = fetchS m q := by
  obtain ⟨e1, e2⟩ := mLoad_apart (x := x) ha hq h hs
  unfold fetchS
  rw [e1, e2]
def Blk8 (m : List Int) : Int → List InsD → Prop
  | _, [] => True
  | p, i :: r => fetchS m p = (i, 0) ∧ (r = [] ∨ lastB i.op = false) ∧ Blk8 m (u32 (p + 4)) r
theorem blk8_keep {m m' : List Int} : ∀ (l : List InsD) (p : Int), 0 ≤ p → p + 4 * l.length ≤ 4096 → (∀ q, p ≤ q → q + 4 ≤ p + 4 * l.length → fetchS m' q = fetchS m q) → Blk8 m p l → Blk8 m' p l
  | [], _, _, _, _, _ => trivial
  | i :: r, p, h0, h1, hk, ⟨b1, b2, b3⟩ => by
    simp only [List.length_cons] at h1 hk
    have e : u32 (p + 4) = p + 4 := by unfold u32; omega
    refine ⟨(hk p om om).trans b1, b2, ?_⟩
    rw [e] at b3 ⊢
    exact blk8_keep r (p + 4) om om (fun q h3 h4 => hk q om om) b3
structure Eq8 (a b : RunD) : Prop where
  h : a.h = b.h
  m : a.m = b.m
  out : a.out = b.out
  steps : a.steps = b.steps
  stores : a.stores = b.stores
structure Kept (m : List Int) (pc : Int) (l : List InsD) : Prop where
  ne : l ≠ []
  len : l.length ≤ 16
  pos : 0 ≤ pc
  fits : pc + 4 * l.length ≤ m.length
  blk : Blk8 m pc l
  is : ∀ i ∈ l, isS i = true ∧ I32 i.imm
theorem Kept.store {m : List Int} (hm : m.length ≤ 4096) {pc : Int} {l : List InsD} (h : Kept m pc l) {op a x : Int} (ha : 0 ≤ a) (hs : mStoreOk m op a = true) (hf : pc + 4 * l.length ≤ a ∨ a + msize op ≤ pc) : Kept (mStore m op a x) pc l := by
  have h1 := h.pos
  have h2 := h.fits
  exact ⟨h.ne, h.len, h.pos, by rw [mStore_length]; exact h.fits, blk8_keep l pc h.pos om (fun q g1 g2 => fetch_apart ha om om hs) h.blk, h.is⟩
theorem goS_mem8 {d : CoreD} (wf : d.Wf) : Mem8 d.m (goS d) := by
  unfold goS
  split
  · exact doS_mem8 d.none (fun k => (reg_u wf.h k).1) _
  · exact .inl rfl
theorem Kept.apart {m m' : List Int} {pc : Int} {l : List InsD} (h : Kept m pc l) (hl : m'.length = m.length) (hm : m.length ≤ 4096) (hf : ∀ q, pc ≤ q → q + 4 ≤ pc + 4 * l.length → fetchS m' q = fetchS m q) : Kept m' pc l := by
  have h2 := h.fits
  exact ⟨h.ne, h.len, h.pos, by rw [hl]; exact h2, blk8_keep l pc h.pos om hf h.blk, h.is⟩
end Go.Proofs.Ytlfnddmncbkjaac.Fb
namespace Go.Proofs.Ytlfnddmncbkjaac.W
open Go.RowKit Fb
end Go.Proofs.Ytlfnddmncbkjaac.W
namespace Go.Proofs.Ytlfnddmncbkjaac.Fb
open Go.RowKit
def hasB (pc : Int) (n : Nat) (fr tw : Int) : Bool := decide (max pc fr < min (pc + 4 * (n : Int)) tw)
def staleB (fr tw : Int) (x : BlkD) : Bool := hasB x.pc x.ins.length fr tw
end Go.Proofs.Ytlfnddmncbkjaac.Fb
namespace Go.Proofs.Ytlfnddmncbkjaac.W
open Go.RowKit Fb
end Go.Proofs.Ytlfnddmncbkjaac.W
namespace Go.Proofs.Ytlfnddmncbkjaac.Fb
open Go.RowKit
structure EngOk (m : List Int) (room : Int) (bl : List BlkD) : Prop where
  room0 : 0 ≤ room
  room1 : room ≤ 64
  len : (bl.length : Int) ≤ room
  nodup : (pcs bl).Nodup
  kept : ∀ x ∈ bl, Kept m x.pc x.ins
theorem EngOk.ins {m : List Int} {room : Int} {bl : List BlkD} (h : EngOk m room bl) : ∀ x ∈ bl, x.ins.length ≤ 16 := fun x hx => (h.kept x hx).len
theorem putL_mem {room : Int} {l : List BlkD} {y x : BlkD} (h : x ∈ putL room l y) : x ∈ l ∨ x = y := by
  have key : x ∈ dq (placeI l y.pc) l ++ [y] := by
    unfold putL at h
    split at h
    · exact List.mem_of_mem_drop h
    · exact h
  rcases List.mem_append.1 key with h1 | h1
  · exact .inl (dq_mem h1)
  · exact .inr (by simpa using h1)
theorem EngOk.put {m : List Int} {room : Int} {bl : List BlkD} (h : EngOk m room bl) {y : BlkD} (hy : Kept m y.pc y.ins) : EngOk m room (putL room bl y) := by
  obtain ⟨h1, h2, h3, -⟩ := putL_keeps h.room0 h.len h.nodup h.ins (y := y) hy.len
  refine ⟨h.room0, h.room1, h2, h1, fun x hx => ?_⟩
  rcases putL_mem hx with h4 | rfl
  · exact h.kept x h4
  · exact hy
def staleAll : List (Int × Int) → List BlkD → List BlkD
  | [], bl => bl
  | p :: r, bl => staleAll r (bl.filter (fun x => !staleB p.1 p.2 x))
theorem staleAll_sub : ∀ (st : List (Int × Int)) (bl : List BlkD), (staleAll st bl).Sublist bl
  | [], _ => List.Sublist.refl _
  | p :: r, bl => (staleAll_sub r _).trans List.filter_sublist
theorem staleAll_mem : ∀ (st : List (Int × Int)) (bl : List BlkD) (x : BlkD), x ∈ staleAll st bl → x ∈ bl ∧ ∀ p ∈ st, staleB p.1 p.2 x = false
  | [], _, _, h => ⟨h, (by intro p hp; cases hp)⟩
  | p :: r, bl, x, h => by
    obtain ⟨h1, h2⟩ := staleAll_mem r _ x h
    rw [List.mem_filter] at h1
    refine ⟨h1.1, fun q hq => ?_⟩
    rcases List.mem_cons.1 hq with rfl | hq
    · simpa using h1.2
    · exact h2 q hq
theorem EngOk.run {m m' : List Int} {room : Int} {bl : List BlkD} (h : EngOk m room bl) (st : List (Int × Int)) (hl : m'.length = m.length) (hm : m.length ≤ 4096) (hp : ∀ p ∈ st, 0 ≤ p.1 ∧ p.1 < p.2 ∧ p.2 ≤ 4096)
    (hf : ∀ q, 0 ≤ q → (∀ p ∈ st, q + 4 ≤ p.1 ∨ p.2 ≤ q) → fetchS m' q = fetchS m q) : EngOk m' room (staleAll st bl) := by
  have hsub := staleAll_sub st bl
  refine ⟨h.room0, h.room1, by have := hsub.length_le; have := h.len; omega, pcs_sub hsub h.nodup, fun x hx => ?_⟩
  obtain ⟨h1, h2⟩ := staleAll_mem st bl x hx
  have k := h.kept x h1
  have k1 := k.pos
  refine k.apart hl hm (fun q g1 g2 => hf q om (fun p hq => ?_))
  have h3 := h2 p hq
  have h4 := hp p hq
  unfold staleB hasB at h3
  rw [decide_eq_false_iff_not] at h3
  omega
end Go.Proofs.Ytlfnddmncbkjaac.Fb
