/- Numbers and registers as text, walked: the program's and the document's. -/
import Derived.Test.YtlfnddmncbkjaacDoorZMB
import Derived.Test.YtlfnddmncbkjaacDoorZMA
import Derived.Test.YtlfnddmncbkjaacDoorZTShelfP
namespace Go.Proofs.YtlfnddmncbkjaacDoor.W
set_option linter.unusedVariables false
set_option linter.unusedSimpArgs false
open Go.RowKit Fb
theorem one_bs (k : Nat) (h : k < 256) : strOfNums [(k : Int)] = bs [UInt8.ofNat k] := by
  have h1 := strOfNums_data [(k : Int)]
  apply ByteArray.ext
  apply Array.ext'
  rw [h1]
  simp [bs]
set_option maxRecDepth 100000 in
set_option maxHeartbeats 1600000 in
theorem digits_nat : ∀ (n : Nat), n ≤ 9223372036854775807 → ∀ (w : World),
    Calls Tryd.prog 16 #[.int .i64 n] w fun e w' => e = .returned (.string (bs (Lib.decDigits n))) ∧ Below w.heap.size w w' := by
  intro n
  induction n using Nat.strongRecOn with
  | ind n ih =>
    intro hn w
    have hconv : ∀ (W : World) (x : Int), (convert 54 9 (.slice (some ⟨W.heap.size, 0, none⟩) 1 1)).run Tryd.prog (W.alloc (.cells #[.int .u8 x] 5)) = .ok (.string (strOfNums [x])) (W.alloc (.cells #[.int .u8 x] 5)) := fun W x =>
      conv_any _ _ [x] _ _ _ Tryd.underlying54 Tryd.underlying5 Tryd.underlying9 (Ints.mk (at_alloc W [.int .u8 x] 5 (0, 0)) rfl (by decide) (by decide))
    have h4 := Lib.hid hconv
    have hn0 : (0 : Int) ≤ (n : Int) := by omega
    by_cases h10 : n < 10
    · have hlt : (n : Int) < 10 := by omega
      have HR : Hid (strOfNums [48 + (n : Int)] = bs (Lib.decDigits n)) := Lib.hid (by
        have e : (48 : Int) + (n : Int) = ((48 + n : Nat) : Int) := by omega
        rw [e, one_bs _ (by omega), Lib.decDigits_one h10])
      have hmod : (n : Int).tmod 10 = (n : Int) := by
        rw [Int.tmod_eq_emod_of_nonneg hn0]; omega
      clear ih
      go_enter Tryd.func16, Tryd.ntmps16
      go_wp2_with fail
      go_ret
      exact ⟨by rw [HR.out]; rfl, Below.alloc (Below.refl _ _) (Nat.le_refl _) _⟩
    · have hge : ¬ (n : Int) < 10 := by omega
      obtain ⟨r, hr⟩ : ∃ r : Nat, r = n % 10 := ⟨_, rfl⟩
      obtain ⟨q, hq⟩ : ∃ q : Nat, q = n / 10 := ⟨_, rfl⟩
      have hr9 : r < 10 := by omega
      have hmod : (n : Int).tmod 10 = (r : Int) := by
        rw [Int.tmod_eq_emod_of_nonneg hn0]; omega
      have hdiv : (n : Int).tdiv 10 = (q : Int) := by
        rw [Int.tdiv_eq_ediv_of_nonneg hn0]; omega
      have HWQ : Hid (wrap64 (q : Int) = (q : Int)) := Lib.hid (by unfold wrap64; omega)
      have HIH := Lib.hid (fun W => ih q (by omega) (by omega) W)
      have HS : Hid (bs (Lib.decDigits q) ++ strOfNums [48 + (r : Int)] = bs (Lib.decDigits n)) := Lib.hid (by
        have e : (48 : Int) + (r : Int) = ((48 + r : Nat) : Int) := by omega
        rw [e, one_bs _ (by omega), bs_app, show Lib.decDigits n = Lib.decDigits (n / 10) ++ [UInt8.ofNat (48 + n % 10)] by conv => lhs; rw [Lib.decDigits, dif_neg h10]]
        rw [hr, hq])
      have hsz : (bs (Lib.decDigits q)).size + (strOfNums [48 + (r : Int)]).size ≤ 100 := by
        rw [bs_size, strOfNums_size]
        have := digits_short q (by omega)
        simp only [List.length_singleton]
        omega
      obtain ⟨b, hb⟩ : ∃ b, b = bs (Lib.decDigits q) := ⟨_, rfl⟩
      obtain ⟨b2, hb2⟩ : ∃ b, b = bs (Lib.decDigits n) := ⟨_, rfl⟩
      rw [← hb] at hsz HS HIH
      rw [← hb2] at HS ⊢
      clear ih hr hq hb hb2
      go_enter Tryd.func16, Tryd.ntmps16
      go_wp2_with fail
      rw [HWQ.out]
      refine (HIH.out _).mono ?_
      rintro e w2 ⟨rfl, hb2⟩
      have HB2 := Lib.hid hb2
      clear hb2
      go_wp2_with fail
      go_ret
      refine ⟨by rw [HS.out]; rfl, (Below.alloc (Below.refl _ _) (Nat.le_refl _) _).trans (HB2.out.mono (by simp))⟩
set_option maxRecDepth 100000 in
set_option maxHeartbeats 1600000 in
theorem digits_any (n : Int) (hn : -9223372036854775807 ≤ n ∧ n ≤ 9223372036854775807) (w : World) :
    Calls Tryd.prog 16 #[.int .i64 n] w fun e w' => e = .returned (.string (bs (Lib.itoa n))) ∧ Below w.heap.size w w' := by
  by_cases h0 : 0 ≤ n
  · obtain ⟨k, rfl⟩ := Int.eq_ofNat_of_zero_le h0
    have := digits_nat k (by omega) w
    rwa [← Lib.itoa_nonneg] at this
  · obtain ⟨k, hk⟩ := Int.eq_ofNat_of_zero_le (show 0 ≤ -n by omega)
    obtain rfl : n = -(k : Int) := by omega
    have hk1 : 1 ≤ k := by omega
    have hlt : -(k : Int) < 0 := by omega
    have hw : wrap64 (k : Int) = (k : Int) := by unfold wrap64; omega
    have HD := Lib.hid (fun W => digits_nat k (by omega) W)
    have HS : Hid ((⟨#[45]⟩ : ByteArray) ++ bs (Lib.decDigits k) = bs (Lib.itoa (-(k : Int)))) := Lib.hid (by
      rw [Lib.itoa_neg k hk1]
      exact bs_app [45] (Lib.decDigits k))
    have hsz : (⟨#[45]⟩ : ByteArray).size + (bs (Lib.decDigits k)).size ≤ 100 := by
      rw [bs_size]
      have := digits_short k (by omega)
      show 1 + _ ≤ 100
      omega
    obtain ⟨b, hb⟩ : ∃ b, b = bs (Lib.decDigits k) := ⟨_, rfl⟩
    obtain ⟨b2, hb2⟩ : ∃ b, b = bs (Lib.itoa (-(k : Int))) := ⟨_, rfl⟩
    rw [← hb] at hsz HS HD
    rw [← hb2] at HS ⊢
    clear hb hb2
    go_enter Tryd.func16, Tryd.ntmps16
    go_wp2_with fail
    (try simp only [Int.neg_neg])
    (try rw [hw])
    refine (HD.out _).mono ?_
    rintro e w2 ⟨rfl, hb2⟩
    have HB2 := Lib.hid hb2
    clear hb2
    go_wp2_with fail
    go_ret
    exact ⟨by rw [HS.out]; rfl, HB2.out⟩
set_option maxHeartbeats 1600000 in
theorem x11_any (n : Int) (hn : 0 ≤ n ∧ n ≤ 31) (w : World) :
    Calls Tryd.prog 17 #[.int .i64 n] w fun e w' => e = .returned (.string (bs (regS n))) ∧ Below w.heap.size w w' := by
  have HD := Lib.hid (fun W => digits_any n (by omega) W)
  have HS : Hid ((⟨#[120]⟩ : ByteArray) ++ bs (Lib.itoa n) = bs (regS n)) := Lib.hid (bs_app [120] (Lib.itoa n))
  have hsz : (⟨#[120]⟩ : ByteArray).size + (bs (Lib.itoa n)).size ≤ 100 := by
    rw [bs_size]
    have := itoa_short n (by omega)
    show 1 + _ ≤ 100
    omega
  obtain ⟨b, hb⟩ : ∃ b, b = bs (Lib.itoa n) := ⟨_, rfl⟩
  obtain ⟨b2, hb2⟩ : ∃ b, b = bs (regS n) := ⟨_, rfl⟩
  rw [← hb] at hsz HS HD
  rw [← hb2] at HS ⊢
  clear hb hb2 hn
  go_enter Tryd.func17, Tryd.ntmps17
  go_wp2_with fail
  refine (HD.out _).mono ?_
  rintro e w2 ⟨rfl, hb2⟩
  have HB2 := Lib.hid hb2
  clear hb2
  go_wp2_with fail
  go_ret
  exact ⟨by rw [HS.out]; rfl, HB2.out⟩
set_option maxHeartbeats 1600000 in
theorem reg_any (n : Int) (hn : 0 ≤ n ∧ n ≤ 31) (w : World) :
    Calls Tryd.prog 38 #[.int .i64 n] w fun e w' => e = .returned (.string (bs (regS n))) ∧ w = w' := by
  obtain ⟨k, rfl⟩ := Int.eq_ofNat_of_zero_le hn.1
  have HD := Lib.hid (fun W => Tryd.strconv_Itoa_small k (by omega) W)
  have HS : Hid ((⟨#[120]⟩ : ByteArray) ++ ⟨(Lib.decDigits k).toArray⟩ = bs (regS (k : Int))) := Lib.hid (by
    unfold regS
    rw [Lib.itoa_nonneg]
    exact bs_app [120] (Lib.decDigits k))
  have hsz : (⟨#[120]⟩ : ByteArray).size + (⟨(Lib.decDigits k).toArray⟩ : ByteArray).size ≤ 100 := by
    have h1 := bs_size (Lib.decDigits k)
    have := digits_short k (by omega)
    show 1 + (bs (Lib.decDigits k)).size ≤ 100
    omega
  obtain ⟨b, hb⟩ : ∃ b : ByteArray, b = ⟨(Lib.decDigits k).toArray⟩ := ⟨_, rfl⟩
  obtain ⟨b2, hb2⟩ : ∃ b, b = bs (regS (k : Int)) := ⟨_, rfl⟩
  rw [← hb] at hsz HS HD
  rw [← hb2] at HS ⊢
  clear hb hb2 hn
  go_enter Tryd.func38, Tryd.ntmps38
  go_wp2_with fail
  refine (HD.out _).mono ?_
  rintro e w2 ⟨rfl, rfl⟩
  go_wp2_with fail
  go_ret
  exact ⟨by rw [HS.out]; rfl, rfl⟩
set_option maxHeartbeats 1600000 in
/-- the place by a register -/
theorem at_any (i : InsD) (num : List UInt8) (hl : num.length ≤ 30) (hr : 0 ≤ i.rs1 ∧ i.rs1 ≤ 31) (w : World) :
    Calls Tryd.prog 39 #[.agg (icells i), .string (bs num)] w fun e w' => e = .returned (.string (bs (atS i.rs1 num))) ∧ Below w.heap.size w w' := by
  obtain ⟨op, rd, rs1, rs2, imm⟩ := i
  simp only [icells] at hr ⊢
  have HD := Lib.hid (fun W => reg_any rs1 hr W)
  have HS : Hid (bs num ++ (⟨#[40]⟩ : ByteArray) ++ bs (regS rs1) ++ ⟨#[41]⟩ = bs (atS rs1 num)) := Lib.hid (by
    rw [show (⟨#[40]⟩ : ByteArray) = bs [40] from rfl, show (⟨#[41]⟩ : ByteArray) = bs [41] from rfl, bs_app, bs_app, bs_app]
    unfold atS
    simp)
  have hz1 : (bs num).size ≤ 30 := by rw [bs_size]; exact hl
  have hz2 : (bs (regS rs1)).size ≤ 30 := by
    rw [bs_size]
    have := itoa_short rs1 (by omega)
    unfold regS
    simp only [List.length_cons]
    omega
  obtain ⟨b, hb⟩ : ∃ b, b = bs num := ⟨_, rfl⟩
  obtain ⟨b2, hb2⟩ : ∃ b, b = bs (regS rs1) := ⟨_, rfl⟩
  obtain ⟨b3, hb3⟩ : ∃ b, b = bs (atS rs1 num) := ⟨_, rfl⟩
  rw [← hb] at hz1 HS ⊢
  rw [← hb2] at hz2 HS HD
  rw [← hb3] at HS ⊢
  have hs1 : b.size + (⟨#[40]⟩ : ByteArray).size ≤ 100 := by show _ + 1 ≤ 100; omega
  have hs2 : (b ++ (⟨#[40]⟩ : ByteArray)).size + b2.size ≤ 100 := by rw [ByteArray.size_append]; show _ + 1 + _ ≤ 100; omega
  have hs3 : (b ++ (⟨#[40]⟩ : ByteArray) ++ b2).size + (⟨#[41]⟩ : ByteArray).size ≤ 100 := by rw [ByteArray.size_append, ByteArray.size_append]; show _ + 1 + _ + 1 ≤ 100; omega
  clear hb hb2 hb3 hr hz1 hz2 hl
  go_enter Tryd.func39, Tryd.ntmps39
  go_wp2_with fail
  refine (HD.out _).mono ?_
  rintro e w2 ⟨rfl, rfl⟩
  go_wp2_with fail
  go_ret
  exact ⟨by rw [HS.out]; rfl, (by repeat (first | with_reducible exact Below.refl _ _ | with_reducible refine below_drewN ?_ _ | ((with_reducible refine Below.setCell ?_ ?hq _); case hq => (first | (simp; done) | (simp; omega))) | ((with_reducible refine Below.alloc ?_ ?hq _); case hq => (first | (simp; done) | (simp; omega)))))⟩
end Go.Proofs.YtlfnddmncbkjaacDoor.W
