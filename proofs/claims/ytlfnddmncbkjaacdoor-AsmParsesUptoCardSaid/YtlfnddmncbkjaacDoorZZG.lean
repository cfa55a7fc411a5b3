/- The document's reader, walked: a number. -/
import Derived.Test.YtlfnddmncbkjaacDoorZWAsm15
import Derived.Test.YtlfnddmncbkjaacDoorZZF
import Derived.Deep.CutBlock
namespace Go.Proofs.YtlfnddmncbkjaacDoor.W
set_option linter.unusedVariables false
set_option linter.unusedSimpArgs false
open Go.RowKit Fb
/-- the reader's box, not failed -/
def RdK (w : World) (b : Nat) (l : List UInt8) (k : Nat) : Prop := (w.cell? ⟨b, 0, none⟩ = some (.string (bs l)) ∧ w.cell? ⟨b, 1, none⟩ = some (.int .i64 k) ∧ w.cell? ⟨b, 2, none⟩ = some (.bool false)) ∧ (w.frozen? ⟨b, 0, none⟩ = false ∧ w.frozen? ⟨b, 1, none⟩ = false ∧ w.frozen? ⟨b, 2, none⟩ = false)
theorem RdK.rd {w : World} {b : Nat} {l : List UInt8} {k : Nat} (h : RdK w b l k) (hk : k ≤ l.length) : Rd w b l (some (l.drop k)) := ⟨k, false, hk, h.1, h.2, rfl⟩
theorem RdK.drewN {w : World} {b : Nat} {l : List UInt8} {k : Nat} (h : RdK w b l k) (n : Nat) : RdK (w.drewN n) b l k := by
  obtain ⟨⟨c0, c1, c2⟩, ⟨f0, f1, f2⟩⟩ := h
  exact ⟨⟨by simpa using c0, by simpa using c1, by simpa using c2⟩, ⟨by simpa using f0, by simpa using f1, by simpa using f2⟩⟩
theorem RdK.to {w : World} {b : Nat} {l : List UInt8} {k : Nat} (h : RdK w b l k) {n : Int} (j : Nat) (hn : n = (j : Int)) : RdK (w.setCell ⟨b, 1, none⟩ (.int .i64 n)) b l j := by
  obtain ⟨⟨c0, c1, c2⟩, ⟨f0, f1, f2⟩⟩ := h
  subst hn
  exact ⟨⟨by go_cell, by go_cell, by go_cell⟩, ⟨by simpa using f0, by simpa using f1, by simpa using f2⟩⟩
set_option maxRecDepth 100000 in
set_option maxHeartbeats 1600000 in
theorem number_bad (b : Nat) (l : List UInt8) (hl : l.length ≤ 4294967296) (w : World) (h : Rd w b l none) :
    Calls Tryd.prog 32 #[.pointer (some ⟨b, 0, none⟩)] w fun e w' => e = .returned (.int .i64 0) ∧ Rd w' b l none ∧ Below b w w' := by
  have HH := Lib.hid h
  obtain ⟨k, bad, hk, ⟨c0, c1, c2⟩, ⟨f0, f1, f2⟩, e⟩ := h
  cases bad with
  | false => cases e
  | true =>
    clear e
    have hk1 : (k : Int) ≤ 4294967296 := by omega
    clear hk hl
    go_enter Tryd.func32, Tryd.ntmps32
    go_wp2_with fail
    go_quiet (fail)
    go_wp2_with fail
    go_loopg [] 0 (fun gf wx => gf = 0 ∧ Hid (∃ n, wx = w.drewN n))
    case atStart => exact ⟨rfl, Lib.hid ⟨_, rfl⟩⟩
    case round =>
      obtain ⟨rfl, H⟩ := hrel
      obtain ⟨n, rfl⟩ := H.out
      go_wp2_with fail
      go_quiet (fail)
      go_wp2_with fail
      refine bodyPost_ret (results_tmp (by rfl) _ _ _) rfl ⟨rfl, Rd.fail (st := none) ?_, Below.setCell (B := b) (p := ⟨b, 2, none⟩) ?_ (Nat.le_refl b) _⟩
      · first | exact (HH.out.drewN _).drewN _ | exact HH.out.drewN _
      · first | exact (below_drewN _).trans (below_drewN _) | exact below_drewN _
set_option maxRecDepth 100000 in
set_option maxHeartbeats 3200000 in
theorem number_ok (b : Nat) (l : List UInt8) (hl : l.length ≤ 4294967296) (w : World) (k : Nat) (hk : k ≤ l.length) (h : RdK w b l k) :
    Calls Tryd.prog 32 #[.pointer (some ⟨b, 0, none⟩)] w fun e w' => e = .returned (.int .i64 (numO (some (l.drop k))).1) ∧ Rd w' b l (numO (some (l.drop k))).2 ∧ Below b w w' := by
  have HH := Lib.hid h
  obtain ⟨⟨c0, c1, c2⟩, ⟨f0, f1, f2⟩⟩ := h
  obtain ⟨bel, hbel⟩ : ∃ x, x = decide ((l.drop k).head? = some 45) := ⟨_, rfl⟩
  obtain ⟨k0, hk0⟩ : ∃ x, x = if bel = true then k + 1 else k := ⟨_, rfl⟩
  have HO := Lib.hid (num_by l k k0 bel hbel hk0)
  generalize numO (some (l.drop k)) = o at *
  have hh : (l.drop k).head? = l[k]? := by rw [List.head?_drop]
  rw [hh] at hbel
  have hz : (bs l).size = l.length := bs_size l
  have HBK := Lib.hid (And.intro hbel hk0)
  have HKL := Lib.hid hk
  have HLL := Lib.hid hl
  clear hbel hk0 hh hk hl
  go_enter Tryd.func32, Tryd.ntmps32
  go_wp2_with fail
  go_cut [3] from 6 to 34 (fun t3 wx => t3 = .bool bel ∧ Hid (k0 ≤ l.length ∧ RdK wx b l k ∧ Below b w wx))
  case first =>
    by_cases hlt : k < l.length
    · have hd : decide ((k : Int) < ((bs l).size : Int)) = true := decide_eq_true (by omega)
      have hi0 : (0 : Int) ≤ (k : Int) := by omega
      have hi1 : (k : Int) < ((bs l).size : Int) := by omega
      have hi2 : k < (bs l).size := by omega
      have hi3 : (k : Int).toNat = k := by omega
      obtain ⟨c, hc⟩ : ∃ c, l[k]? = some c := ⟨_, List.getElem?_eq_getElem hlt⟩
      have hcc := bs_at hi2 hc
      by_cases h45 : c = 45
      · have hbel : bel = true := by rw [HBK.out.1, hc, h45]; rfl
        have hk0 : k0 = k + 1 := by rw [HBK.out.2, hbel]; rfl
        have HX := Lib.hid (show k0 ≤ l.length by omega)
        have h1 : (((c.toNat : Nat) : Int) == 45) = true := by rw [h45]; rfl
        have h2 : c.toNat = 45 := by rw [h45]; rfl
        subst hbel
        clear hc hz hlt hk0 h45
        go_quiet (fail)
        go_wp2_with fail
        go_meet
        case rel => exact ⟨rfl, Lib.hid ⟨HX.out, HH.out.drewN _, below_drewN _⟩⟩
      · have hbel : bel = false := by
          rw [HBK.out.1, hc]
          exact decide_eq_false (fun e => h45 (by injection e))
        have hk0 : k0 = k := by rw [HBK.out.2, hbel]; rfl
        have hne : (((c.toNat : Nat) : Int) == 45) = false := by
          rw [beq_eq_false_iff_ne]
          intro e
          exact h45 (UInt8.toNat_inj.1 (by simp; omega))
        subst hk0 hbel
        clear hc hz hlt h45
        go_quiet (fail)
        go_wp2_with fail
        go_meet
        case rel => exact ⟨rfl, Lib.hid ⟨HKL.out, HH.out.drewN _, below_drewN _⟩⟩
    · have hd : decide ((k : Int) < ((bs l).size : Int)) = false := decide_eq_false (by omega)
      have hbel : bel = false := by
        rw [HBK.out.1, List.getElem?_eq_none (by omega)]
        rfl
      have hk0 : k0 = k := by rw [HBK.out.2, hbel]; rfl
      have hd' : decide (k < (bs l).size) = false := decide_eq_false (by omega)
      subst hk0 hbel
      clear hz hlt
      go_quiet (fail)
      go_wp2_with fail
      go_meet
      case rel => exact ⟨rfl, Lib.hid ⟨HKL.out, HH.out.drewN _, below_drewN _⟩⟩
  case rest =>
    obtain ⟨rfl, H⟩ := hcut
    clear HH c0 c1 c2 f0 f1 f2
    obtain ⟨hk0, ⟨⟨c0, c1, c2⟩, f0, f1, f2⟩, hb0⟩ := H.out
    have HK0 := Lib.hid hk0
    clear hb0 hk0
    obtain ⟨wd, rfl⟩ : ∃ x : World, x = wc := ⟨_, rfl⟩
    go_upto_if 35 with fail
    go_cut [] from 36 to 42 (fun wx => Hid (RdK wx b l k0 ∧ Below b w wx))
    case first =>
      cases bel with
      | true =>
        have hk0 : k0 = k + 1 := by rw [HBK.out.2]; rfl
        have hw : IntKind.i64.wrap ((k : Int) + 1) = (k : Int) + 1 := by have := HLL.out; have := HK0.out; simp (disch := omega) only [IntWalk.i64_in]
        have HKK := Lib.hid (show (k : Int) + 1 = ((k0 : Nat) : Int) by omega)
        clear hk0 hz
        go_wp2_with fail
        go_meet
        case rel => exact Lib.hid ⟨RdK.to H.out.2.1 k0 HKK.out, H.out.2.2.setCell (p := ⟨b, 1, none⟩) (Nat.le_refl b) _⟩
      | false =>
        have hk0 : k0 = k := by rw [HBK.out.2]; rfl
        subst hk0
        go_wp2_with fail
        go_meet
        case rel => exact Lib.hid ⟨H.out.2.1, H.out.2.2⟩
    case rest =>
    clear H c0 c1 c2 f0 f1 f2 HBK
    have HD := Lib.hid (fun j (h : j < (digs 10 (l.drop k0)).length) => digs_get h)
    have HS := Lib.hid (digs_stop 10 (l.drop k0))
    have HV := Lib.hid (digs_small (l.drop k0))
    have HL := Lib.hid (digs_le 10 (l.drop k0))
    have HA := Lib.hid (congrArg List.length (digs_app 10 (l.drop k0)))
    generalize digs 10 (l.drop k0) = d at *
    obtain ⟨wn, rfl⟩ : ∃ x : World, x = wc := ⟨_, rfl⟩
    obtain ⟨⟨⟨c0, c1, c2⟩, f0, f1, f2⟩, -⟩ := hcut.out
    clear hz
    go_upto_block 0 with fail
    go_cut [5] from 47 to 117 (fun t5 wx => t5 = .int .i64 (valD 0 d : Int) ∧ Hid (RdK wx b l (k0 + d.length) ∧ Below b w wx))
    case first =>
      clear c0 c1 c2 f0 f1 f2
      go_wp2_with fail
      go_loopg [5] d.length (fun gf s5 wx => ∃ j : Nat, s5 = .int .i64 (valD 0 (d.take j) : Int) ∧ Hid (gf + j = d.length ∧ RdK wx b l (k0 + j) ∧ Below b w wx))
      case atStart => exact ⟨0, rfl, Lib.hid ⟨rfl, hcut.out.1, hcut.out.2⟩⟩
      case round =>
        obtain ⟨j, rfl, K⟩ := hrel
        obtain ⟨K0, hK0⟩ : ∃ x, x = k0 + j := ⟨_, rfl⟩
        obtain ⟨hgj, HRK, hbx⟩ := K.out
        rw [← hK0] at HRK
        have HR := Lib.hid HRK
        have HBX := Lib.hid hbx
        have HA0 := HA.out
        rw [List.length_append, List.length_drop, List.length_drop] at HA0
        have hn10 := HV.out j
        have hl := HLL.out
        have hd10 := HL.out
        have hkl := HK0.out
        obtain ⟨⟨c0, c1, c2⟩, f0, f1, f2⟩ := HRK
        have hi0 : (0 : Int) ≤ (K0 : Int) := by omega
        have hi3 : (K0 : Int).toNat = K0 := by omega
        have hw1 : IntKind.i64.wrap ((K0 : Int) - (k0 : Int)) = (j : Int) := by
          rw [show (K0 : Int) - (k0 : Int) = (j : Int) by omega]
          simp (disch := omega) only [IntWalk.i64_in]
        by_cases hj : j < d.length
        · obtain ⟨c, hc, ⟨hc1, hc2⟩, htk⟩ := HD.out j hj
          rw [List.getElem?_drop, ← hK0] at hc
          have hlt : K0 < l.length := (List.getElem?_eq_some_iff.1 hc).1
          have hi2 : K0 < (bs l).size := by rw [bs_size]; exact hlt
          have hi1 : (K0 : Int) < ((bs l).size : Int) := by omega
          have hd : decide ((K0 : Int) < ((bs l).size : Int)) = true := decide_eq_true hi1
          have hcc := bs_at hi2 hc
          have HVN := Lib.hid (show ((valD 0 (d.take (j + 1)) : Nat) : Int) = 10 * ((valD 0 (d.take j) : Nat) : Int) + ((c.toNat : Int) - 48) by rw [htk, valD_app]; omega)
          obtain ⟨N, hN⟩ : ∃ N : Nat, N = valD 0 (d.take j) := ⟨_, rfl⟩
          rw [← hN] at HVN hn10
          rw [← hN]
          have hge : decide ((48 : Int) ≤ (c.toNat : Int)) = true := decide_eq_true (by omega)
          have hge' : (48 : Int) ≤ (c.toNat : Int) := by omega
          have hle : decide ((c.toNat : Int) ≤ 57) = true := decide_eq_true (by omega)
          have hle' : (c.toNat : Int) ≤ 57 := by omega
          have hj10 : decide ((j : Int) < 10) = true := decide_eq_true (by omega)
          have hj10' : (j : Int) < 10 := by omega
          have hw2 : IntKind.i64.wrap (10 * (N : Int)) = 10 * (N : Int) := by simp (disch := omega) only [IntWalk.i64_in]
          have hw3 : IntKind.u8.wrap ((c.toNat : Int) - 48) = (c.toNat : Int) - 48 := by simp [IntKind.wrap, IntKind.bits, IntKind.signed]; omega
          have hw4 : IntKind.i64.wrap ((c.toNat : Int) - 48) = (c.toNat : Int) - 48 := by simp (disch := omega) only [IntWalk.i64_in]
          have hw5 : IntKind.i64.wrap (10 * (N : Int) + ((c.toNat : Int) - 48)) = 10 * (N : Int) + ((c.toNat : Int) - 48) := by simp (disch := omega) only [IntWalk.i64_in]
          have hw6 : IntKind.i64.wrap ((K0 : Int) + 1) = (K0 : Int) + 1 := by simp (disch := omega) only [IntWalk.i64_in]
          have HE := Lib.hid (show (K0 : Int) + 1 = ((k0 + (j + 1) : Nat) : Int) by omega)
          have HGJ := Lib.hid (And.intro hgj hj)
          clear K HA0 hl hd10 hkl hgj hj hc hlt htk hN hn10 hc1 hc2 hK0 hbx
          go_wp2_with fail
          go_quiet (fail)
          go_wp2_with fail
          go_quiet (fail)
          go_wp2_with fail
          go_roundg (gk - 1)
          case measure => have := HGJ.out; omega
          case rel => exact ⟨j + 1, by rw [HVN.out], Lib.hid ⟨by have := HGJ.out; omega, RdK.to (HR.out.drewN _) (k0 + (j + 1)) HE.out, (HBX.out.trans (below_drewN _)).setCell (p := ⟨b, 1, none⟩) (Nat.le_refl b) _⟩⟩
        · have hjd : j = d.length := by omega
          have HEND := Lib.hid (show ∀ n, RdK (wr.drewN n) b l (k0 + d.length) ∧ Below b w (wr.drewN n) from fun n => by
            rw [← hjd, ← hK0]
            exact ⟨HR.out.drewN n, HBX.out.trans (below_drewN n)⟩)
          have htake : d.take j = d := by rw [hjd, List.take_length]
          rw [htake]
          by_cases hlt : K0 < l.length
          · obtain ⟨c, hc⟩ : ∃ c, l[K0]? = some c := ⟨_, List.getElem?_eq_getElem hlt⟩
            have hi2 : K0 < (bs l).size := by rw [bs_size]; exact hlt
            have hi1 : (K0 : Int) < ((bs l).size : Int) := by omega
            have hd : decide ((K0 : Int) < ((bs l).size : Int)) = true := decide_eq_true hi1
            have hcc := bs_at hi2 hc
            have hst : d.length = 10 ∨ isDig c = false := by
              rcases HS.out with h | h
              · exact Or.inl h
              · refine Or.inr (h c ?_)
                rw [List.head?_drop, List.getElem?_drop, ← hjd, ← hK0]
                exact hc
            by_cases h48 : 48 ≤ c.toNat
            · have hge : decide ((48 : Int) ≤ (c.toNat : Int)) = true := decide_eq_true (by omega)
              have hge' : (48 : Int) ≤ (c.toNat : Int) := by omega
              by_cases h57 : c.toNat ≤ 57
              · have hle : decide ((c.toNat : Int) ≤ 57) = true := decide_eq_true (by omega)
                have hle' : (c.toNat : Int) ≤ 57 := by omega
                have hj10 : (j : Int) = 10 := by
                  rcases hst with h | h
                  · omega
                  · exact absurd (decide_eq_true (⟨h48, h57⟩ : 48 ≤ c.toNat ∧ c.toNat ≤ 57)) (by unfold isDig at h; rw [h]; decide)
                rw [hj10] at hw1
                clear K HA0 hl hd10 hkl hgj hj hc hlt hn10 hK0 hbx hst hjd htake h48 h57 hj10
                go_wp2_with fail
                go_quiet (fail)
                go_wp2_with fail
                go_meet
                case rel => exact ⟨rfl, Lib.hid (HEND.out _)⟩
              · have hle : decide ((c.toNat : Int) ≤ 57) = false := decide_eq_false (by omega)
                clear K HA0 hl hd10 hkl hgj hj hc hlt hn10 hK0 hbx hst hjd htake h48 h57
                go_wp2_with fail
                go_quiet (fail)
                go_wp2_with fail
                go_meet
                case rel => exact ⟨rfl, Lib.hid (HEND.out _)⟩
            · have hge : decide ((48 : Int) ≤ (c.toNat : Int)) = false := decide_eq_false (by omega)
              clear K HA0 hl hd10 hkl hgj hj hc hlt hn10 hK0 hbx hst hjd htake h48
              go_wp2_with fail
              go_quiet (fail)
              go_wp2_with fail
              go_meet
              case rel => exact ⟨rfl, Lib.hid (HEND.out _)⟩
          · have hd : decide ((K0 : Int) < ((bs l).size : Int)) = false := decide_eq_false (by rw [bs_size]; omega)
            have hd' : decide (K0 < (bs l).size) = false := decide_eq_false (by rw [bs_size]; omega)
            clear K HA0 hl hd10 hkl hgj hj hlt hn10 hK0 hbx hjd htake
            go_wp2_with fail
            go_quiet (fail)
            go_wp2_with fail
            go_meet
            case rel => exact ⟨rfl, Lib.hid (HEND.out _)⟩
    case rest =>
      obtain ⟨rfl, H⟩ := hcut
      clear c0 c1 c2 f0 f1 f2
      obtain ⟨wn2, rfl⟩ : ∃ x : World, x = wc := ⟨_, rfl⟩
      have hd10 := HL.out
      have hn10 := HV.out d.length
      rw [List.take_length] at hn10
      have hA0 := HA.out
      rw [List.length_append, List.length_drop, List.length_drop] at hA0
      have hl := HLL.out
      have hk := HK0.out
      have HRD := Lib.hid (RdK.rd H.out.1 (by omega))
      have HBX := Lib.hid H.out.2
      obtain ⟨⟨⟨c0, c1, c2⟩, f0, f1, f2⟩, -⟩ := H.out
      obtain ⟨K1, hK1⟩ : ∃ x, x = k0 + d.length := ⟨_, rfl⟩
      rw [← hK1] at c1 HRD HO
      obtain ⟨N, hN⟩ : ∃ N : Nat, N = valD 0 d := ⟨_, rfl⟩
      rw [← hN] at HO hn10
      rw [← hN]
      have hwn : IntKind.i64.wrap (0 - (N : Int)) = -(N : Int) := by
        rw [Int.zero_sub]
        simp (disch := omega) only [IntWalk.i64_in]
      have hwn2 : IntKind.i64.wrap (-(N : Int)) = -(N : Int) := by simp (disch := omega) only [IntWalk.i64_in]
      by_cases hd0 : d = []
      · have hO : o = (0, none) := by rw [HO.out, if_pos (Or.inl hd0)]
        subst hO
        have hl0 : d.length = 0 := by rw [hd0]; rfl
        obtain rfl : K1 = k0 := by omega
        clear hK1 hd0 hl0 hA0 hl hk hd10 hn10 hN H hcut HO HD HS HV
        go_wp2_with fail
        refine bodyPost_ret (results_tmp (by rfl) _ _ _) rfl ⟨rfl, Rd.fail (st := some (l.drop K1)) ?_, Below.setCell (B := b) (p := ⟨b, 2, none⟩) ?_ (Nat.le_refl b) _⟩
        · exact HRD.out
        · exact HBX.out
      · have hlen : 0 < d.length := List.length_pos_iff.2 hd0
        obtain ⟨c, hc, ⟨hc1, hc2⟩, htk⟩ := HD.out 0 hlen
        rw [List.getElem?_drop, Nat.add_zero] at hc
        have hhead : d.head? = some c := by
          rw [← List.take_append_drop 1 d, show d.take 1 = [c] by simpa using htk]
          rfl
        rw [hhead] at HO
        have hlt : k0 < l.length := (List.getElem?_eq_some_iff.1 hc).1
        have hi2 : k0 < (bs l).size := by rw [bs_size]; exact hlt
        have hi1 : (k0 : Int) < ((bs l).size : Int) := by omega
        have hi0 : (0 : Int) ≤ (k0 : Int) := by omega
        have hi3 : (k0 : Int).toNat = k0 := by omega
        have hcc := bs_at hi2 hc
        have hneq : ((K1 : Int) == (k0 : Int)) = false := by rw [beq_eq_false_iff_ne]; omega
        have hneq' : ¬ K1 = k0 := by omega
        have hw1 : IntKind.i64.wrap ((k0 : Int) + 1) = (k0 : Int) + 1 := by simp (disch := omega) only [IntWalk.i64_in]
        by_cases h48 : c = 48
        · have hc48 : (((c.toNat : Nat) : Int) == 48) = true := by rw [h48]; rfl
          by_cases h1 : 1 < d.length
          · have hO : o = (0, none) := by rw [HO.out, if_pos (Or.inr ⟨by rw [h48], Or.inl h1⟩)]
            subst hO
            have hgt : decide ((k0 : Int) + 1 < (K1 : Int)) = true := decide_eq_true (by omega)
            clear hK1 hd0 hA0 hl hk hd10 hn10 hN H hcut HO HD HS HV h48 h1 hlt hc htk hhead hlen hc1 hc2
            go_wp2_with fail
            refine bodyPost_ret (results_tmp (by rfl) _ _ _) rfl ⟨rfl, Rd.fail (st := some (l.drop K1)) ?_, Below.setCell (B := b) (p := ⟨b, 2, none⟩) ?_ (Nat.le_refl b) _⟩
            · exact HRD.out
            · exact HBX.out
          · have hgt : decide ((k0 : Int) + 1 < (K1 : Int)) = false := decide_eq_false (by omega)
            cases bel with
            | true =>
              have hO : o = (0, none) := by rw [HO.out, if_pos (Or.inr ⟨by rw [h48], Or.inr rfl⟩)]
              subst hO
              clear hK1 hd0 hA0 hl hk hd10 hn10 hN H hcut HO HD HS HV h48 h1 hlt hc htk hhead hlen hc1 hc2
              go_wp2_with fail
              refine bodyPost_ret (results_tmp (by rfl) _ _ _) rfl ⟨rfl, Rd.fail (st := some (l.drop K1)) ?_, Below.setCell (B := b) (p := ⟨b, 2, none⟩) ?_ (Nat.le_refl b) _⟩
              · exact HRD.out
              · exact HBX.out
            | false =>
              have hO : o = ((N : Int), some (l.drop K1)) := by
                rw [HO.out, if_neg]
                · rfl
                · rintro (e | ⟨_, e | e⟩)
                  · exact hd0 e
                  · exact h1 e
                  · cases e
              subst hO
              clear hK1 hd0 hA0 hl hk hd10 hn10 hN H hcut HO HD HS HV h48 h1 hlt hc htk hhead hlen hc1 hc2
              go_wp2_with fail
              refine bodyPost_ret (results_tmp (by rfl) _ _ _) rfl ⟨rfl, ?_, ?_⟩
              · exact HRD.out
              · exact HBX.out
        · have hc48 : (((c.toNat : Nat) : Int) == 48) = false := by
            rw [beq_eq_false_iff_ne]
            intro e
            exact h48 (UInt8.toNat_inj.1 (by simp; omega))
          have hO : o = (if bel = true then -(N : Int) else (N : Int), some (l.drop K1)) := by
            rw [HO.out, if_neg]
            rintro (e | ⟨e, _⟩)
            · exact hd0 e
            · exact h48 (by injection e)
          subst hO
          clear hK1 hd0 hA0 hl hk hd10 hn10 hN H hcut HO HD HS HV h48 hlt hc htk hhead hlen hc1 hc2
          cases bel with
          | true =>
            go_wp2_with fail
            refine bodyPost_ret (results_tmp (by rfl) _ _ _) rfl ⟨rfl, ?_, ?_⟩
            · exact HRD.out
            · exact HBX.out
          | false =>
            go_wp2_with fail
            refine bodyPost_ret (results_tmp (by rfl) _ _ _) rfl ⟨rfl, ?_, ?_⟩
            · exact HRD.out
            · exact HBX.out
end Go.Proofs.YtlfnddmncbkjaacDoor.W

/- The document's reader, walked: a register, a place. -/
namespace Go.Proofs.YtlfnddmncbkjaacDoor.W
set_option linter.unusedVariables false
set_option linter.unusedSimpArgs false
open Go.RowKit Fb
theorem number_any (b : Nat) (l : List UInt8) (st : Option (List UInt8)) (hl : l.length ≤ 4294967296) (w : World) (h : Rd w b l st) :
    Calls Tryd.prog 32 #[.pointer (some ⟨b, 0, none⟩)] w fun e w' => e = .returned (.int .i64 (numO st).1) ∧ Rd w' b l (numO st).2 ∧ Below b w w' := by
  cases st with
  | none => exact number_bad b l hl w h
  | some r =>
    obtain ⟨k, bad, hk, hc, hf, e⟩ := h
    cases bad with
    | true => cases e
    | false =>
      injection e with e
      subst e
      exact number_ok b l hl w k hk ⟨hc, hf⟩
set_option maxRecDepth 100000 in
theorem reg_any11 (b : Nat) (l : List UInt8) (st : Option (List UInt8)) (hl : l.length ≤ 4294967296) (w : World) (h : Rd w b l st) :
    Calls Tryd.prog 31 #[.pointer (some ⟨b, 0, none⟩)] w fun e w' => e = .returned (.int .i64 (regO st).1) ∧ Rd w' b l (regO st).2 ∧ Below b w w' := by
  have HE : Hid (Calls Tryd.prog 30 #[.pointer (some ⟨b, 0, none⟩), .string ⟨#[120]⟩] w fun e w' => e = .returned (.tuple #[]) ∧ Rd w' b l (eatO st [120]) ∧ Below b w w') := Lib.hid (eat_any b l [120] st hl (by decide) w h)
  have HN := Lib.hid (fun W st (h : Rd W b l st) => number_any b l st hl W h)
  unfold regO
  clear h
  go_enter Tryd.func31, Tryd.ntmps31
  go_wp2_with fail
  refine HE.out.mono ?_
  rintro e w2 ⟨rfl, hr, hb⟩
  have HR := Lib.hid hr
  have HB := Lib.hid hb
  clear hr hb
  go_wp2_with fail
  refine (HN.out w2 _ HR.out).mono ?_
  rintro e w3 ⟨rfl, hr, hb⟩
  have HR3 := Lib.hid hr
  have HB3 := Lib.hid hb
  clear hr hb
  go_wp2_with fail
  go_ret
  exact ⟨rfl, HR3.out, HB.out.trans HB3.out⟩
set_option maxRecDepth 100000 in
theorem place_any11 (b : Nat) (l : List UInt8) (st : Option (List UInt8)) (hl : l.length ≤ 4294967296) (w : World) (h : Rd w b l st) :
    Calls Tryd.prog 33 #[.pointer (some ⟨b, 0, none⟩)] w fun e w' => e = .returned (.int .i64 (placeO st).1) ∧ Rd w' b l (placeO st).2 ∧ Below b w w' := by
  have HE : Hid (Calls Tryd.prog 30 #[.pointer (some ⟨b, 0, none⟩), .string ⟨#[40]⟩] w fun e w' => e = .returned (.tuple #[]) ∧ Rd w' b l (eatO st [40]) ∧ Below b w w') := Lib.hid (eat_any b l [40] st hl (by decide) w h)
  have HF : Hid (∀ W st, Rd W b l st → Calls Tryd.prog 30 #[.pointer (some ⟨b, 0, none⟩), .string ⟨#[41]⟩] W fun e w' => e = .returned (.tuple #[]) ∧ Rd w' b l (eatO st [41]) ∧ Below b W w') := Lib.hid (fun W st h => eat_any b l [41] st hl (by decide) W h)
  have HN := Lib.hid (fun W st (h : Rd W b l st) => reg_any11 b l st hl W h)
  unfold placeO
  clear h
  go_enter Tryd.func33, Tryd.ntmps33
  go_wp2_with fail
  refine HE.out.mono ?_
  rintro e w2 ⟨rfl, hr, hb⟩
  have HR := Lib.hid hr
  have HB := Lib.hid hb
  clear hr hb
  go_wp2_with fail
  refine (HN.out w2 _ HR.out).mono ?_
  rintro e w3 ⟨rfl, hr, hb⟩
  have HR3 := Lib.hid hr
  have HB3 := Lib.hid (HB.out.trans hb)
  clear hr hb
  go_wp2_with fail
  refine (HF.out w3 _ HR3.out).mono ?_
  rintro e w4 ⟨rfl, hr, hb⟩
  have HR4 := Lib.hid hr
  have HB4 := Lib.hid (HB3.out.trans hb)
  clear hr hb
  go_wp2_with fail
  go_ret
  exact ⟨rfl, HR4.out, HB4.out⟩
end Go.Proofs.YtlfnddmncbkjaacDoor.W
