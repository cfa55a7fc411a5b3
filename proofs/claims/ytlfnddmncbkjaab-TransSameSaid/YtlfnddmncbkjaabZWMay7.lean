import Derived.Test.YtlfnddmncbkjaabZZC
import Derived.Test.YtlfnddmncbkjaabZMA
import Derived.Test.YtlfnddmncbkjaabZMB
set_option linter.unusedVariables false
set_option linter.unusedSimpArgs false
set_option maxRecDepth 100000
set_option maxHeartbeats 4000000
namespace Go.Proofs.Ytlfnddmncbkjaab.Fb
open Go.RowKit
def regsTo (q d a b : Int) (j : Nat) : Bool :=
  (decide (j < 1) || regOk (decide (q.tmod 2 = 1)) d) && (decide (j < 2) || regOk (decide ((q.tdiv 2).tmod 2 = 1)) a) && (decide (j < 3) || regOk (decide ((q.tdiv 4).tmod 2 = 1)) b)
theorem mayM_eq {m : MicD} {q : Int} (hq : namedI m.op = q) (h0 : ¬ q < 0) (h8 : ¬ (q < 8 ∧ ¬ m.n = 0)) : mayM m = regsTo q m.d m.a m.b 3 := by
  unfold mayM regsTo
  rw [hq]
  have e1 : decide (q < 0) = false := decide_eq_false h0
  have e2 : (decide (q < 8) && m.n != 0) = false := by
    cases h : (decide (q < 8) && m.n != 0)
    · rfl
    · simp at h; exact absurd h h8
  rw [e1, e2]
  simp
theorem mayM_no {m : MicD} {q : Int} (hq : namedI m.op = q) (h : q < 0 ∨ (q < 8 ∧ ¬ m.n = 0)) : mayM m = false := by
  unfold mayM
  rw [hq]
  rcases h with h | ⟨h, h2⟩
  · simp [h]
  · have : (decide (q < 8) && m.n != 0) = true := by simp [h, h2]
    rw [this]; simp
theorem named_in (op : Int) : namedI op = -1 ∨ namedI op = 0 ∨ namedI op = 7 ∨ namedI op = 8 ∨ namedI op = 9 ∨ namedI op = 10 ∨ namedI op = 11 ∨ namedI op = 14 := by
  by_cases h : (op = 1 ∨ op = 3) ∨ op = 2 ∨ op = 4 ∨ (op = 5 ∨ op = 6)
  · rcases h with (h | h) | h | h | (h | h) <;> subst h <;> decide
  · rw [namedI_k ⟨fun e => h (.inl e), fun e => h (.inr (.inl e)), fun e => h (.inr (.inr (.inl e))), fun e => h (.inr (.inr (.inr e)))⟩]
    unfold namedK
    generalize op - op.tmod 100 = c
    generalize op.tmod 100 = s
    by_cases c1 : c = 100
    · rw [if_pos c1]; split <;> simp
    rw [if_neg c1]
    by_cases c2 : c = 200
    · rw [if_pos c2]; split <;> simp
    rw [if_neg c2]
    by_cases c3 : c = 300
    · rw [if_pos c3]; split <;> simp
    rw [if_neg c3]
    by_cases c4 : c = 400
    · rw [if_pos c4]; split <;> simp
    rw [if_neg c4]
    by_cases c5 : c = 500
    · rw [if_pos c5]; split <;> simp
    rw [if_neg c5]
    by_cases c6 : c = 600
    · rw [if_pos c6]; split <;> simp
    rw [if_neg c6]; simp
end Go.Proofs.Ytlfnddmncbkjaab.Fb
namespace Go.Proofs.Ytlfnddmncbkjaab.W
open Go.RowKit Fb
theorem may7_any (v : Value) (l : List MicD) (w : World) (hv : Sl w v 5 l.length (l.flatMap mlist)) (hok : ∀ m ∈ l, m.Ok) :
    Calls Try.prog 31 #[v] w fun e w' => e = .returned (.bool (mayL l)) ∧ Below w.heap.size w w' := by
  obtain ⟨ao, cap, rfl, hc, hm, -, ho⟩ := hv.open (fun _ _ => rfl) (by omega)
  unfold maxLen at hm
  have HO := Lib.hid ho
  have HOK := Lib.hid hok
  clear hv ho hok
  by_cases h200 : 200 < l.length
  · have hM : mayL l = false := by unfold mayL; rw [decide_eq_false (by omega)]; rfl
    rw [hM]
    clear hM
    have k1 : (200 : Int) < (l.length : Int) := by omega
    go_enter Try.func31, Try.ntmps31
    go_wp2_with fail
    go_ret
    exact ⟨rfl, Below.refl _ _⟩
  have hM : mayL l = l.all mayM := by unfold mayL; rw [decide_eq_true (by omega)]; rfl
  rw [hM]
  clear hM
  have k1 : ¬ (200 : Int) < (l.length : Int) := by omega
  go_enter Try.func31, Try.ntmps31
  go_wp2_with fail
  go_loopw [3] (fun i wr => ∃ k : Nat, i = .int .i64 k ∧ k ≤ l.length ∧ Hid ((l.take k).all mayM = true ∧ Below w.heap.size w wr)) (fun i _ => l.length - (intOf i).toNat)
  case atStart => exact ⟨0, rfl, by omega, Lib.hid ⟨rfl, Below.refl _ _⟩⟩
  case round =>
    obtain ⟨k, rfl, hk, HR⟩ := hrel
    by_cases hlt : k < l.length
    · obtain ⟨b, off, rfl, hbl, hel⟩ := HO.out (by intro e; rw [e] at hlt; simp at hlt)
      have hat := (hel k hlt).of_lt HR.out.2 hbl
      have HAL : Hid ((l.take (k + 1)).all mayM = ((l.take k).all mayM && mayM l[k])) := Lib.hid (by rw [List.take_succ_eq_append_getElem hlt, List.all_append]; simp)
      have HNO : Hid (mayM l[k] = false → l.all mayM = false) := Lib.hid (fun e => List.all_eq_false.2 ⟨_, List.getElem_mem hlt, by rw [e]; simp⟩)
      have hmo := HOK.out l[k] (List.getElem_mem hlt)
      obtain ⟨m, hm2⟩ : ∃ m, m = l[k] := ⟨_, rfl⟩
      rw [← hm2] at hat HAL HNO hmo
      clear hm2 hel
      obtain ⟨op, rd, ra, rb, n⟩ := m
      have HNA := Lib.hid (fun W => named7_any op W hmo.op)
      obtain ⟨q, hq⟩ : ∃ q, namedI op = q := ⟨_, rfl⟩
      have hqi := named_in op
      rw [hq] at HNA hqi
      obtain ⟨B, hB⟩ : ∃ B : Bool, B = (decide (q < 0) || (decide (q < 8) && n != 0)) := ⟨_, rfl⟩
      have HBB := Lib.hid hB
      have HBT : Hid (B = true → l.all mayM = false) := Lib.hid (fun e => HNO.out (mayM_no hq (by rw [hB] at e; simpa using e)))
      have HBF : Hid (B = false → mayM ⟨op, rd, ra, rb, n⟩ = regsTo q rd ra rb 3) := Lib.hid (fun e => by
        rw [hB] at e
        simp only [Bool.or_eq_false_iff, decide_eq_false_iff_not] at e
        refine mayM_eq hq e.1 (fun h => ?_)
        have h2 : (decide (q < 8) && n != 0) = true := by simp [h.1, h.2]
        rw [h2] at e
        exact absurd e.2 (by simp))
      clear hB
      have e0 := hat.get (j := 0) (v := .int .i64 op) rfl
      have e1 := hat.get (j := 1) (v := .int .i64 rd) rfl
      have e2 := hat.get (j := 2) (v := .int .i64 ra) rfl
      have e3 := hat.get (j := 3) (v := .int .i64 rb) rfl
      have e4 := hat.get (j := 4) (v := .int .u32 n) rfl
      simp only [Nat.add_zero] at e0 e1 e2 e3 e4
      have i0 : (0 : Int) ≤ (k : Int) := by omega
      have i1 : (k : Int) < (l.length : Int) := by omega
      obtain ⟨w3, hw3⟩ : ∃ w3, w3 = wr.alloc (.cells #[.int .i64 op, .int .i64 rd, .int .i64 ra, .int .i64 rb, .int .u32 n] 133) := ⟨_, rfl⟩
      have hb3 : Below wr.heap.size wr w3 := by rw [hw3]; exact Fb.blw
      have hs3 : wr.heap.size < w3.heap.size := by rw [hw3]; simp
      have g0 : (w3).cell? ⟨wr.heap.size, 0, none⟩ = some (.int .i64 op) := by rw [hw3]; go_cell
      have g1 : (w3).cell? ⟨wr.heap.size, 1, none⟩ = some (.int .i64 rd) := by rw [hw3]; go_cell
      have g2 : (w3).cell? ⟨wr.heap.size, 2, none⟩ = some (.int .i64 ra) := by rw [hw3]; go_cell
      have g3 : (w3).cell? ⟨wr.heap.size, 3, none⟩ = some (.int .i64 rb) := by rw [hw3]; go_cell
      have g4 : (w3).cell? ⟨wr.heap.size, 4, none⟩ = some (.int .u32 n) := by rw [hw3]; go_cell
      have HB3 : Hid (Below w.heap.size w w3) := Lib.hid (HR.out.2.trans (hb3.mono HR.out.2.size))
      have hwr := HR.out.2.size
      have HALL := Lib.hid HR.out.1
      have HW3 := Lib.hid hw3
      clear hat hw3 hb3 HR hq hmo
      go_upto_region 7 with (fail)
      rw [← HW3.out]
      clear e0 e1 e2 e3 e4
      go_wp2_with fail
      refine (HNA.out w3).mono ?_
      rintro e w4 ⟨rfl, rfl⟩
      clear HNA
      go_upto_region 8 with (fail)
      go_cut [36] from 26 to 35 (fun s wx => s = .bool B ∧ wx = w4)
      case first =>
        by_cases hq0 : q < 0
        · have hq0' : decide (q < 0) = true := decide_eq_true hq0
          go_wp2_with fail
          go_meet
          case rel => exact ⟨by rw [HBB.out, hq0']; rfl, rfl⟩
        · have hq0' : decide (q < 0) = false := decide_eq_false hq0
          by_cases h8 : q < 8
          · have h8' : decide (q < 8) = true := decide_eq_true h8
            clear h8 hq0
            go_wp2_with fail
            go_meet
            case rel => exact ⟨by rw [HBB.out, hq0', h8']; simp, rfl⟩
          · have h8' : decide (q < 8) = false := decide_eq_false h8
            clear h8 hq0
            go_wp2_with fail
            go_meet
            case rel => exact ⟨by rw [HBB.out, hq0', h8']; simp, rfl⟩
      case rest =>
        obtain ⟨rfl, rfl⟩ := hcut
        cases B with
        | true =>
          have HF : Hid (l.all mayM = false) := Lib.hid (HBT.out rfl)
          clear HBT HBF HBB HNO
          go_wp2_with fail
          go_ret
          rw [HF.out]
          exact ⟨rfl, HB3.out⟩
        | false =>
          have HMM := Lib.hid (HBF.out rfl)
          clear HBT HBF HBB
          obtain ⟨w5, hw5⟩ : ∃ w5, w5 = wc.alloc (.cells #[.int .i64 rd, .int .i64 ra, .int .i64 rb] 3) := ⟨_, rfl⟩
          have hb5 : Below wc.heap.size wc w5 := by rw [hw5]; exact Fb.blw
          have r0 : (w5).cell? ⟨wc.heap.size, 0, none⟩ = some (.int .i64 rd) := by rw [hw5]; go_cell
          have r1 : (w5).cell? ⟨wc.heap.size, 1, none⟩ = some (.int .i64 ra) := by rw [hw5]; go_cell
          have r2 : (w5).cell? ⟨wc.heap.size, 2, none⟩ = some (.int .i64 rb) := by rw [hw5]; go_cell
          have HB5 : Hid (Below w.heap.size w w5) := Lib.hid (HB3.out.trans (hb5.mono (by have := HB3.out.size; omega)))
          have HW5 := Lib.hid hw5
          clear hw5 hb5
          go_upto_region 11 with (fail)
          rw [← HW5.out]
          clear g0 g1 g2 g3 g4
          go_wp2_with fail
          go_loopw [7, 8] (fun bt jv wx => ∃ j : Nat, jv = .int .i64 j ∧ j ≤ 3 ∧ bt = .int .i64 (if j = 0 then 1 else if j = 1 then 2 else if j = 2 then 4 else 8) ∧ wx = w5 ∧ Hid (regsTo q rd ra rb j = true)) (fun _ jv _ => 3 - (intOf jv).toNat)
          case atStart => exact ⟨0, rfl, by omega, rfl, rfl, Lib.hid (by simp [regsTo])⟩
          case round =>
            obtain ⟨j, rfl, hj, rfl, rfl, HP⟩ := hrel
            have hjc : j = 0 ∨ j = 1 ∨ j = 2 ∨ j = 3 := by omega
            rcases hjc with rfl | rfl | rfl | rfl
            · obtain ⟨hb, hhb⟩ : ∃ hb : Bool, hb = decide (q.tmod 2 = 1) := ⟨_, rfl⟩
              have HHB : Hid ((q.tmod 2 == 1) = hb) := Lib.hid (by rw [hhb]; rfl)
              obtain ⟨bd, hbd⟩ : ∃ bd : Bool, bd = !(regOk hb rd) := ⟨_, rfl⟩
              have HBD := Lib.hid hbd
              have HNX : Hid (bd = false → regsTo q rd ra rb 1 = true) := Lib.hid (fun e => by
                have h1 := HP.out
                have h2 : regOk hb rd = true := by rw [hbd] at e; simpa using e
                rw [hhb] at h2
                unfold regsTo at h1 ⊢
                simp at h1 ⊢
                simp [h1, h2])
              have HFL : Hid (bd = true → l.all mayM = false) := Lib.hid (fun e => HNO.out (by
                have h2 : regOk hb rd = false := by rw [hbd] at e; simpa using e
                rw [hhb] at h2
                rw [HMM.out]
                unfold regsTo
                simp [h2]))
              clear hhb hbd
              go_upto_region 17 with (fail)
              rw [HHB.out]
              go_cut [78] from 56 to 77 (fun s wx => s = .bool bd ∧ wx = wr)
              case first =>
                cases hb
                · by_cases c0 : rd = 0
                  · have z1 : (rd != 0) = false := by simp; omega
                    have z2 : decide (rd < 0) = false := by simp; omega
                    have z3 : decide (36 ≤ rd) = false := by simp; omega
                    have z4 : bd = false := by rw [HBD.out]; simp [regOk]; omega
                    clear HBD c0
                    go_wp2_with fail
                    go_meet
                    case rel => exact ⟨by rw [z4], rfl⟩
                  by_cases c1 : rd < 0
                  · have z1 : (rd != 0) = true := by simp; omega
                    have z2 : decide (rd < 0) = true := by simp; omega
                    have z3 : decide (36 ≤ rd) = false := by simp; omega
                    have z4 : bd = true := by rw [HBD.out]; simp [regOk]; omega
                    clear HBD c0 c1
                    go_wp2_with fail
                    go_meet
                    case rel => exact ⟨by rw [z4], rfl⟩
                  by_cases c2 : 36 ≤ rd
                  · have z1 : (rd != 0) = true := by simp; omega
                    have z2 : decide (rd < 0) = false := by simp; omega
                    have z3 : decide (36 ≤ rd) = true := by simp; omega
                    have z4 : bd = true := by rw [HBD.out]; simp [regOk]; omega
                    clear HBD c0 c1 c2
                    go_wp2_with fail
                    go_meet
                    case rel => exact ⟨by rw [z4], rfl⟩
                  have z1 : (rd != 0) = true := by simp; omega
                  have z2 : decide (rd < 0) = false := by simp; omega
                  have z3 : decide (36 ≤ rd) = false := by simp; omega
                  have z4 : bd = true := by rw [HBD.out]; simp [regOk]; omega
                  clear HBD c0 c1 c2
                  go_wp2_with fail
                  go_meet
                  case rel => exact ⟨by rw [z4], rfl⟩
                · by_cases c0 : rd = 0
                  · have z1 : (rd != 0) = false := by simp; omega
                    have z2 : decide (rd < 0) = false := by simp; omega
                    have z3 : decide (36 ≤ rd) = false := by simp; omega
                    have z4 : bd = false := by rw [HBD.out]; simp [regOk]; omega
                    clear HBD c0
                    go_wp2_with fail
                    go_meet
                    case rel => exact ⟨by rw [z4], rfl⟩
                  by_cases c1 : rd < 0
                  · have z1 : (rd != 0) = true := by simp; omega
                    have z2 : decide (rd < 0) = true := by simp; omega
                    have z3 : decide (36 ≤ rd) = false := by simp; omega
                    have z4 : bd = true := by rw [HBD.out]; simp [regOk]; omega
                    clear HBD c0 c1
                    go_wp2_with fail
                    go_meet
                    case rel => exact ⟨by rw [z4], rfl⟩
                  by_cases c2 : 36 ≤ rd
                  · have z1 : (rd != 0) = true := by simp; omega
                    have z2 : decide (rd < 0) = false := by simp; omega
                    have z3 : decide (36 ≤ rd) = true := by simp; omega
                    have z4 : bd = true := by rw [HBD.out]; simp [regOk]; omega
                    clear HBD c0 c1 c2
                    go_wp2_with fail
                    go_meet
                    case rel => exact ⟨by rw [z4], rfl⟩
                  have z1 : (rd != 0) = true := by simp; omega
                  have z2 : decide (rd < 0) = false := by simp; omega
                  have z3 : decide (36 ≤ rd) = false := by simp; omega
                  have z4 : bd = false := by rw [HBD.out]; simp [regOk]; omega
                  clear HBD c0 c1 c2
                  go_wp2_with fail
                  go_meet
                  case rel => exact ⟨by rw [z4], rfl⟩
              case rest =>
                obtain ⟨rfl, rfl⟩ := hcut
                cases bd with
                | true =>
                  have HF : Hid (l.all mayM = false) := Lib.hid (HFL.out rfl)
                  clear HFL HNX HBD HHB
                  go_wp2_with fail
                  go_ret
                  rw [HF.out]
                  exact ⟨rfl, HB5.out⟩
                | false =>
                  have HN2 := Lib.hid (HNX.out rfl)
                  clear HFL HNX HBD HHB
                  go_wp2_with fail
                  go_roundw
                  case rel => exact ⟨1, by simp, by omega, by simp, (by first | rfl | trivial), HN2⟩
                  case measure => simp [intOf]
            · obtain ⟨hb, hhb⟩ : ∃ hb : Bool, hb = decide ((q.tdiv 2).tmod 2 = 1) := ⟨_, rfl⟩
              have HHB : Hid (((q.tdiv 2).tmod 2 == 1) = hb) := Lib.hid (by rw [hhb]; rfl)
              obtain ⟨bd, hbd⟩ : ∃ bd : Bool, bd = !(regOk hb ra) := ⟨_, rfl⟩
              have HBD := Lib.hid hbd
              have HNX : Hid (bd = false → regsTo q rd ra rb 2 = true) := Lib.hid (fun e => by
                have h1 := HP.out
                have h2 : regOk hb ra = true := by rw [hbd] at e; simpa using e
                rw [hhb] at h2
                unfold regsTo at h1 ⊢
                simp at h1 ⊢
                simp [h1, h2])
              have HFL : Hid (bd = true → l.all mayM = false) := Lib.hid (fun e => HNO.out (by
                have h2 : regOk hb ra = false := by rw [hbd] at e; simpa using e
                rw [hhb] at h2
                rw [HMM.out]
                unfold regsTo
                simp [h2]))
              clear hhb hbd
              go_upto_region 17 with (fail)
              rw [HHB.out]
              go_cut [78] from 56 to 77 (fun s wx => s = .bool bd ∧ wx = wr)
              case first =>
                cases hb
                · by_cases c0 : ra = 0
                  · have z1 : (ra != 0) = false := by simp; omega
                    have z2 : decide (ra < 0) = false := by simp; omega
                    have z3 : decide (36 ≤ ra) = false := by simp; omega
                    have z4 : bd = false := by rw [HBD.out]; simp [regOk]; omega
                    clear HBD c0
                    go_wp2_with fail
                    go_meet
                    case rel => exact ⟨by rw [z4], rfl⟩
                  by_cases c1 : ra < 0
                  · have z1 : (ra != 0) = true := by simp; omega
                    have z2 : decide (ra < 0) = true := by simp; omega
                    have z3 : decide (36 ≤ ra) = false := by simp; omega
                    have z4 : bd = true := by rw [HBD.out]; simp [regOk]; omega
                    clear HBD c0 c1
                    go_wp2_with fail
                    go_meet
                    case rel => exact ⟨by rw [z4], rfl⟩
                  by_cases c2 : 36 ≤ ra
                  · have z1 : (ra != 0) = true := by simp; omega
                    have z2 : decide (ra < 0) = false := by simp; omega
                    have z3 : decide (36 ≤ ra) = true := by simp; omega
                    have z4 : bd = true := by rw [HBD.out]; simp [regOk]; omega
                    clear HBD c0 c1 c2
                    go_wp2_with fail
                    go_meet
                    case rel => exact ⟨by rw [z4], rfl⟩
                  have z1 : (ra != 0) = true := by simp; omega
                  have z2 : decide (ra < 0) = false := by simp; omega
                  have z3 : decide (36 ≤ ra) = false := by simp; omega
                  have z4 : bd = true := by rw [HBD.out]; simp [regOk]; omega
                  clear HBD c0 c1 c2
                  go_wp2_with fail
                  go_meet
                  case rel => exact ⟨by rw [z4], rfl⟩
                · by_cases c0 : ra = 0
                  · have z1 : (ra != 0) = false := by simp; omega
                    have z2 : decide (ra < 0) = false := by simp; omega
                    have z3 : decide (36 ≤ ra) = false := by simp; omega
                    have z4 : bd = false := by rw [HBD.out]; simp [regOk]; omega
                    clear HBD c0
                    go_wp2_with fail
                    go_meet
                    case rel => exact ⟨by rw [z4], rfl⟩
                  by_cases c1 : ra < 0
                  · have z1 : (ra != 0) = true := by simp; omega
                    have z2 : decide (ra < 0) = true := by simp; omega
                    have z3 : decide (36 ≤ ra) = false := by simp; omega
                    have z4 : bd = true := by rw [HBD.out]; simp [regOk]; omega
                    clear HBD c0 c1
                    go_wp2_with fail
                    go_meet
                    case rel => exact ⟨by rw [z4], rfl⟩
                  by_cases c2 : 36 ≤ ra
                  · have z1 : (ra != 0) = true := by simp; omega
                    have z2 : decide (ra < 0) = false := by simp; omega
                    have z3 : decide (36 ≤ ra) = true := by simp; omega
                    have z4 : bd = true := by rw [HBD.out]; simp [regOk]; omega
                    clear HBD c0 c1 c2
                    go_wp2_with fail
                    go_meet
                    case rel => exact ⟨by rw [z4], rfl⟩
                  have z1 : (ra != 0) = true := by simp; omega
                  have z2 : decide (ra < 0) = false := by simp; omega
                  have z3 : decide (36 ≤ ra) = false := by simp; omega
                  have z4 : bd = false := by rw [HBD.out]; simp [regOk]; omega
                  clear HBD c0 c1 c2
                  go_wp2_with fail
                  go_meet
                  case rel => exact ⟨by rw [z4], rfl⟩
              case rest =>
                obtain ⟨rfl, rfl⟩ := hcut
                cases bd with
                | true =>
                  have HF : Hid (l.all mayM = false) := Lib.hid (HFL.out rfl)
                  clear HFL HNX HBD HHB
                  go_wp2_with fail
                  go_ret
                  rw [HF.out]
                  exact ⟨rfl, HB5.out⟩
                | false =>
                  have HN2 := Lib.hid (HNX.out rfl)
                  clear HFL HNX HBD HHB
                  go_wp2_with fail
                  go_roundw
                  case rel => exact ⟨2, by simp, by omega, by simp, (by first | rfl | trivial), HN2⟩
                  case measure => simp [intOf]
            · obtain ⟨hb, hhb⟩ : ∃ hb : Bool, hb = decide ((q.tdiv 4).tmod 2 = 1) := ⟨_, rfl⟩
              have HHB : Hid (((q.tdiv 4).tmod 2 == 1) = hb) := Lib.hid (by rw [hhb]; rfl)
              obtain ⟨bd, hbd⟩ : ∃ bd : Bool, bd = !(regOk hb rb) := ⟨_, rfl⟩
              have HBD := Lib.hid hbd
              have HNX : Hid (bd = false → regsTo q rd ra rb 3 = true) := Lib.hid (fun e => by
                have h1 := HP.out
                have h2 : regOk hb rb = true := by rw [hbd] at e; simpa using e
                rw [hhb] at h2
                unfold regsTo at h1 ⊢
                simp at h1 ⊢
                simp [h1, h2])
              have HFL : Hid (bd = true → l.all mayM = false) := Lib.hid (fun e => HNO.out (by
                have h2 : regOk hb rb = false := by rw [hbd] at e; simpa using e
                rw [hhb] at h2
                rw [HMM.out]
                unfold regsTo
                simp [h2]))
              clear hhb hbd
              go_upto_region 17 with (fail)
              rw [HHB.out]
              go_cut [78] from 56 to 77 (fun s wx => s = .bool bd ∧ wx = wr)
              case first =>
                cases hb
                · by_cases c0 : rb = 0
                  · have z1 : (rb != 0) = false := by simp; omega
                    have z2 : decide (rb < 0) = false := by simp; omega
                    have z3 : decide (36 ≤ rb) = false := by simp; omega
                    have z4 : bd = false := by rw [HBD.out]; simp [regOk]; omega
                    clear HBD c0
                    go_wp2_with fail
                    go_meet
                    case rel => exact ⟨by rw [z4], rfl⟩
                  by_cases c1 : rb < 0
                  · have z1 : (rb != 0) = true := by simp; omega
                    have z2 : decide (rb < 0) = true := by simp; omega
                    have z3 : decide (36 ≤ rb) = false := by simp; omega
                    have z4 : bd = true := by rw [HBD.out]; simp [regOk]; omega
                    clear HBD c0 c1
                    go_wp2_with fail
                    go_meet
                    case rel => exact ⟨by rw [z4], rfl⟩
                  by_cases c2 : 36 ≤ rb
                  · have z1 : (rb != 0) = true := by simp; omega
                    have z2 : decide (rb < 0) = false := by simp; omega
                    have z3 : decide (36 ≤ rb) = true := by simp; omega
                    have z4 : bd = true := by rw [HBD.out]; simp [regOk]; omega
                    clear HBD c0 c1 c2
                    go_wp2_with fail
                    go_meet
                    case rel => exact ⟨by rw [z4], rfl⟩
                  have z1 : (rb != 0) = true := by simp; omega
                  have z2 : decide (rb < 0) = false := by simp; omega
                  have z3 : decide (36 ≤ rb) = false := by simp; omega
                  have z4 : bd = true := by rw [HBD.out]; simp [regOk]; omega
                  clear HBD c0 c1 c2
                  go_wp2_with fail
                  go_meet
                  case rel => exact ⟨by rw [z4], rfl⟩
                · by_cases c0 : rb = 0
                  · have z1 : (rb != 0) = false := by simp; omega
                    have z2 : decide (rb < 0) = false := by simp; omega
                    have z3 : decide (36 ≤ rb) = false := by simp; omega
                    have z4 : bd = false := by rw [HBD.out]; simp [regOk]; omega
                    clear HBD c0
                    go_wp2_with fail
                    go_meet
                    case rel => exact ⟨by rw [z4], rfl⟩
                  by_cases c1 : rb < 0
                  · have z1 : (rb != 0) = true := by simp; omega
                    have z2 : decide (rb < 0) = true := by simp; omega
                    have z3 : decide (36 ≤ rb) = false := by simp; omega
                    have z4 : bd = true := by rw [HBD.out]; simp [regOk]; omega
                    clear HBD c0 c1
                    go_wp2_with fail
                    go_meet
                    case rel => exact ⟨by rw [z4], rfl⟩
                  by_cases c2 : 36 ≤ rb
                  · have z1 : (rb != 0) = true := by simp; omega
                    have z2 : decide (rb < 0) = false := by simp; omega
                    have z3 : decide (36 ≤ rb) = true := by simp; omega
                    have z4 : bd = true := by rw [HBD.out]; simp [regOk]; omega
                    clear HBD c0 c1 c2
                    go_wp2_with fail
                    go_meet
                    case rel => exact ⟨by rw [z4], rfl⟩
                  have z1 : (rb != 0) = true := by simp; omega
                  have z2 : decide (rb < 0) = false := by simp; omega
                  have z3 : decide (36 ≤ rb) = false := by simp; omega
                  have z4 : bd = false := by rw [HBD.out]; simp [regOk]; omega
                  clear HBD c0 c1 c2
                  go_wp2_with fail
                  go_meet
                  case rel => exact ⟨by rw [z4], rfl⟩
              case rest =>
                obtain ⟨rfl, rfl⟩ := hcut
                cases bd with
                | true =>
                  have HF : Hid (l.all mayM = false) := Lib.hid (HFL.out rfl)
                  clear HFL HNX HBD HHB
                  go_wp2_with fail
                  go_ret
                  rw [HF.out]
                  exact ⟨rfl, HB5.out⟩
                | false =>
                  have HN2 := Lib.hid (HNX.out rfl)
                  clear HFL HNX HBD HHB
                  go_wp2_with fail
                  go_roundw
                  case rel => exact ⟨3, by simp, by omega, by simp, (by first | rfl | trivial), HN2⟩
                  case measure => simp [intOf]
            · have hmt : (l.take (k + 1)).all mayM = true := by rw [HAL.out, HALL.out, HMM.out, HP.out]; rfl
              have HT := Lib.hid hmt
              clear hmt HP
              go_wp2_with fail
              go_roundw
              case rel => exact ⟨k + 1, by simp, by omega, Lib.hid ⟨HT.out, HB5.out⟩⟩
              case measure => simp [intOf]; omega
    · obtain rfl : k = l.length := by omega
      have k2 : ¬ ((l.length : Int) < (l.length : Int)) := by omega
      have hall := HR.out.1
      rw [List.take_length] at hall
      have HA := Lib.hid hall
      clear hall
      go_wp2_with fail
      go_ret
      rw [HA.out]
      exact ⟨rfl, HR.out.2⟩
end Go.Proofs.Ytlfnddmncbkjaab.W
