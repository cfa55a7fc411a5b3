import Derived.Test.YtlfnddmncbkjaabZZT
import Derived.Test.YtlfnddmncbkjaabZWEncode2
import Derived.Test.YtlfnddmncbkjaabZMA
set_option linter.unusedVariables false
set_option linter.unusedSimpArgs false
set_option maxRecDepth 100000
set_option maxHeartbeats 4000000
namespace Go.Proofs.Ytlfnddmncbkjaab.Fb
theorem rowM_append (pc : Int) : ∀ (a b : List InsD) (j : Nat), rowM pc j (a ++ b) = rowM pc j a ++ rowM pc (j + a.length) b
  | [], b, j => by simp [rowM]
  | i :: r, b, j => by
    simp only [List.cons_append, rowM, List.length_cons]
    rw [rowM_append pc r b (j + 1), List.append_assoc, show j + 1 + r.length = j + (r.length + 1) by omega]
theorem rowM_snoc (pc : Int) (l : List InsD) {k : Nat} (hk : k < l.length) : rowM pc 0 (l.take (k + 1)) = rowM pc 0 (l.take k) ++ insM l[k] (Fb.u32 (pc + Fb.u32 (4 * (k : Int)))) := by
  rw [List.take_succ_eq_append_getElem hk, rowM_append]
  simp [rowM, List.length_take, Nat.min_eq_left (Nat.le_of_lt hk)]
end Go.Proofs.Ytlfnddmncbkjaab.Fb
namespace Go.Proofs.Ytlfnddmncbkjaab.W
open Go.RowKit Fb
theorem tmake_own (v : Value) (l : List InsD) (pc : Int) (w : World) (hv : BlockAt w v l) (hi : ∀ i ∈ l, I32 i.imm) :
    Calls Try.prog 30 #[.agg #[.int .u32 pc, v]] w fun e w' => (∃ v', e = .returned v' ∧ Sl w' v' 5 (mkM pc l).length ((mkM pc l).flatMap mlist) ∧ ∀ q, v'.ownBlock = some q → w.heap.size ≤ q ∧ q < w'.heap.size ∧ ∃ cs f, w'.heap[q]? = some (.cells cs 133 f)) ∧ Below w.heap.size w w' := by
  obtain ⟨ao, cap, rfl, hc, hm, -, ho⟩ := hv.open (fun _ _ => rfl) (by omega)
  unfold maxLen at hm
  have HO := Lib.hid ho
  have HI := Lib.hid hi
  obtain ⟨w1, hw1⟩ : ∃ w1, w1 = w.alloc (.cells #[.int .u32 pc, .slice ao l.length cap] 47) := ⟨_, rfl⟩
  have hb1 : Below w.heap.size w w1 := by rw [hw1]; exact Fb.blw
  have hs1 : w1.heap.size = w.heap.size + 1 := by rw [hw1]; simp
  have c0 : (w1).cell? ⟨w.heap.size, 0, none⟩ = some (.int .u32 pc) := by rw [hw1]; go_cell
  have c1 : (w1).cell? ⟨w.heap.size, 1, none⟩ = some (.slice ao l.length cap) := by rw [hw1]; go_cell
  have hblk : w1.heap[w.heap.size]? = some (.cells #[.int .u32 pc, .slice ao l.length cap] 47 (0, 0)) := by rw [hw1]; exact heap_alloc_new _ _
  have HBLK := Lib.hid hblk
  have HB1 := Lib.hid hb1
  have HW1 := Lib.hid hw1
  clear hw1 hb1 hv ho hi hblk
  by_cases h16 : 16 < l.length
  · have hM : mkM pc l = [] := by unfold mkM; rw [if_pos (.inl h16)]
    rw [hM]
    have k1 : (16 : Int) < (l.length : Int) := by omega
    go_enter Try.func30, Try.ntmps30
    go_upto_region 1 with (fail)
    rw [← HW1.out]
    go_wp2_with fail
    go_ret
    exact ⟨⟨_, rfl, Sl.nil _ _, (by intro q hq; cases hq)⟩, HB1.out⟩
  have k1 : ¬ (16 : Int) < (l.length : Int) := by omega
  obtain ⟨w2, hw2⟩ : ∃ w2, w2 = w1.alloc (.cells #[.slice none 0 0] 130) := ⟨_, rfl⟩
  have hb2 : Below w1.heap.size w1 w2 := by rw [hw2]; exact Fb.blw
  have hs2 : w2.heap.size = w1.heap.size + 1 := by rw [hw2]; simp
  have HMK : Hid (MkW (w.heap.size + 1) 133 w2 []) := Lib.hid (by rw [hw2, ← hs1]; exact MkW.init _ _ _)
  have d0 : (w2).cell? ⟨w.heap.size, 0, none⟩ = some (.int .u32 pc) := (hb2.cell (p := ⟨w.heap.size, 0, none⟩) ((show w.heap.size < w1.heap.size by omega))).trans c0
  have d1 : (w2).cell? ⟨w.heap.size, 1, none⟩ = some (.slice ao l.length cap) := (hb2.cell (p := ⟨w.heap.size, 1, none⟩) ((show w.heap.size < w1.heap.size by omega))).trans c1
  have HB2 : Hid (Below w.heap.size w w2) := Lib.hid (HB1.out.trans (hb2.mono (by omega)))
  have HBL2 : Hid (w2.heap[w.heap.size]? = some (.cells #[.int .u32 pc, .slice ao l.length cap] 47 (0, 0))) := Lib.hid ((hb2.block _ (by omega)).trans HBLK.out)
  have HW2 := Lib.hid hw2
  clear hw2 hb2
  go_enter Try.func30, Try.ntmps30
  go_upto_region 1 with (fail)
  rw [← HW1.out]
  go_upto_region 4 with (fail)
  rw [← HW2.out]
  clear c0 c1
  go_wp2_with fail
  go_loopw [17] (fun i wr => ∃ k : Nat, i = .int .i64 k ∧ k ≤ l.length ∧ Hid ((l.take k).all isS = true ∧ MkW (w.heap.size + 1) 133 wr (rowM pc 0 (l.take k)) ∧ Below w.heap.size w wr ∧ At wr w.heap.size 0 [.int .u32 pc, .slice ao l.length cap] ∧ w.heap.size + 2 ≤ wr.heap.size)) (fun i _ => l.length - (intOf i).toNat)
  case atStart => exact ⟨0, rfl, by omega, Lib.hid ⟨rfl, HMK.out, HB2.out, at_cons d0 (at_cons d1 at_nil), by omega⟩⟩
  case round =>
    obtain ⟨k, rfl, hk, HR⟩ := hrel
    by_cases hlt : k < l.length
    · obtain ⟨b, off, rfl, hbl, hel⟩ := HO.out (by intro e; rw [e] at hlt; simp at hlt)
      have hat := (hel k hlt).of_lt HR.out.2.2.1 hbl
      have HIM := Lib.hid (HI.out l[k] (List.getElem_mem hlt))
      have HSN := Lib.hid (rowM_snoc pc l hlt)
      have HAL : Hid ((l.take (k + 1)).all isS = ((l.take k).all isS && isS l[k])) := Lib.hid (by rw [List.take_succ_eq_append_getElem hlt, List.all_append]; simp)
      have HMEM := Lib.hid (List.getElem_mem hlt)
      obtain ⟨i, hi⟩ : ∃ i, i = l[k] := ⟨_, rfl⟩
      rw [← hi] at hat HIM HSN HAL HMEM
      clear hi hel
      obtain ⟨op, rd, rs1, rs2, imm⟩ := i
      have e0 := hat.get (j := 0) (v := .int .i64 op) rfl
      have e1 := hat.get (j := 1) (v := .int .i64 rd) rfl
      have e2 := hat.get (j := 2) (v := .int .i64 rs1) rfl
      have e3 := hat.get (j := 3) (v := .int .i64 rs2) rfl
      have e4 := hat.get (j := 4) (v := .int .i32 imm) rfl
      simp only [Nat.add_zero] at e0 e1 e2 e3 e4
      have i0 : (0 : Int) ≤ (k : Int) := by omega
      have i1 : (k : Int) < (l.length : Int) := by omega
      obtain ⟨w3, hw3⟩ : ∃ w3, w3 = wr.alloc (.cells #[.int .i64 op, .int .i64 rd, .int .i64 rs1, .int .i64 rs2, .int .i32 imm] 38) := ⟨_, rfl⟩
      have hb3 : Below wr.heap.size wr w3 := by rw [hw3]; exact Fb.blw
      have hs3 : wr.heap.size < w3.heap.size := by rw [hw3]; simp
      have g0 : (w3).cell? ⟨wr.heap.size, 0, none⟩ = some (.int .i64 op) := by rw [hw3]; go_cell
      have g1 : (w3).cell? ⟨wr.heap.size, 1, none⟩ = some (.int .i64 rd) := by rw [hw3]; go_cell
      have g2 : (w3).cell? ⟨wr.heap.size, 2, none⟩ = some (.int .i64 rs1) := by rw [hw3]; go_cell
      have g3 : (w3).cell? ⟨wr.heap.size, 3, none⟩ = some (.int .i64 rs2) := by rw [hw3]; go_cell
      have g4 : (w3).cell? ⟨wr.heap.size, 4, none⟩ = some (.int .i32 imm) := by rw [hw3]; go_cell
      have HG : Hid (∀ W, Below w3.heap.size w3 W → At W wr.heap.size 0 (ilist ⟨op, rd, rs1, rs2, imm⟩) ∧ At W w.heap.size 0 [.int .u32 pc, .slice (some ⟨b, off, none⟩) l.length cap]) := Lib.hid (fun W hW => ⟨(at_cons g0 (at_cons g1 (at_cons g2 (at_cons g3 (at_cons g4 at_nil))))).below hW, (HR.out.2.2.2.1.below hb3).below hW⟩)
      have HMK3 := Lib.hid (HR.out.2.1.below hb3)
      have hwr := HR.out.2.2.2.2
      have HB3 := Lib.hid (HR.out.2.2.1.trans (hb3.mono (by omega)))
      have HALL := Lib.hid HR.out.1
      have HEN := Lib.hid (encode_any ⟨op, rd, rs1, rs2, imm⟩ w3 HIM.out)
      have HW3 := Lib.hid hw3
      clear hat hw3 hb3 HR
      go_upto_region 7 with (fail)
      rw [← HW3.out]
      clear e0 e1 e2 e3 e4
      go_wp2_with fail
      refine HEN.out.mono ?_
      rintro e w4 ⟨rfl, hb4⟩
      have hs4 := hb4.size
      have HG4 := Lib.hid (HG.out w4 hb4)
      have HMK4 := Lib.hid (HMK3.out.below hb4)
      have HB4 := Lib.hid (HB3.out.trans (hb4.mono (by omega)))
      clear hb4 g0 g1 g2 g3 g4
      cases hs : isS ⟨op, rd, rs1, rs2, imm⟩ with
      | false =>
        have hM : mkM pc l = [] := by
          unfold mkM
          rw [if_pos (.inr (List.all_eq_false.2 ⟨_, HMEM.out, by rw [hs]; simp⟩))]
        have HM := Lib.hid hM
        clear hM
        rw [if_neg (by simp), if_neg (by simp)]
        clear hs
        go_wp2_with fail
        go_ret
        rw [HM.out]
        exact ⟨⟨_, rfl, Sl.nil _ _, (by intro q hq; cases hq)⟩, HB4.out⟩
      | true =>
        rw [if_pos rfl, if_pos rfl]
        have hln := rowM_len pc (l.take k) 0
        have hlt2 : (l.take k).length = k := by rw [List.length_take]; omega
        have HINS := Lib.hid (ins_any (w.heap.size + 1) (rowM pc 0 (l.take k)) ⟨op, rd, rs1, rs2, imm⟩ (Fb.u32 (pc + Fb.u32 (4 * (k : Int)))) w4 HMK4.out (by omega) hs)
        have HA2 : Hid ((l.take (k + 1)).all isS = true) := Lib.hid (by rw [HAL.out, HALL.out, hs]; rfl)
        obtain ⟨pq, hpq⟩ : ∃ pq, pq = Fb.u32 (pc + Fb.u32 (4 * (k : Int))) := ⟨_, rfl⟩
        have HPQ : Hid ((pc + 4 * (k : Int)) % 4294967296 = pq) := Lib.hid (by rw [hpq]; unfold Fb.u32; omega)
        have hkc : (k : Int) % 4294967296 = (k : Int) := by omega
        rw [← hpq] at HINS HSN
        clear hs hln hlt2 hpq
        have g0 := HG4.out.1.get (j := 0) (v := .int .i64 op) rfl
        have g1 := HG4.out.1.get (j := 1) (v := .int .i64 rd) rfl
        have g2 := HG4.out.1.get (j := 2) (v := .int .i64 rs1) rfl
        have g3 := HG4.out.1.get (j := 3) (v := .int .i64 rs2) rfl
        have g4 := HG4.out.1.get (j := 4) (v := .int .i32 imm) rfl
        have q0 := HG4.out.2.get (j := 0) rfl
        simp only [Nat.add_zero, Nat.zero_add] at g0 g1 g2 g3 g4 q0
        go_wp2_with fail
        rw [HPQ.out]
        refine HINS.out.mono ?_
        rintro e w5 ⟨rfl, hk5, hg5⟩
        have hb5 : Below (w.heap.size + 1) w4 w5 := hg5.below (by omega)
        have HR5 : Hid ((l.take (k + 1)).all isS = true ∧ MkW (w.heap.size + 1) 133 w5 (rowM pc 0 (l.take (k + 1))) ∧ Below w.heap.size w w5 ∧ At w5 w.heap.size 0 [.int .u32 pc, .slice (some ⟨b, off, none⟩) l.length cap] ∧ w.heap.size + 2 ≤ w5.heap.size) := Lib.hid ⟨HA2.out, by rw [HSN.out]; exact hk5, HB4.out.trans (hb5.mono (by omega)), HG4.out.2.of_lt hb5 (by omega), by have := hb5.size; omega⟩
        clear hk5 hg5 hb5 g0 g1 g2 g3 g4 q0
        go_wp2_with fail
        go_roundw
        case rel => exact ⟨k + 1, by simp, by omega, HR5⟩
        case measure => simp [intOf]; omega
    · obtain rfl : k = l.length := by omega
      have k2 : ¬ ((l.length : Int) < (l.length : Int)) := by omega
      obtain ⟨hall, ⟨v, m0, m1, m2⟩, hbw, -, -⟩ := HR.out
      rw [List.take_length] at hall m2
      have hM : mkM pc l = rowM pc 0 l := by unfold mkM; rw [if_neg (by rw [hall]; simp; omega)]
      have HM := Lib.hid hM
      have HBW := Lib.hid hbw
      have HSL := Lib.hid (owns_sl m2)
      have HOT := Lib.hid (fun q (e : v.ownBlock = some q) => ((⟨by have := (m2.lt q e).1; omega, (m2.lt q e).2, (by
        rcases m2.2 with ⟨h0, _⟩ | ⟨g1, _, c1, h0, _, q1, _⟩
        · rw [h0] at e; cases e
        · rw [h0] at e; cases e; exact ⟨_, _, q1⟩)⟩ : w.heap.size ≤ q ∧ q < wr.heap.size ∧ ∃ cs f, wr.heap[q]? = some (.cells cs 133 f))))
      obtain ⟨a3, c3, rfl⟩ := owns_slice m2
      clear m2 hall hbw hM
      go_wp2_with fail
      go_ret
      rw [HM.out]
      exact ⟨⟨_, rfl, HSL.out, fun q hq => by
        obtain ⟨h1, h2, cs, f, h3⟩ := HOT.out q hq
        first
          | exact ⟨h1, h2, cs, f, h3⟩
          | exact ⟨h1, h2, cs, f.1, f.2, h3⟩⟩, HBW.out⟩
theorem tmake_any (v : Value) (l : List InsD) (pc : Int) (w : World) (hv : BlockAt w v l) (hi : ∀ i ∈ l, I32 i.imm) :
    Calls Try.prog 30 #[.agg #[.int .u32 pc, v]] w fun e w' => (∃ v', e = .returned v' ∧ Sl w' v' 5 (mkM pc l).length ((mkM pc l).flatMap mlist)) ∧ Below w.heap.size w w' := by
  refine (tmake_own v l pc w hv hi).mono ?_
  rintro e w' ⟨⟨v', h1, h2, -⟩, hb⟩
  exact ⟨⟨v', h1, h2⟩, hb⟩
end Go.Proofs.Ytlfnddmncbkjaab.W
