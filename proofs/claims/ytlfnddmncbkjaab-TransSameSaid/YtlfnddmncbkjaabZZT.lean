import Derived.Test.YtlfnddmncbkjaabZMB
import Derived.Test.YtlfnddmncbkjaabZMA
import Derived.StillTailTactics
set_option linter.unusedVariables false
set_option linter.unusedSimpArgs false
set_option maxRecDepth 100000
set_option maxHeartbeats 4000000
namespace Go.Proofs.Ytlfnddmncbkjaab.Fb
open Go.RowKit
def MkW (pw : Nat) (ty : TypeId) (w : World) (l : List MicD) : Prop := ∃ v, w.cell? ⟨pw, 0, none⟩ = some v ∧ w.frozen? ⟨pw, 0, none⟩ = false ∧ w.ownsRow (pw + 1) ty 5 v l.length (l.flatMap mlist)
theorem MkW.lt {pw : Nat} {ty : TypeId} {w : World} {l : List MicD} (h : MkW pw ty w l) : pw < w.heap.size := by obtain ⟨v, h1, _⟩ := h; exact lt_of_cell h1
theorem MkW.below {pw : Nat} {ty : TypeId} {w w' : World} {l : List MicD} (h : MkW pw ty w l) (hb : Below w.heap.size w w') : MkW pw ty w' l := by
  have hlt := h.lt
  obtain ⟨v, h1, h2, h3⟩ := h
  exact ⟨v, (hb.cell hlt).trans h1, (hb.frozen (p := ⟨pw, 0, none⟩) hlt).trans h2, owns_below h3 hb⟩
theorem MkW.init (w : World) (ty t : TypeId) : MkW w.heap.size ty (w.alloc (.cells #[.slice none 0 0] t)) [] :=
  ⟨.slice none 0 0, by simp, by unfold World.frozen?; rw [heap_alloc_new]; simp, World.ownsRow_nil _ _ _ _⟩
theorem MkW.next {pw : Nat} {ty : TypeId} {w1 : World} {v u : Value} {ys : List MicD} {y : MicD} (hown : w1.ownsRow (pw + 1) ty 5 u (ys.length + 1) (ys.flatMap mlist ++ mlist y))
    (hc : w1.cell? ⟨pw, 0, none⟩ = some v) (hf : w1.frozen? ⟨pw, 0, none⟩ = false) : MkW pw ty (w1.setCell ⟨pw, 0, none⟩ u) (ys ++ [y]) :=
  ⟨u, World.cell?_setCell_same _ _ _ hc, (World.frozen?_setCell _ _ _ _).trans hf, by
    have := ownsRow_setCell_below hown (a := ⟨pw, 0, none⟩) (Nat.lt_succ_self pw) u
    simpa using this⟩
end Go.Proofs.Ytlfnddmncbkjaab.Fb
namespace Go.Proofs.Ytlfnddmncbkjaab.W
open Go.RowKit Fb
theorem info_micro : (Try.prog.info? 133).map (fun i => (i.zero, i.size, i.bytes)) = some (some (.agg #[.int .i64 0, .int .i64 0, .int .i64 0, .int .i64 0, .int .u32 0]), 5, 40) := by kernel_rfl
theorem mput_any (pw : Nat) (l : List MicD) (op d a b n : Int) (w : World) (hk : MkW pw 133 w l) (hl : l.length ≤ 1000) :
    Calls Try.prog 104 #[.pointer (some ⟨pw, 0, none⟩), .int .i64 op, .int .i64 d, .int .i64 a, .int .i64 b, .int .u32 n] w fun e w' => e = .returned (.tuple #[]) ∧ MkW pw 133 w' (l ++ [⟨op, d, a, b, n⟩]) ∧ Grew pw 133 w w' := by
  obtain ⟨i0, hi, hi0, hi1, hi2⟩ := info_parts info_micro
  have hlt := hk.lt
  obtain ⟨v, c0, c1, c2⟩ := hk
  have hfar : Hid (v.ownBlock ≠ some pw) := Lib.hid (fun e => by have := (c2.lt _ e).1; omega)
  have HOWN := Lib.hid c2
  have hsh := owns_slice c2
  clear c2
  obtain ⟨w2, hw2⟩ : ∃ w2, w2 = w.alloc (.cells #[.int .i64 op, .int .i64 d, .int .i64 a, .int .i64 b, .int .u32 n] 133) := ⟨_, rfl⟩
  have hz2 : w2.heap.size = w.heap.size + 1 := by rw [hw2]; simp
  have d0 : w2.cell? ⟨pw, 0, none⟩ = some v := by rw [hw2]; exact (World.cell?_alloc_lt _ _ ⟨pw, 0, none⟩ hlt).trans c0
  have d1 : w2.frozen? ⟨pw, 0, none⟩ = false := by rw [hw2]; exact (frozen_alloc (p := ⟨pw, 0, none⟩) _ hlt).trans c1
  have HAT : Hid (At w2 w.heap.size 0 (mlist ⟨op, d, a, b, n⟩)) := Lib.hid (by rw [hw2]; exact at_alloc w (mlist ⟨op, d, a, b, n⟩) _ _)
  have HOWN2 : Hid (w2.ownsRow (pw + 1) 133 5 v l.length (l.flatMap mlist)) := Lib.hid (by rw [hw2]; exact HOWN.out.alloc _)
  have HG : Hid (Grew pw 133 w w2) := Lib.hid (by rw [hw2]; exact Grew.alloc _ _ _ _)
  have HW2 := Lib.hid hw2
  clear hw2
  obtain ⟨ao, cp, rfl⟩ := hsh
  go_enter Try.func104, Try.ntmps104
  go_wp2_with (at_builtin; (try rw [← HW2.out]); refine append_any rfl _ _ 51 rfl (pw + 1) 133 i0 _ 5 40 Try.underlying51 hi hi0 hi1 hi2 rfl (by decide) _ l.length (l.flatMap mlist) rfl HOWN2.out _ 1 (mlist ⟨op, d, a, b, n⟩) rfl (Sl.mk HAT.out rfl (by omega) (by decide)) (mlist_one _) (by omega) (by unfold maxLen; omega) (by omega) ?h6)
  case h6 =>
    intro v' w3 hown hgrow
    have e0 : w3.cell? ⟨pw, 0, none⟩ = some (.slice ao l.length cp) := (hgrow.cell_far ⟨pw, 0, none⟩ (by show pw < _; omega) (fun e => hfar.out e.symm)).trans d0
    have e1 : w3.frozen? ⟨pw, 0, none⟩ = false := (hgrow.frozen_far ⟨pw, 0, none⟩ (by show pw < _; omega) (fun e => hfar.out e.symm)).trans d1
    have HN := Lib.hid (MkW.next hown e0 e1)
    have HP := Lib.hid (HG.out.put (o := 0) (u := v') HOWN2.out hgrow)
    obtain ⟨ao3, cp3, rfl⟩ := owns_slice hown
    clear hown hgrow d0 d1 c0 c1
    go_wp2_with fail
    go_end0
    exact ⟨rfl, HN.out, HP.out⟩
theorem operation_any (op : Int) (w : World) (h : 19 ≤ op ∧ op ≤ 27) :
    Calls Try.prog 106 #[.int .i64 op] w fun e w' => e = .returned (.int .i64 (numOp op)) ∧ w' = w := by
  have hc : op = 19 ∨ op = 20 ∨ op = 21 ∨ op = 22 ∨ op = 23 ∨ op = 24 ∨ op = 25 ∨ op = 26 ∨ op = 27 := by omega
  clear h
  have i0 : ∀ w, (Instr.index 196 (.agg #[.int .i64 28, .int .i64 31, .int .i64 32, .int .i64 33, .int .i64 36, .int .i64 37, .int .i64 30, .int .i64 34, .int .i64 35]) (.int .i64 0)).run Try.prog w = .ok (.int .i64 28) w := fun _ => by kernel_rfl
  have i1 : ∀ w, (Instr.index 196 (.agg #[.int .i64 28, .int .i64 31, .int .i64 32, .int .i64 33, .int .i64 36, .int .i64 37, .int .i64 30, .int .i64 34, .int .i64 35]) (.int .i64 1)).run Try.prog w = .ok (.int .i64 31) w := fun _ => by kernel_rfl
  have i2 : ∀ w, (Instr.index 196 (.agg #[.int .i64 28, .int .i64 31, .int .i64 32, .int .i64 33, .int .i64 36, .int .i64 37, .int .i64 30, .int .i64 34, .int .i64 35]) (.int .i64 2)).run Try.prog w = .ok (.int .i64 32) w := fun _ => by kernel_rfl
  have i3 : ∀ w, (Instr.index 196 (.agg #[.int .i64 28, .int .i64 31, .int .i64 32, .int .i64 33, .int .i64 36, .int .i64 37, .int .i64 30, .int .i64 34, .int .i64 35]) (.int .i64 3)).run Try.prog w = .ok (.int .i64 33) w := fun _ => by kernel_rfl
  have i4 : ∀ w, (Instr.index 196 (.agg #[.int .i64 28, .int .i64 31, .int .i64 32, .int .i64 33, .int .i64 36, .int .i64 37, .int .i64 30, .int .i64 34, .int .i64 35]) (.int .i64 4)).run Try.prog w = .ok (.int .i64 36) w := fun _ => by kernel_rfl
  have i5 : ∀ w, (Instr.index 196 (.agg #[.int .i64 28, .int .i64 31, .int .i64 32, .int .i64 33, .int .i64 36, .int .i64 37, .int .i64 30, .int .i64 34, .int .i64 35]) (.int .i64 5)).run Try.prog w = .ok (.int .i64 37) w := fun _ => by kernel_rfl
  have i6 : ∀ w, (Instr.index 196 (.agg #[.int .i64 28, .int .i64 31, .int .i64 32, .int .i64 33, .int .i64 36, .int .i64 37, .int .i64 30, .int .i64 34, .int .i64 35]) (.int .i64 6)).run Try.prog w = .ok (.int .i64 30) w := fun _ => by kernel_rfl
  have i7 : ∀ w, (Instr.index 196 (.agg #[.int .i64 28, .int .i64 31, .int .i64 32, .int .i64 33, .int .i64 36, .int .i64 37, .int .i64 30, .int .i64 34, .int .i64 35]) (.int .i64 7)).run Try.prog w = .ok (.int .i64 34) w := fun _ => by kernel_rfl
  have i8 : ∀ w, (Instr.index 196 (.agg #[.int .i64 28, .int .i64 31, .int .i64 32, .int .i64 33, .int .i64 36, .int .i64 37, .int .i64 30, .int .i64 34, .int .i64 35]) (.int .i64 8)).run Try.prog w = .ok (.int .i64 35) w := fun _ => by kernel_rfl
  rcases hc with rfl | rfl | rfl | rfl | rfl | rfl | rfl | rfl | rfl <;>
  · go_enter Try.func106, Try.ntmps106
    go_wp2_with fail
    go_ret
    exact ⟨rfl, rfl⟩
end Go.Proofs.Ytlfnddmncbkjaab.W
namespace Go.Proofs.Ytlfnddmncbkjaab.W
open Go.RowKit Fb
theorem number_any (pw : Nat) (l : List MicD) (op : Int) (iop rd rs1 rs2 imm n : Int) (w : World) (hk : MkW pw 133 w l) (hl : l.length ≤ 1000) (hop : 28 ≤ op ∧ op ≤ 45) :
    Calls Try.prog 105 #[.pointer (some ⟨pw, 0, none⟩), .int .i64 op, .agg #[.int .i64 iop, .int .i64 rd, .int .i64 rs1, .int .i64 rs2, .int .i32 imm], .int .u32 n] w fun e w' => e = .returned (.tuple #[]) ∧ MkW pw 133 w' (l ++ numM op rd rs1 n) ∧ Grew pw 133 w w' := by
  obtain ⟨w1, hw1⟩ : ∃ w1, w1 = w.alloc (.cells #[.int .i64 iop, .int .i64 rd, .int .i64 rs1, .int .i64 rs2, .int .i32 imm] 38) := ⟨_, rfl⟩
  have hb1 : Below w.heap.size w w1 := by rw [hw1]; exact Fb.blw
  have c0 : (w1).cell? ⟨w.heap.size, 0, none⟩ = some (.int .i64 iop) := by rw [hw1]; go_cell
  have c1 : (w1).cell? ⟨w.heap.size, 1, none⟩ = some (.int .i64 rd) := by rw [hw1]; go_cell
  have c2 : (w1).cell? ⟨w.heap.size, 2, none⟩ = some (.int .i64 rs1) := by rw [hw1]; go_cell
  have c3 : (w1).cell? ⟨w.heap.size, 3, none⟩ = some (.int .i64 rs2) := by rw [hw1]; go_cell
  have c4 : (w1).cell? ⟨w.heap.size, 4, none⟩ = some (.int .i32 imm) := by rw [hw1]; go_cell
  have HK := Lib.hid (hk.below hb1)
  have HB := Lib.hid hb1
  have HW1 := Lib.hid hw1
  have HP := Lib.hid (fun a b c d e => mput_any pw l a b c d e w1 HK.out hl)
  clear hw1 hb1 hk c0 c3 c4
  unfold numM
  by_cases h0 : rd = 0
  · subst h0
    rw [if_pos rfl, List.append_nil]
    go_enter Try.func105, Try.ntmps105
    go_upto_region 2 with (fail)
    rw [← HW1.out]
    go_wp2_with fail
    go_end0
    exact ⟨rfl, HK.out, .of_below HB.out⟩
  rw [if_neg h0]
  by_cases h1 : rs1 = 0
  · subst h1
    by_cases ha : op = 28 ∨ op = 36 ∨ op = 33
    · rw [if_pos ⟨rfl, ha⟩]
      rcases ha with rfl | rfl | rfl <;>
      · go_enter Try.func105, Try.ntmps105
        go_upto_region 2 with (fail)
        rw [← HW1.out]
        go_wp2_with fail
        refine (HP.out _ _ _ _ _).mono ?_
        rintro e w2 ⟨rfl, h2, h3⟩
        go_wp2_with fail
        go_end0
        exact ⟨rfl, h2, (Grew.of_below HB.out).trans h3⟩
    rw [if_neg (by omega)]
    by_cases hb : op = 37 ∨ op = 30 ∨ op = 34 ∨ op = 35
    · rw [if_pos ⟨rfl, hb⟩]
      clear ha
      rcases hb with rfl | rfl | rfl | rfl <;>
      · go_enter Try.func105, Try.ntmps105
        go_upto_region 2 with (fail)
        rw [← HW1.out]
        go_wp2_with fail
        refine (HP.out _ _ _ _ _).mono ?_
        rintro e w2 ⟨rfl, h2, h3⟩
        go_wp2_with fail
        go_end0
        exact ⟨rfl, h2, (Grew.of_below HB.out).trans h3⟩
    rw [if_neg (by omega)]
    have a1 : (op == 28) = false := by simp; omega
    have d1 : decide (op = 28) = false := by simp; omega
    have a2 : (op == 36) = false := by simp; omega
    have d2 : decide (op = 36) = false := by simp; omega
    have a3 : (op == 33) = false := by simp; omega
    have d3 : decide (op = 33) = false := by simp; omega
    have a4 : (op == 37) = false := by simp; omega
    have d4 : decide (op = 37) = false := by simp; omega
    have a5 : (op == 30) = false := by simp; omega
    have d5 : decide (op = 30) = false := by simp; omega
    have a6 : (op == 34) = false := by simp; omega
    have d6 : decide (op = 34) = false := by simp; omega
    have a7 : (op == 35) = false := by simp; omega
    have d7 : decide (op = 35) = false := by simp; omega
    have a8 : wrap64 (500 + op) = 500 + op := by unfold wrap64; omega
    clear ha hb
    go_enter Try.func105, Try.ntmps105
    go_upto_region 2 with (fail)
    rw [← HW1.out]
    go_wp2_with fail
    refine (HP.out _ _ _ _ _).mono ?_
    rintro e w2 ⟨rfl, h2, h3⟩
    go_wp2_with fail
    go_end0
    exact ⟨rfl, h2, (Grew.of_below HB.out).trans h3⟩
  rw [if_neg (by omega), if_neg (by omega)]
  have a8 : wrap64 (500 + op) = 500 + op := by unfold wrap64; omega
  go_enter Try.func105, Try.ntmps105
  go_upto_region 2 with (fail)
  rw [← HW1.out]
  go_wp2_with fail
  refine (HP.out _ _ _ _ _).mono ?_
  rintro e w2 ⟨rfl, h2, h3⟩
  go_wp2_with fail
  go_end0
  exact ⟨rfl, h2, (Grew.of_below HB.out).trans h3⟩
end Go.Proofs.Ytlfnddmncbkjaab.W
namespace Go.Proofs.Ytlfnddmncbkjaab.W
open Go.RowKit Fb
theorem ins_keeps {pw h : Nat} {w1 W : World} {cs : Array Value} {xs : List Value} (hlt : pw < h) (hb : w1.heap[h]? = some (.cells cs 38 (0, 0))) (ha : At w1 h 0 xs) (hg : Grew pw 133 w1 W) : At W h 0 xs :=
  hg.at ha (.inr ⟨hlt, fun cs' fr e => by rw [hb] at e; injection e with e; injection e with _ e2; exact absurd e2 (by decide)⟩)
theorem ins_any_1 (pw : Nat) (l : List MicD) (op rd rs1 rs2 imm pc : Int) (w : World) (hk : MkW pw 133 w l) (hl : l.length ≤ 900) (hop : 1 ≤ op ∧ op ≤ 1)  :
    Calls Try.prog 78 #[.pointer (some ⟨pw, 0, none⟩), .agg #[.int .i64 op, .int .i64 rd, .int .i64 rs1, .int .i64 rs2, .int .i32 imm], .int .u32 pc] w fun e w' => e = .returned (.tuple #[]) ∧ MkW pw 133 w' (l ++ insM ⟨op, rd, rs1, rs2, imm⟩ pc) ∧ Grew pw 133 w w' := by
  have hb : insM ⟨op, rd, rs1, rs2, imm⟩ pc = ⟨1, 0, 0, 0, pc⟩ :: [⟨2, rd, 0, 0, u32 imm⟩] := by
    unfold insM bodyM
    rw [if_pos (by dsimp only; omega)]
  rw [hb]
  clear hb
  obtain ⟨w1, hw1⟩ : ∃ w1, w1 = w.alloc (.cells #[.int .i64 op, .int .i64 rd, .int .i64 rs1, .int .i64 rs2, .int .i32 imm] 38) := ⟨_, rfl⟩
  have hb1 : Below w.heap.size w w1 := by rw [hw1]; exact Fb.blw
  have HAT : Hid (∀ W, Grew pw 133 w1 W → At W w.heap.size 0 [.int .i64 op, .int .i64 rd, .int .i64 rs1, .int .i64 rs2, .int .i32 imm]) := Lib.hid (fun W hW => ins_keeps hk.lt (by rw [hw1]; exact heap_alloc_new _ _) (by rw [hw1]; exact at_alloc w [.int .i64 op, .int .i64 rd, .int .i64 rs1, .int .i64 rs2, .int .i32 imm] _ _) hW)
  have HK := Lib.hid (hk.below hb1)
  have HB := Lib.hid (Grew.of_below (pw := pw) (ty := 133) hb1)
  have HW1 := Lib.hid hw1
  have HU : Hid (u32 imm = imm % 4294967296 ∧ u32 (pc + u32 imm) = (pc + imm % 4294967296) % 4294967296 ∧ u32 (pc + 4) = (pc + 4) % 4294967296) := Lib.hid ⟨rfl, rfl, rfl⟩
  obtain ⟨ui, hui⟩ : ∃ x, x = u32 imm := ⟨_, rfl⟩
  obtain ⟨up, hup⟩ : ∃ x, x = u32 (pc + ui) := ⟨_, rfl⟩
  obtain ⟨u4, hu4⟩ : ∃ x, x = u32 (pc + 4) := ⟨_, rfl⟩
  have HUI : Hid (imm % 4294967296 = ui) := Lib.hid (by rw [hui]; rfl)
  have HUP : Hid ((pc + ui) % 4294967296 = up) := Lib.hid (by rw [hup]; rfl)
  have HU4 : Hid ((pc + 4) % 4294967296 = u4) := Lib.hid (by rw [hu4]; rfl)
  rw [← hui, ← hup, ← hu4] at HU
  (try simp only [← hui, ← hup, ← hu4])
  clear hui hup hu4 hw1 hb1 hk HU
  have c0 := (HAT.out _ (Grew.refl _ _ _)).get (j := 0) rfl
  have c4 := (HAT.out _ (Grew.refl _ _ _)).get (j := 4) rfl
  simp only [Nat.add_zero, Nat.zero_add] at c0 c4
  obtain rfl : op = 1 := by omega
  go_enter Try.func78, Try.ntmps78
  go_upto_region 1 with (fail)
  rw [← HW1.out]
  go_upto_region 2 with (fail)
  try rw [HUI.out]
  go_wp2_with fail
  refine (mput_any pw l 1 0 0 0 pc w1 HK.out (by omega)).mono ?_
  rintro e w2 ⟨rfl, hk2, hg2⟩
  have HK2 := Lib.hid hk2
  have HG2 := Lib.hid hg2
  clear hk2 hg2 c0 c4
  have e2_0 := (HAT.out _ HG2.out).get (j := 0) rfl
  have e2_1 := (HAT.out _ HG2.out).get (j := 1) rfl
  have e2_2 := (HAT.out _ HG2.out).get (j := 2) rfl
  have e2_3 := (HAT.out _ HG2.out).get (j := 3) rfl
  simp only [Nat.add_zero, Nat.zero_add] at e2_0 e2_1 e2_2 e2_3
  go_wp2_with fail
  (try rw [HUI.out]); (try rw [HUP.out]); (try rw [HU4.out])
  refine (mput_any pw _ _ _ _ _ _ w2 HK2.out (by simp; omega)).mono ?_
  rintro e w3 ⟨rfl, hk3, hg3⟩
  have HK3 := Lib.hid hk3
  have HG3 := Lib.hid (HG2.out.trans hg3)
  clear hk3 hg3 e2_0 e2_1 e2_2 e2_3
  have e3_0 := (HAT.out _ HG3.out).get (j := 0) rfl
  have e3_1 := (HAT.out _ HG3.out).get (j := 1) rfl
  have e3_2 := (HAT.out _ HG3.out).get (j := 2) rfl
  have e3_3 := (HAT.out _ HG3.out).get (j := 3) rfl
  simp only [Nat.add_zero, Nat.zero_add] at e3_0 e3_1 e3_2 e3_3
  go_wp2_with fail
  go_end0
  exact ⟨rfl, by have := HK3.out; simpa using this, HB.out.trans HG3.out⟩
theorem ins_any_2 (pw : Nat) (l : List MicD) (op rd rs1 rs2 imm pc : Int) (w : World) (hk : MkW pw 133 w l) (hl : l.length ≤ 900) (hop : 2 ≤ op ∧ op ≤ 2)  :
    Calls Try.prog 78 #[.pointer (some ⟨pw, 0, none⟩), .agg #[.int .i64 op, .int .i64 rd, .int .i64 rs1, .int .i64 rs2, .int .i32 imm], .int .u32 pc] w fun e w' => e = .returned (.tuple #[]) ∧ MkW pw 133 w' (l ++ insM ⟨op, rd, rs1, rs2, imm⟩ pc) ∧ Grew pw 133 w w' := by
  have hb : insM ⟨op, rd, rs1, rs2, imm⟩ pc = ⟨1, 0, 0, 0, pc⟩ :: [⟨2, rd, 0, 0, u32 (pc + u32 imm)⟩] := by
    unfold insM bodyM
    rw [if_neg (by dsimp only; omega)]
    rw [if_pos (by dsimp only; omega)]
  rw [hb]
  clear hb
  obtain ⟨w1, hw1⟩ : ∃ w1, w1 = w.alloc (.cells #[.int .i64 op, .int .i64 rd, .int .i64 rs1, .int .i64 rs2, .int .i32 imm] 38) := ⟨_, rfl⟩
  have hb1 : Below w.heap.size w w1 := by rw [hw1]; exact Fb.blw
  have HAT : Hid (∀ W, Grew pw 133 w1 W → At W w.heap.size 0 [.int .i64 op, .int .i64 rd, .int .i64 rs1, .int .i64 rs2, .int .i32 imm]) := Lib.hid (fun W hW => ins_keeps hk.lt (by rw [hw1]; exact heap_alloc_new _ _) (by rw [hw1]; exact at_alloc w [.int .i64 op, .int .i64 rd, .int .i64 rs1, .int .i64 rs2, .int .i32 imm] _ _) hW)
  have HK := Lib.hid (hk.below hb1)
  have HB := Lib.hid (Grew.of_below (pw := pw) (ty := 133) hb1)
  have HW1 := Lib.hid hw1
  have HU : Hid (u32 imm = imm % 4294967296 ∧ u32 (pc + u32 imm) = (pc + imm % 4294967296) % 4294967296 ∧ u32 (pc + 4) = (pc + 4) % 4294967296) := Lib.hid ⟨rfl, rfl, rfl⟩
  obtain ⟨ui, hui⟩ : ∃ x, x = u32 imm := ⟨_, rfl⟩
  obtain ⟨up, hup⟩ : ∃ x, x = u32 (pc + ui) := ⟨_, rfl⟩
  obtain ⟨u4, hu4⟩ : ∃ x, x = u32 (pc + 4) := ⟨_, rfl⟩
  have HUI : Hid (imm % 4294967296 = ui) := Lib.hid (by rw [hui]; rfl)
  have HUP : Hid ((pc + ui) % 4294967296 = up) := Lib.hid (by rw [hup]; rfl)
  have HU4 : Hid ((pc + 4) % 4294967296 = u4) := Lib.hid (by rw [hu4]; rfl)
  rw [← hui, ← hup, ← hu4] at HU
  (try simp only [← hui, ← hup, ← hu4])
  clear hui hup hu4 hw1 hb1 hk HU
  have c0 := (HAT.out _ (Grew.refl _ _ _)).get (j := 0) rfl
  have c4 := (HAT.out _ (Grew.refl _ _ _)).get (j := 4) rfl
  simp only [Nat.add_zero, Nat.zero_add] at c0 c4
  obtain rfl : op = 2 := by omega
  go_enter Try.func78, Try.ntmps78
  go_upto_region 1 with (fail)
  rw [← HW1.out]
  go_upto_region 2 with (fail)
  try rw [HUI.out]
  go_wp2_with fail
  refine (mput_any pw l 1 0 0 0 pc w1 HK.out (by omega)).mono ?_
  rintro e w2 ⟨rfl, hk2, hg2⟩
  have HK2 := Lib.hid hk2
  have HG2 := Lib.hid hg2
  clear hk2 hg2 c0 c4
  have e2_0 := (HAT.out _ HG2.out).get (j := 0) rfl
  have e2_1 := (HAT.out _ HG2.out).get (j := 1) rfl
  have e2_2 := (HAT.out _ HG2.out).get (j := 2) rfl
  have e2_3 := (HAT.out _ HG2.out).get (j := 3) rfl
  simp only [Nat.add_zero, Nat.zero_add] at e2_0 e2_1 e2_2 e2_3
  go_wp2_with fail
  (try rw [HUI.out]); (try rw [HUP.out]); (try rw [HU4.out])
  refine (mput_any pw _ _ _ _ _ _ w2 HK2.out (by simp; omega)).mono ?_
  rintro e w3 ⟨rfl, hk3, hg3⟩
  have HK3 := Lib.hid hk3
  have HG3 := Lib.hid (HG2.out.trans hg3)
  clear hk3 hg3 e2_0 e2_1 e2_2 e2_3
  have e3_0 := (HAT.out _ HG3.out).get (j := 0) rfl
  have e3_1 := (HAT.out _ HG3.out).get (j := 1) rfl
  have e3_2 := (HAT.out _ HG3.out).get (j := 2) rfl
  have e3_3 := (HAT.out _ HG3.out).get (j := 3) rfl
  simp only [Nat.add_zero, Nat.zero_add] at e3_0 e3_1 e3_2 e3_3
  go_wp2_with fail
  go_end0
  exact ⟨rfl, by have := HK3.out; simpa using this, HB.out.trans HG3.out⟩
theorem ins_any_3 (pw : Nat) (l : List MicD) (op rd rs1 rs2 imm pc : Int) (w : World) (hk : MkW pw 133 w l) (hl : l.length ≤ 900) (hop : 3 ≤ op ∧ op ≤ 3)  :
    Calls Try.prog 78 #[.pointer (some ⟨pw, 0, none⟩), .agg #[.int .i64 op, .int .i64 rd, .int .i64 rs1, .int .i64 rs2, .int .i32 imm], .int .u32 pc] w fun e w' => e = .returned (.tuple #[]) ∧ MkW pw 133 w' (l ++ insM ⟨op, rd, rs1, rs2, imm⟩ pc) ∧ Grew pw 133 w w' := by
  have hb : insM ⟨op, rd, rs1, rs2, imm⟩ pc = ⟨1, 0, 0, 0, pc⟩ :: [⟨2, rd, 0, 0, u32 (pc + 4)⟩, ⟨3, 0, 0, 0, u32 (pc + u32 imm)⟩] := by
    unfold insM bodyM
    rw [if_neg (by dsimp only; omega)]
    rw [if_neg (by dsimp only; omega)]
    rw [if_pos (by dsimp only; omega)]
  rw [hb]
  clear hb
  obtain ⟨w1, hw1⟩ : ∃ w1, w1 = w.alloc (.cells #[.int .i64 op, .int .i64 rd, .int .i64 rs1, .int .i64 rs2, .int .i32 imm] 38) := ⟨_, rfl⟩
  have hb1 : Below w.heap.size w w1 := by rw [hw1]; exact Fb.blw
  have HAT : Hid (∀ W, Grew pw 133 w1 W → At W w.heap.size 0 [.int .i64 op, .int .i64 rd, .int .i64 rs1, .int .i64 rs2, .int .i32 imm]) := Lib.hid (fun W hW => ins_keeps hk.lt (by rw [hw1]; exact heap_alloc_new _ _) (by rw [hw1]; exact at_alloc w [.int .i64 op, .int .i64 rd, .int .i64 rs1, .int .i64 rs2, .int .i32 imm] _ _) hW)
  have HK := Lib.hid (hk.below hb1)
  have HB := Lib.hid (Grew.of_below (pw := pw) (ty := 133) hb1)
  have HW1 := Lib.hid hw1
  have HU : Hid (u32 imm = imm % 4294967296 ∧ u32 (pc + u32 imm) = (pc + imm % 4294967296) % 4294967296 ∧ u32 (pc + 4) = (pc + 4) % 4294967296) := Lib.hid ⟨rfl, rfl, rfl⟩
  obtain ⟨ui, hui⟩ : ∃ x, x = u32 imm := ⟨_, rfl⟩
  obtain ⟨up, hup⟩ : ∃ x, x = u32 (pc + ui) := ⟨_, rfl⟩
  obtain ⟨u4, hu4⟩ : ∃ x, x = u32 (pc + 4) := ⟨_, rfl⟩
  have HUI : Hid (imm % 4294967296 = ui) := Lib.hid (by rw [hui]; rfl)
  have HUP : Hid ((pc + ui) % 4294967296 = up) := Lib.hid (by rw [hup]; rfl)
  have HU4 : Hid ((pc + 4) % 4294967296 = u4) := Lib.hid (by rw [hu4]; rfl)
  rw [← hui, ← hup, ← hu4] at HU
  (try simp only [← hui, ← hup, ← hu4])
  clear hui hup hu4 hw1 hb1 hk HU
  have c0 := (HAT.out _ (Grew.refl _ _ _)).get (j := 0) rfl
  have c4 := (HAT.out _ (Grew.refl _ _ _)).get (j := 4) rfl
  simp only [Nat.add_zero, Nat.zero_add] at c0 c4
  obtain rfl : op = 3 := by omega
  go_enter Try.func78, Try.ntmps78
  go_upto_region 1 with (fail)
  rw [← HW1.out]
  go_upto_region 2 with (fail)
  try rw [HUI.out]
  go_wp2_with fail
  refine (mput_any pw l 1 0 0 0 pc w1 HK.out (by omega)).mono ?_
  rintro e w2 ⟨rfl, hk2, hg2⟩
  have HK2 := Lib.hid hk2
  have HG2 := Lib.hid hg2
  clear hk2 hg2 c0 c4
  have e2_0 := (HAT.out _ HG2.out).get (j := 0) rfl
  have e2_1 := (HAT.out _ HG2.out).get (j := 1) rfl
  have e2_2 := (HAT.out _ HG2.out).get (j := 2) rfl
  have e2_3 := (HAT.out _ HG2.out).get (j := 3) rfl
  simp only [Nat.add_zero, Nat.zero_add] at e2_0 e2_1 e2_2 e2_3
  go_wp2_with fail
  (try rw [HUI.out]); (try rw [HUP.out]); (try rw [HU4.out])
  refine (mput_any pw _ _ _ _ _ _ w2 HK2.out (by simp; omega)).mono ?_
  rintro e w3 ⟨rfl, hk3, hg3⟩
  have HK3 := Lib.hid hk3
  have HG3 := Lib.hid (HG2.out.trans hg3)
  clear hk3 hg3 e2_0 e2_1 e2_2 e2_3
  have e3_0 := (HAT.out _ HG3.out).get (j := 0) rfl
  have e3_1 := (HAT.out _ HG3.out).get (j := 1) rfl
  have e3_2 := (HAT.out _ HG3.out).get (j := 2) rfl
  have e3_3 := (HAT.out _ HG3.out).get (j := 3) rfl
  simp only [Nat.add_zero, Nat.zero_add] at e3_0 e3_1 e3_2 e3_3
  go_wp2_with fail
  (try rw [HUI.out]); (try rw [HUP.out]); (try rw [HU4.out])
  refine (mput_any pw _ _ _ _ _ _ w3 HK3.out (by simp; omega)).mono ?_
  rintro e w4 ⟨rfl, hk4, hg4⟩
  have HK4 := Lib.hid hk4
  have HG4 := Lib.hid (HG3.out.trans hg4)
  clear hk4 hg4 e3_0 e3_1 e3_2 e3_3
  have e4_0 := (HAT.out _ HG4.out).get (j := 0) rfl
  have e4_1 := (HAT.out _ HG4.out).get (j := 1) rfl
  have e4_2 := (HAT.out _ HG4.out).get (j := 2) rfl
  have e4_3 := (HAT.out _ HG4.out).get (j := 3) rfl
  simp only [Nat.add_zero, Nat.zero_add] at e4_0 e4_1 e4_2 e4_3
  go_wp2_with fail
  go_end0
  exact ⟨rfl, by have := HK4.out; simpa using this, HB.out.trans HG4.out⟩
theorem ins_any_4 (pw : Nat) (l : List MicD) (op rd rs1 rs2 imm pc : Int) (w : World) (hk : MkW pw 133 w l) (hl : l.length ≤ 900) (hop : 4 ≤ op ∧ op ≤ 4)  :
    Calls Try.prog 78 #[.pointer (some ⟨pw, 0, none⟩), .agg #[.int .i64 op, .int .i64 rd, .int .i64 rs1, .int .i64 rs2, .int .i32 imm], .int .u32 pc] w fun e w' => e = .returned (.tuple #[]) ∧ MkW pw 133 w' (l ++ insM ⟨op, rd, rs1, rs2, imm⟩ pc) ∧ Grew pw 133 w w' := by
  have hb : insM ⟨op, rd, rs1, rs2, imm⟩ pc = ⟨1, 0, 0, 0, pc⟩ :: [⟨528, 32, rs1, 0, u32 imm⟩, ⟨2, rd, 0, 0, u32 (pc + 4)⟩, ⟨4, 0, 32, 0, 0⟩] := by
    unfold insM bodyM
    rw [if_neg (by dsimp only; omega)]
    rw [if_neg (by dsimp only; omega)]
    rw [if_neg (by dsimp only; omega)]
    rw [if_pos (by dsimp only; omega)]
  rw [hb]
  clear hb
  obtain ⟨w1, hw1⟩ : ∃ w1, w1 = w.alloc (.cells #[.int .i64 op, .int .i64 rd, .int .i64 rs1, .int .i64 rs2, .int .i32 imm] 38) := ⟨_, rfl⟩
  have hb1 : Below w.heap.size w w1 := by rw [hw1]; exact Fb.blw
  have HAT : Hid (∀ W, Grew pw 133 w1 W → At W w.heap.size 0 [.int .i64 op, .int .i64 rd, .int .i64 rs1, .int .i64 rs2, .int .i32 imm]) := Lib.hid (fun W hW => ins_keeps hk.lt (by rw [hw1]; exact heap_alloc_new _ _) (by rw [hw1]; exact at_alloc w [.int .i64 op, .int .i64 rd, .int .i64 rs1, .int .i64 rs2, .int .i32 imm] _ _) hW)
  have HK := Lib.hid (hk.below hb1)
  have HB := Lib.hid (Grew.of_below (pw := pw) (ty := 133) hb1)
  have HW1 := Lib.hid hw1
  have HU : Hid (u32 imm = imm % 4294967296 ∧ u32 (pc + u32 imm) = (pc + imm % 4294967296) % 4294967296 ∧ u32 (pc + 4) = (pc + 4) % 4294967296) := Lib.hid ⟨rfl, rfl, rfl⟩
  obtain ⟨ui, hui⟩ : ∃ x, x = u32 imm := ⟨_, rfl⟩
  obtain ⟨up, hup⟩ : ∃ x, x = u32 (pc + ui) := ⟨_, rfl⟩
  obtain ⟨u4, hu4⟩ : ∃ x, x = u32 (pc + 4) := ⟨_, rfl⟩
  have HUI : Hid (imm % 4294967296 = ui) := Lib.hid (by rw [hui]; rfl)
  have HUP : Hid ((pc + ui) % 4294967296 = up) := Lib.hid (by rw [hup]; rfl)
  have HU4 : Hid ((pc + 4) % 4294967296 = u4) := Lib.hid (by rw [hu4]; rfl)
  rw [← hui, ← hup, ← hu4] at HU
  (try simp only [← hui, ← hup, ← hu4])
  clear hui hup hu4 hw1 hb1 hk HU
  have c0 := (HAT.out _ (Grew.refl _ _ _)).get (j := 0) rfl
  have c4 := (HAT.out _ (Grew.refl _ _ _)).get (j := 4) rfl
  simp only [Nat.add_zero, Nat.zero_add] at c0 c4
  obtain rfl : op = 4 := by omega
  go_enter Try.func78, Try.ntmps78
  go_upto_region 1 with (fail)
  rw [← HW1.out]
  go_upto_region 2 with (fail)
  try rw [HUI.out]
  go_wp2_with fail
  refine (mput_any pw l 1 0 0 0 pc w1 HK.out (by omega)).mono ?_
  rintro e w2 ⟨rfl, hk2, hg2⟩
  have HK2 := Lib.hid hk2
  have HG2 := Lib.hid hg2
  clear hk2 hg2 c0 c4
  have e2_0 := (HAT.out _ HG2.out).get (j := 0) rfl
  have e2_1 := (HAT.out _ HG2.out).get (j := 1) rfl
  have e2_2 := (HAT.out _ HG2.out).get (j := 2) rfl
  have e2_3 := (HAT.out _ HG2.out).get (j := 3) rfl
  simp only [Nat.add_zero, Nat.zero_add] at e2_0 e2_1 e2_2 e2_3
  go_wp2_with fail
  (try rw [HUI.out]); (try rw [HUP.out]); (try rw [HU4.out])
  refine (mput_any pw _ _ _ _ _ _ w2 HK2.out (by simp; omega)).mono ?_
  rintro e w3 ⟨rfl, hk3, hg3⟩
  have HK3 := Lib.hid hk3
  have HG3 := Lib.hid (HG2.out.trans hg3)
  clear hk3 hg3 e2_0 e2_1 e2_2 e2_3
  have e3_0 := (HAT.out _ HG3.out).get (j := 0) rfl
  have e3_1 := (HAT.out _ HG3.out).get (j := 1) rfl
  have e3_2 := (HAT.out _ HG3.out).get (j := 2) rfl
  have e3_3 := (HAT.out _ HG3.out).get (j := 3) rfl
  simp only [Nat.add_zero, Nat.zero_add] at e3_0 e3_1 e3_2 e3_3
  go_wp2_with fail
  (try rw [HUI.out]); (try rw [HUP.out]); (try rw [HU4.out])
  refine (mput_any pw _ _ _ _ _ _ w3 HK3.out (by simp; omega)).mono ?_
  rintro e w4 ⟨rfl, hk4, hg4⟩
  have HK4 := Lib.hid hk4
  have HG4 := Lib.hid (HG3.out.trans hg4)
  clear hk4 hg4 e3_0 e3_1 e3_2 e3_3
  have e4_0 := (HAT.out _ HG4.out).get (j := 0) rfl
  have e4_1 := (HAT.out _ HG4.out).get (j := 1) rfl
  have e4_2 := (HAT.out _ HG4.out).get (j := 2) rfl
  have e4_3 := (HAT.out _ HG4.out).get (j := 3) rfl
  simp only [Nat.add_zero, Nat.zero_add] at e4_0 e4_1 e4_2 e4_3
  go_wp2_with fail
  (try rw [HUI.out]); (try rw [HUP.out]); (try rw [HU4.out])
  refine (mput_any pw _ _ _ _ _ _ w4 HK4.out (by simp; omega)).mono ?_
  rintro e w5 ⟨rfl, hk5, hg5⟩
  have HK5 := Lib.hid hk5
  have HG5 := Lib.hid (HG4.out.trans hg5)
  clear hk5 hg5 e4_0 e4_1 e4_2 e4_3
  have e5_0 := (HAT.out _ HG5.out).get (j := 0) rfl
  have e5_1 := (HAT.out _ HG5.out).get (j := 1) rfl
  have e5_2 := (HAT.out _ HG5.out).get (j := 2) rfl
  have e5_3 := (HAT.out _ HG5.out).get (j := 3) rfl
  simp only [Nat.add_zero, Nat.zero_add] at e5_0 e5_1 e5_2 e5_3
  go_wp2_with fail
  go_end0
  exact ⟨rfl, by have := HK5.out; simpa using this, HB.out.trans HG5.out⟩
theorem ins_any_5 (pw : Nat) (l : List MicD) (op rd rs1 rs2 imm pc : Int) (w : World) (hk : MkW pw 133 w l) (hl : l.length ≤ 900) (hop : 5 ≤ op ∧ op ≤ 10)  :
    Calls Try.prog 78 #[.pointer (some ⟨pw, 0, none⟩), .agg #[.int .i64 op, .int .i64 rd, .int .i64 rs1, .int .i64 rs2, .int .i32 imm], .int .u32 pc] w fun e w' => e = .returned (.tuple #[]) ∧ MkW pw 133 w' (l ++ insM ⟨op, rd, rs1, rs2, imm⟩ pc) ∧ Grew pw 133 w w' := by
  have hb : insM ⟨op, rd, rs1, rs2, imm⟩ pc = ⟨1, 0, 0, 0, pc⟩ :: [⟨100 + op, 0, rs1, rs2, u32 (pc + u32 imm)⟩] := by
    unfold insM bodyM
    rw [if_neg (by dsimp only; omega)]
    rw [if_neg (by dsimp only; omega)]
    rw [if_neg (by dsimp only; omega)]
    rw [if_neg (by dsimp only; omega)]
    rw [if_pos (by dsimp only; omega)]
  rw [hb]
  clear hb
  obtain ⟨w1, hw1⟩ : ∃ w1, w1 = w.alloc (.cells #[.int .i64 op, .int .i64 rd, .int .i64 rs1, .int .i64 rs2, .int .i32 imm] 38) := ⟨_, rfl⟩
  have hb1 : Below w.heap.size w w1 := by rw [hw1]; exact Fb.blw
  have HAT : Hid (∀ W, Grew pw 133 w1 W → At W w.heap.size 0 [.int .i64 op, .int .i64 rd, .int .i64 rs1, .int .i64 rs2, .int .i32 imm]) := Lib.hid (fun W hW => ins_keeps hk.lt (by rw [hw1]; exact heap_alloc_new _ _) (by rw [hw1]; exact at_alloc w [.int .i64 op, .int .i64 rd, .int .i64 rs1, .int .i64 rs2, .int .i32 imm] _ _) hW)
  have HK := Lib.hid (hk.below hb1)
  have HB := Lib.hid (Grew.of_below (pw := pw) (ty := 133) hb1)
  have HW1 := Lib.hid hw1
  have HU : Hid (u32 imm = imm % 4294967296 ∧ u32 (pc + u32 imm) = (pc + imm % 4294967296) % 4294967296 ∧ u32 (pc + 4) = (pc + 4) % 4294967296) := Lib.hid ⟨rfl, rfl, rfl⟩
  obtain ⟨ui, hui⟩ : ∃ x, x = u32 imm := ⟨_, rfl⟩
  obtain ⟨up, hup⟩ : ∃ x, x = u32 (pc + ui) := ⟨_, rfl⟩
  obtain ⟨u4, hu4⟩ : ∃ x, x = u32 (pc + 4) := ⟨_, rfl⟩
  have HUI : Hid (imm % 4294967296 = ui) := Lib.hid (by rw [hui]; rfl)
  have HUP : Hid ((pc + ui) % 4294967296 = up) := Lib.hid (by rw [hup]; rfl)
  have HU4 : Hid ((pc + 4) % 4294967296 = u4) := Lib.hid (by rw [hu4]; rfl)
  rw [← hui, ← hup, ← hu4] at HU
  (try simp only [← hui, ← hup, ← hu4])
  clear hui hup hu4 hw1 hb1 hk HU
  have c0 := (HAT.out _ (Grew.refl _ _ _)).get (j := 0) rfl
  have c4 := (HAT.out _ (Grew.refl _ _ _)).get (j := 4) rfl
  simp only [Nat.add_zero, Nat.zero_add] at c0 c4
  have a0 : (op == 1) = false := by simp; omega
  have d0 : decide (op = 1) = false := by simp; omega
  have a1 : (op == 2) = false := by simp; omega
  have d1 : decide (op = 2) = false := by simp; omega
  have a2 : (op == 3) = false := by simp; omega
  have d2 : decide (op = 3) = false := by simp; omega
  have a3 : (op == 4) = false := by simp; omega
  have d3 : decide (op = 4) = false := by simp; omega
  have a4 : decide (op ≤ 10) = true := by simp; omega
  have aw : wrap64 (100 + op) = 100 + op := by unfold wrap64; omega
  go_enter Try.func78, Try.ntmps78
  go_upto_region 1 with (fail)
  rw [← HW1.out]
  go_upto_region 2 with (fail)
  try rw [HUI.out]
  go_wp2_with fail
  refine (mput_any pw l 1 0 0 0 pc w1 HK.out (by omega)).mono ?_
  rintro e w2 ⟨rfl, hk2, hg2⟩
  have HK2 := Lib.hid hk2
  have HG2 := Lib.hid hg2
  clear hk2 hg2 c0 c4
  have e2_0 := (HAT.out _ HG2.out).get (j := 0) rfl
  have e2_1 := (HAT.out _ HG2.out).get (j := 1) rfl
  have e2_2 := (HAT.out _ HG2.out).get (j := 2) rfl
  have e2_3 := (HAT.out _ HG2.out).get (j := 3) rfl
  simp only [Nat.add_zero, Nat.zero_add] at e2_0 e2_1 e2_2 e2_3
  go_wp2_with fail
  (try rw [HUI.out]); (try rw [HUP.out]); (try rw [HU4.out])
  refine (mput_any pw _ _ _ _ _ _ w2 HK2.out (by simp; omega)).mono ?_
  rintro e w3 ⟨rfl, hk3, hg3⟩
  have HK3 := Lib.hid hk3
  have HG3 := Lib.hid (HG2.out.trans hg3)
  clear hk3 hg3 e2_0 e2_1 e2_2 e2_3
  have e3_0 := (HAT.out _ HG3.out).get (j := 0) rfl
  have e3_1 := (HAT.out _ HG3.out).get (j := 1) rfl
  have e3_2 := (HAT.out _ HG3.out).get (j := 2) rfl
  have e3_3 := (HAT.out _ HG3.out).get (j := 3) rfl
  simp only [Nat.add_zero, Nat.zero_add] at e3_0 e3_1 e3_2 e3_3
  go_wp2_with fail
  go_end0
  exact ⟨rfl, by have := HK3.out; simpa using this, HB.out.trans HG3.out⟩
theorem ins_any_11 (pw : Nat) (l : List MicD) (op rd rs1 rs2 imm pc : Int) (w : World) (hk : MkW pw 133 w l) (hl : l.length ≤ 900) (hop : 11 ≤ op ∧ op ≤ 15)  :
    Calls Try.prog 78 #[.pointer (some ⟨pw, 0, none⟩), .agg #[.int .i64 op, .int .i64 rd, .int .i64 rs1, .int .i64 rs2, .int .i32 imm], .int .u32 pc] w fun e w' => e = .returned (.tuple #[]) ∧ MkW pw 133 w' (l ++ insM ⟨op, rd, rs1, rs2, imm⟩ pc) ∧ Grew pw 133 w w' := by
  have hb : insM ⟨op, rd, rs1, rs2, imm⟩ pc = ⟨1, 0, 0, 0, pc⟩ :: [⟨200 + op, rd, rs1, 0, u32 imm⟩] := by
    unfold insM bodyM
    rw [if_neg (by dsimp only; omega)]
    rw [if_neg (by dsimp only; omega)]
    rw [if_neg (by dsimp only; omega)]
    rw [if_neg (by dsimp only; omega)]
    rw [if_neg (by dsimp only; omega)]
    rw [if_pos (by dsimp only; omega)]
  rw [hb]
  clear hb
  obtain ⟨w1, hw1⟩ : ∃ w1, w1 = w.alloc (.cells #[.int .i64 op, .int .i64 rd, .int .i64 rs1, .int .i64 rs2, .int .i32 imm] 38) := ⟨_, rfl⟩
  have hb1 : Below w.heap.size w w1 := by rw [hw1]; exact Fb.blw
  have HAT : Hid (∀ W, Grew pw 133 w1 W → At W w.heap.size 0 [.int .i64 op, .int .i64 rd, .int .i64 rs1, .int .i64 rs2, .int .i32 imm]) := Lib.hid (fun W hW => ins_keeps hk.lt (by rw [hw1]; exact heap_alloc_new _ _) (by rw [hw1]; exact at_alloc w [.int .i64 op, .int .i64 rd, .int .i64 rs1, .int .i64 rs2, .int .i32 imm] _ _) hW)
  have HK := Lib.hid (hk.below hb1)
  have HB := Lib.hid (Grew.of_below (pw := pw) (ty := 133) hb1)
  have HW1 := Lib.hid hw1
  have HU : Hid (u32 imm = imm % 4294967296 ∧ u32 (pc + u32 imm) = (pc + imm % 4294967296) % 4294967296 ∧ u32 (pc + 4) = (pc + 4) % 4294967296) := Lib.hid ⟨rfl, rfl, rfl⟩
  obtain ⟨ui, hui⟩ : ∃ x, x = u32 imm := ⟨_, rfl⟩
  obtain ⟨up, hup⟩ : ∃ x, x = u32 (pc + ui) := ⟨_, rfl⟩
  obtain ⟨u4, hu4⟩ : ∃ x, x = u32 (pc + 4) := ⟨_, rfl⟩
  have HUI : Hid (imm % 4294967296 = ui) := Lib.hid (by rw [hui]; rfl)
  have HUP : Hid ((pc + ui) % 4294967296 = up) := Lib.hid (by rw [hup]; rfl)
  have HU4 : Hid ((pc + 4) % 4294967296 = u4) := Lib.hid (by rw [hu4]; rfl)
  rw [← hui, ← hup, ← hu4] at HU
  (try simp only [← hui, ← hup, ← hu4])
  clear hui hup hu4 hw1 hb1 hk HU
  have c0 := (HAT.out _ (Grew.refl _ _ _)).get (j := 0) rfl
  have c4 := (HAT.out _ (Grew.refl _ _ _)).get (j := 4) rfl
  simp only [Nat.add_zero, Nat.zero_add] at c0 c4
  have a0 : (op == 1) = false := by simp; omega
  have d0 : decide (op = 1) = false := by simp; omega
  have a1 : (op == 2) = false := by simp; omega
  have d1 : decide (op = 2) = false := by simp; omega
  have a2 : (op == 3) = false := by simp; omega
  have d2 : decide (op = 3) = false := by simp; omega
  have a3 : (op == 4) = false := by simp; omega
  have d3 : decide (op = 4) = false := by simp; omega
  have a4 : decide (op ≤ 10) = false := by simp; omega
  have a5 : decide (op ≤ 15) = true := by simp; omega
  have aw : wrap64 (200 + op) = 200 + op := by unfold wrap64; omega
  go_enter Try.func78, Try.ntmps78
  go_upto_region 1 with (fail)
  rw [← HW1.out]
  go_upto_region 2 with (fail)
  try rw [HUI.out]
  go_wp2_with fail
  refine (mput_any pw l 1 0 0 0 pc w1 HK.out (by omega)).mono ?_
  rintro e w2 ⟨rfl, hk2, hg2⟩
  have HK2 := Lib.hid hk2
  have HG2 := Lib.hid hg2
  clear hk2 hg2 c0 c4
  have e2_0 := (HAT.out _ HG2.out).get (j := 0) rfl
  have e2_1 := (HAT.out _ HG2.out).get (j := 1) rfl
  have e2_2 := (HAT.out _ HG2.out).get (j := 2) rfl
  have e2_3 := (HAT.out _ HG2.out).get (j := 3) rfl
  simp only [Nat.add_zero, Nat.zero_add] at e2_0 e2_1 e2_2 e2_3
  go_wp2_with fail
  (try rw [HUI.out]); (try rw [HUP.out]); (try rw [HU4.out])
  refine (mput_any pw _ _ _ _ _ _ w2 HK2.out (by simp; omega)).mono ?_
  rintro e w3 ⟨rfl, hk3, hg3⟩
  have HK3 := Lib.hid hk3
  have HG3 := Lib.hid (HG2.out.trans hg3)
  clear hk3 hg3 e2_0 e2_1 e2_2 e2_3
  have e3_0 := (HAT.out _ HG3.out).get (j := 0) rfl
  have e3_1 := (HAT.out _ HG3.out).get (j := 1) rfl
  have e3_2 := (HAT.out _ HG3.out).get (j := 2) rfl
  have e3_3 := (HAT.out _ HG3.out).get (j := 3) rfl
  simp only [Nat.add_zero, Nat.zero_add] at e3_0 e3_1 e3_2 e3_3
  go_wp2_with fail
  go_end0
  exact ⟨rfl, by have := HK3.out; simpa using this, HB.out.trans HG3.out⟩
theorem ins_any_16 (pw : Nat) (l : List MicD) (op rd rs1 rs2 imm pc : Int) (w : World) (hk : MkW pw 133 w l) (hl : l.length ≤ 900) (hop : 16 ≤ op ∧ op ≤ 18)  :
    Calls Try.prog 78 #[.pointer (some ⟨pw, 0, none⟩), .agg #[.int .i64 op, .int .i64 rd, .int .i64 rs1, .int .i64 rs2, .int .i32 imm], .int .u32 pc] w fun e w' => e = .returned (.tuple #[]) ∧ MkW pw 133 w' (l ++ insM ⟨op, rd, rs1, rs2, imm⟩ pc) ∧ Grew pw 133 w w' := by
  have hb : insM ⟨op, rd, rs1, rs2, imm⟩ pc = ⟨1, 0, 0, 0, pc⟩ :: [⟨300 + op, 0, rs1, rs2, u32 imm⟩] := by
    unfold insM bodyM
    rw [if_neg (by dsimp only; omega)]
    rw [if_neg (by dsimp only; omega)]
    rw [if_neg (by dsimp only; omega)]
    rw [if_neg (by dsimp only; omega)]
    rw [if_neg (by dsimp only; omega)]
    rw [if_neg (by dsimp only; omega)]
    rw [if_pos (by dsimp only; omega)]
  rw [hb]
  clear hb
  obtain ⟨w1, hw1⟩ : ∃ w1, w1 = w.alloc (.cells #[.int .i64 op, .int .i64 rd, .int .i64 rs1, .int .i64 rs2, .int .i32 imm] 38) := ⟨_, rfl⟩
  have hb1 : Below w.heap.size w w1 := by rw [hw1]; exact Fb.blw
  have HAT : Hid (∀ W, Grew pw 133 w1 W → At W w.heap.size 0 [.int .i64 op, .int .i64 rd, .int .i64 rs1, .int .i64 rs2, .int .i32 imm]) := Lib.hid (fun W hW => ins_keeps hk.lt (by rw [hw1]; exact heap_alloc_new _ _) (by rw [hw1]; exact at_alloc w [.int .i64 op, .int .i64 rd, .int .i64 rs1, .int .i64 rs2, .int .i32 imm] _ _) hW)
  have HK := Lib.hid (hk.below hb1)
  have HB := Lib.hid (Grew.of_below (pw := pw) (ty := 133) hb1)
  have HW1 := Lib.hid hw1
  have HU : Hid (u32 imm = imm % 4294967296 ∧ u32 (pc + u32 imm) = (pc + imm % 4294967296) % 4294967296 ∧ u32 (pc + 4) = (pc + 4) % 4294967296) := Lib.hid ⟨rfl, rfl, rfl⟩
  obtain ⟨ui, hui⟩ : ∃ x, x = u32 imm := ⟨_, rfl⟩
  obtain ⟨up, hup⟩ : ∃ x, x = u32 (pc + ui) := ⟨_, rfl⟩
  obtain ⟨u4, hu4⟩ : ∃ x, x = u32 (pc + 4) := ⟨_, rfl⟩
  have HUI : Hid (imm % 4294967296 = ui) := Lib.hid (by rw [hui]; rfl)
  have HUP : Hid ((pc + ui) % 4294967296 = up) := Lib.hid (by rw [hup]; rfl)
  have HU4 : Hid ((pc + 4) % 4294967296 = u4) := Lib.hid (by rw [hu4]; rfl)
  rw [← hui, ← hup, ← hu4] at HU
  (try simp only [← hui, ← hup, ← hu4])
  clear hui hup hu4 hw1 hb1 hk HU
  have c0 := (HAT.out _ (Grew.refl _ _ _)).get (j := 0) rfl
  have c4 := (HAT.out _ (Grew.refl _ _ _)).get (j := 4) rfl
  simp only [Nat.add_zero, Nat.zero_add] at c0 c4
  have a0 : (op == 1) = false := by simp; omega
  have d0 : decide (op = 1) = false := by simp; omega
  have a1 : (op == 2) = false := by simp; omega
  have d1 : decide (op = 2) = false := by simp; omega
  have a2 : (op == 3) = false := by simp; omega
  have d2 : decide (op = 3) = false := by simp; omega
  have a3 : (op == 4) = false := by simp; omega
  have d3 : decide (op = 4) = false := by simp; omega
  have a4 : decide (op ≤ 10) = false := by simp; omega
  have a5 : decide (op ≤ 15) = false := by simp; omega
  have a6 : decide (op ≤ 18) = true := by simp; omega
  have aw : wrap64 (300 + op) = 300 + op := by unfold wrap64; omega
  go_enter Try.func78, Try.ntmps78
  go_upto_region 1 with (fail)
  rw [← HW1.out]
  go_upto_region 2 with (fail)
  try rw [HUI.out]
  go_wp2_with fail
  refine (mput_any pw l 1 0 0 0 pc w1 HK.out (by omega)).mono ?_
  rintro e w2 ⟨rfl, hk2, hg2⟩
  have HK2 := Lib.hid hk2
  have HG2 := Lib.hid hg2
  clear hk2 hg2 c0 c4
  have e2_0 := (HAT.out _ HG2.out).get (j := 0) rfl
  have e2_1 := (HAT.out _ HG2.out).get (j := 1) rfl
  have e2_2 := (HAT.out _ HG2.out).get (j := 2) rfl
  have e2_3 := (HAT.out _ HG2.out).get (j := 3) rfl
  simp only [Nat.add_zero, Nat.zero_add] at e2_0 e2_1 e2_2 e2_3
  go_wp2_with fail
  (try rw [HUI.out]); (try rw [HUP.out]); (try rw [HU4.out])
  refine (mput_any pw _ _ _ _ _ _ w2 HK2.out (by simp; omega)).mono ?_
  rintro e w3 ⟨rfl, hk3, hg3⟩
  have HK3 := Lib.hid hk3
  have HG3 := Lib.hid (HG2.out.trans hg3)
  clear hk3 hg3 e2_0 e2_1 e2_2 e2_3
  have e3_0 := (HAT.out _ HG3.out).get (j := 0) rfl
  have e3_1 := (HAT.out _ HG3.out).get (j := 1) rfl
  have e3_2 := (HAT.out _ HG3.out).get (j := 2) rfl
  have e3_3 := (HAT.out _ HG3.out).get (j := 3) rfl
  simp only [Nat.add_zero, Nat.zero_add] at e3_0 e3_1 e3_2 e3_3
  go_wp2_with fail
  go_end0
  exact ⟨rfl, by have := HK3.out; simpa using this, HB.out.trans HG3.out⟩
theorem ins_any_19 (pw : Nat) (l : List MicD) (op rd rs1 rs2 imm pc : Int) (w : World) (hk : MkW pw 133 w l) (hl : l.length ≤ 900) (hop : 19 ≤ op ∧ op ≤ 27)  :
    Calls Try.prog 78 #[.pointer (some ⟨pw, 0, none⟩), .agg #[.int .i64 op, .int .i64 rd, .int .i64 rs1, .int .i64 rs2, .int .i32 imm], .int .u32 pc] w fun e w' => e = .returned (.tuple #[]) ∧ MkW pw 133 w' (l ++ insM ⟨op, rd, rs1, rs2, imm⟩ pc) ∧ Grew pw 133 w w' := by
  have hb : insM ⟨op, rd, rs1, rs2, imm⟩ pc = ⟨1, 0, 0, 0, pc⟩ :: numM (numOp op) rd rs1 (u32 imm) := by
    unfold insM bodyM
    rw [if_neg (by dsimp only; omega)]
    rw [if_neg (by dsimp only; omega)]
    rw [if_neg (by dsimp only; omega)]
    rw [if_neg (by dsimp only; omega)]
    rw [if_neg (by dsimp only; omega)]
    rw [if_neg (by dsimp only; omega)]
    rw [if_neg (by dsimp only; omega)]
    rw [if_pos (by dsimp only; omega)]
  rw [hb]
  clear hb
  obtain ⟨w1, hw1⟩ : ∃ w1, w1 = w.alloc (.cells #[.int .i64 op, .int .i64 rd, .int .i64 rs1, .int .i64 rs2, .int .i32 imm] 38) := ⟨_, rfl⟩
  have hb1 : Below w.heap.size w w1 := by rw [hw1]; exact Fb.blw
  have HAT : Hid (∀ W, Grew pw 133 w1 W → At W w.heap.size 0 [.int .i64 op, .int .i64 rd, .int .i64 rs1, .int .i64 rs2, .int .i32 imm]) := Lib.hid (fun W hW => ins_keeps hk.lt (by rw [hw1]; exact heap_alloc_new _ _) (by rw [hw1]; exact at_alloc w [.int .i64 op, .int .i64 rd, .int .i64 rs1, .int .i64 rs2, .int .i32 imm] _ _) hW)
  have HK := Lib.hid (hk.below hb1)
  have HB := Lib.hid (Grew.of_below (pw := pw) (ty := 133) hb1)
  have HW1 := Lib.hid hw1
  have HU : Hid (u32 imm = imm % 4294967296 ∧ u32 (pc + u32 imm) = (pc + imm % 4294967296) % 4294967296 ∧ u32 (pc + 4) = (pc + 4) % 4294967296) := Lib.hid ⟨rfl, rfl, rfl⟩
  obtain ⟨ui, hui⟩ : ∃ x, x = u32 imm := ⟨_, rfl⟩
  obtain ⟨up, hup⟩ : ∃ x, x = u32 (pc + ui) := ⟨_, rfl⟩
  obtain ⟨u4, hu4⟩ : ∃ x, x = u32 (pc + 4) := ⟨_, rfl⟩
  have HUI : Hid (imm % 4294967296 = ui) := Lib.hid (by rw [hui]; rfl)
  have HUP : Hid ((pc + ui) % 4294967296 = up) := Lib.hid (by rw [hup]; rfl)
  have HU4 : Hid ((pc + 4) % 4294967296 = u4) := Lib.hid (by rw [hu4]; rfl)
  rw [← hui, ← hup, ← hu4] at HU
  (try simp only [← hui, ← hup, ← hu4])
  clear hui hup hu4 hw1 hb1 hk HU
  have c0 := (HAT.out _ (Grew.refl _ _ _)).get (j := 0) rfl
  have c4 := (HAT.out _ (Grew.refl _ _ _)).get (j := 4) rfl
  simp only [Nat.add_zero, Nat.zero_add] at c0 c4
  have a0 : (op == 1) = false := by simp; omega
  have d0 : decide (op = 1) = false := by simp; omega
  have a1 : (op == 2) = false := by simp; omega
  have d1 : decide (op = 2) = false := by simp; omega
  have a2 : (op == 3) = false := by simp; omega
  have d2 : decide (op = 3) = false := by simp; omega
  have a3 : (op == 4) = false := by simp; omega
  have d3 : decide (op = 4) = false := by simp; omega
  have a4 : decide (op ≤ 10) = false := by simp; omega
  have a5 : decide (op ≤ 15) = false := by simp; omega
  have a6 : decide (op ≤ 18) = false := by simp; omega
  have a7 : decide (op ≤ 27) = true := by simp; omega
  go_enter Try.func78, Try.ntmps78
  go_upto_region 1 with (fail)
  rw [← HW1.out]
  go_upto_region 2 with (fail)
  try rw [HUI.out]
  go_wp2_with fail
  refine (mput_any pw l 1 0 0 0 pc w1 HK.out (by omega)).mono ?_
  rintro e w2 ⟨rfl, hk2, hg2⟩
  have HK2 := Lib.hid hk2
  have HG2 := Lib.hid hg2
  clear hk2 hg2 c0 c4
  have e2_0 := (HAT.out _ HG2.out).get (j := 0) rfl
  have e2_1 := (HAT.out _ HG2.out).get (j := 1) rfl
  have e2_2 := (HAT.out _ HG2.out).get (j := 2) rfl
  have e2_3 := (HAT.out _ HG2.out).get (j := 3) rfl
  simp only [Nat.add_zero, Nat.zero_add] at e2_0 e2_1 e2_2 e2_3
  have HOP := Lib.hid (fun W => operation_any op W (by omega))
  have HNU := Lib.hid (fun W (hW : MkW pw 133 W (l ++ [⟨1, 0, 0, 0, pc⟩])) => number_any pw (l ++ [⟨1, 0, 0, 0, pc⟩]) (numOp op) op rd rs1 rs2 imm ui W hW (by simp; omega) (numOp_in op))
  go_upto_region 22 with (fail)
  have HBD : Hid (Below w2.heap.size w2 w2.drew) := Lib.hid (Below.drew (Below.refl _ _))
  have f0 := (HBD.out.cell (lt_of_cell e2_0)).trans e2_0
  have f1 := (HBD.out.cell (lt_of_cell e2_1)).trans e2_1
  have f2 := (HBD.out.cell (lt_of_cell e2_2)).trans e2_2
  have f3 := (HBD.out.cell (lt_of_cell e2_3)).trans e2_3
  have e2_4 := (HAT.out _ HG2.out).get (j := 4) rfl
  simp only [Nat.add_zero, Nat.zero_add] at e2_4
  have f4 := (HBD.out.cell (lt_of_cell e2_4)).trans e2_4
  obtain ⟨w3, hw3⟩ : ∃ w3, w3 = w2.drew := ⟨_, rfl⟩
  have HK3 : Hid (MkW pw 133 w3 (l ++ [⟨1, 0, 0, 0, pc⟩])) := Lib.hid (by rw [hw3]; exact HK2.out.below HBD.out)
  have HG3 : Hid (Grew pw 133 w1 w3) := Lib.hid (by rw [hw3]; exact HG2.out.trans (.of_below HBD.out))
  rw [← hw3] at f0 f1 f2 f3 f4
  have HW3 := Lib.hid hw3
  clear hw3 e2_0 e2_1 e2_2 e2_3 e2_4
  refine wp_region_still_tail 5 (by kernel_rfl) (by kernel_rfl) ?_
  simp only [List.take_succ_cons, List.take_zero, List.drop_succ_cons, List.drop_zero]
  change wpStill _ _ w2.drew (fun a' => wpList _ _ _ _ a' w2.drew) _ _
  rw [← HW3.out]
  iterate 2 still_step
  still_call (HOP.out _)
  iterate 2 still_step
  refine wpStill_nil ?_
  go_wp2_with fail
  refine (HNU.out _ HK3.out).mono ?_
  rintro e w4 ⟨rfl, hk4, hg4⟩
  go_wp2_with fail
  go_end0
  exact ⟨rfl, by simpa using hk4, HB.out.trans (HG3.out.trans hg4)⟩
theorem ins_any_28z (pw : Nat) (l : List MicD) (op rd rs1 rs2 imm pc : Int) (w : World) (hk : MkW pw 133 w l) (hl : l.length ≤ 900) (hop : 28 ≤ op ∧ op ≤ 45) (hz : rd = 0) :
    Calls Try.prog 78 #[.pointer (some ⟨pw, 0, none⟩), .agg #[.int .i64 op, .int .i64 rd, .int .i64 rs1, .int .i64 rs2, .int .i32 imm], .int .u32 pc] w fun e w' => e = .returned (.tuple #[]) ∧ MkW pw 133 w' (l ++ insM ⟨op, rd, rs1, rs2, imm⟩ pc) ∧ Grew pw 133 w w' := by
  have hb : insM ⟨op, rd, rs1, rs2, imm⟩ pc = ⟨1, 0, 0, 0, pc⟩ :: [] := by
    unfold insM bodyM
    rw [if_neg (by dsimp only; omega)]
    rw [if_neg (by dsimp only; omega)]
    rw [if_neg (by dsimp only; omega)]
    rw [if_neg (by dsimp only; omega)]
    rw [if_neg (by dsimp only; omega)]
    rw [if_neg (by dsimp only; omega)]
    rw [if_neg (by dsimp only; omega)]
    rw [if_neg (by dsimp only; omega)]
    rw [if_pos (by dsimp only; omega)]
    rw [if_pos hz]
  rw [hb]
  clear hb
  obtain ⟨w1, hw1⟩ : ∃ w1, w1 = w.alloc (.cells #[.int .i64 op, .int .i64 rd, .int .i64 rs1, .int .i64 rs2, .int .i32 imm] 38) := ⟨_, rfl⟩
  have hb1 : Below w.heap.size w w1 := by rw [hw1]; exact Fb.blw
  have HAT : Hid (∀ W, Grew pw 133 w1 W → At W w.heap.size 0 [.int .i64 op, .int .i64 rd, .int .i64 rs1, .int .i64 rs2, .int .i32 imm]) := Lib.hid (fun W hW => ins_keeps hk.lt (by rw [hw1]; exact heap_alloc_new _ _) (by rw [hw1]; exact at_alloc w [.int .i64 op, .int .i64 rd, .int .i64 rs1, .int .i64 rs2, .int .i32 imm] _ _) hW)
  have HK := Lib.hid (hk.below hb1)
  have HB := Lib.hid (Grew.of_below (pw := pw) (ty := 133) hb1)
  have HW1 := Lib.hid hw1
  have HU : Hid (u32 imm = imm % 4294967296 ∧ u32 (pc + u32 imm) = (pc + imm % 4294967296) % 4294967296 ∧ u32 (pc + 4) = (pc + 4) % 4294967296) := Lib.hid ⟨rfl, rfl, rfl⟩
  obtain ⟨ui, hui⟩ : ∃ x, x = u32 imm := ⟨_, rfl⟩
  obtain ⟨up, hup⟩ : ∃ x, x = u32 (pc + ui) := ⟨_, rfl⟩
  obtain ⟨u4, hu4⟩ : ∃ x, x = u32 (pc + 4) := ⟨_, rfl⟩
  have HUI : Hid (imm % 4294967296 = ui) := Lib.hid (by rw [hui]; rfl)
  have HUP : Hid ((pc + ui) % 4294967296 = up) := Lib.hid (by rw [hup]; rfl)
  have HU4 : Hid ((pc + 4) % 4294967296 = u4) := Lib.hid (by rw [hu4]; rfl)
  rw [← hui, ← hup, ← hu4] at HU
  (try simp only [← hui, ← hup, ← hu4])
  clear hui hup hu4 hw1 hb1 hk HU
  have c0 := (HAT.out _ (Grew.refl _ _ _)).get (j := 0) rfl
  have c4 := (HAT.out _ (Grew.refl _ _ _)).get (j := 4) rfl
  simp only [Nat.add_zero, Nat.zero_add] at c0 c4
  have a0 : (op == 1) = false := by simp; omega
  have d0 : decide (op = 1) = false := by simp; omega
  have a1 : (op == 2) = false := by simp; omega
  have d1 : decide (op = 2) = false := by simp; omega
  have a2 : (op == 3) = false := by simp; omega
  have d2 : decide (op = 3) = false := by simp; omega
  have a3 : (op == 4) = false := by simp; omega
  have d3 : decide (op = 4) = false := by simp; omega
  have a4 : decide (op ≤ 10) = false := by simp; omega
  have a5 : decide (op ≤ 15) = false := by simp; omega
  have a6 : decide (op ≤ 18) = false := by simp; omega
  have a7 : decide (op ≤ 27) = false := by simp; omega
  have a8 : decide (op ≤ 45) = true := by simp; omega
  have aw : wrap64 (400 + op) = 400 + op := by unfold wrap64; omega
  subst hz
  go_enter Try.func78, Try.ntmps78
  go_upto_region 1 with (fail)
  rw [← HW1.out]
  go_upto_region 2 with (fail)
  try rw [HUI.out]
  go_wp2_with fail
  refine (mput_any pw l 1 0 0 0 pc w1 HK.out (by omega)).mono ?_
  rintro e w2 ⟨rfl, hk2, hg2⟩
  have HK2 := Lib.hid hk2
  have HG2 := Lib.hid hg2
  clear hk2 hg2 c0 c4
  have e2_0 := (HAT.out _ HG2.out).get (j := 0) rfl
  have e2_1 := (HAT.out _ HG2.out).get (j := 1) rfl
  have e2_2 := (HAT.out _ HG2.out).get (j := 2) rfl
  have e2_3 := (HAT.out _ HG2.out).get (j := 3) rfl
  simp only [Nat.add_zero, Nat.zero_add] at e2_0 e2_1 e2_2 e2_3
  go_wp2_with fail
  go_end0
  exact ⟨rfl, HK2.out, HB.out.trans HG2.out⟩
theorem ins_any_28 (pw : Nat) (l : List MicD) (op rd rs1 rs2 imm pc : Int) (w : World) (hk : MkW pw 133 w l) (hl : l.length ≤ 900) (hop : 28 ≤ op ∧ op ≤ 45) (hz : ¬ rd = 0) :
    Calls Try.prog 78 #[.pointer (some ⟨pw, 0, none⟩), .agg #[.int .i64 op, .int .i64 rd, .int .i64 rs1, .int .i64 rs2, .int .i32 imm], .int .u32 pc] w fun e w' => e = .returned (.tuple #[]) ∧ MkW pw 133 w' (l ++ insM ⟨op, rd, rs1, rs2, imm⟩ pc) ∧ Grew pw 133 w w' := by
  have hb : insM ⟨op, rd, rs1, rs2, imm⟩ pc = ⟨1, 0, 0, 0, pc⟩ :: [⟨400 + op, rd, rs1, rs2, 0⟩] := by
    unfold insM bodyM
    rw [if_neg (by dsimp only; omega)]
    rw [if_neg (by dsimp only; omega)]
    rw [if_neg (by dsimp only; omega)]
    rw [if_neg (by dsimp only; omega)]
    rw [if_neg (by dsimp only; omega)]
    rw [if_neg (by dsimp only; omega)]
    rw [if_neg (by dsimp only; omega)]
    rw [if_neg (by dsimp only; omega)]
    rw [if_pos (by dsimp only; omega)]
    rw [if_neg hz]
  rw [hb]
  clear hb
  obtain ⟨w1, hw1⟩ : ∃ w1, w1 = w.alloc (.cells #[.int .i64 op, .int .i64 rd, .int .i64 rs1, .int .i64 rs2, .int .i32 imm] 38) := ⟨_, rfl⟩
  have hb1 : Below w.heap.size w w1 := by rw [hw1]; exact Fb.blw
  have HAT : Hid (∀ W, Grew pw 133 w1 W → At W w.heap.size 0 [.int .i64 op, .int .i64 rd, .int .i64 rs1, .int .i64 rs2, .int .i32 imm]) := Lib.hid (fun W hW => ins_keeps hk.lt (by rw [hw1]; exact heap_alloc_new _ _) (by rw [hw1]; exact at_alloc w [.int .i64 op, .int .i64 rd, .int .i64 rs1, .int .i64 rs2, .int .i32 imm] _ _) hW)
  have HK := Lib.hid (hk.below hb1)
  have HB := Lib.hid (Grew.of_below (pw := pw) (ty := 133) hb1)
  have HW1 := Lib.hid hw1
  have HU : Hid (u32 imm = imm % 4294967296 ∧ u32 (pc + u32 imm) = (pc + imm % 4294967296) % 4294967296 ∧ u32 (pc + 4) = (pc + 4) % 4294967296) := Lib.hid ⟨rfl, rfl, rfl⟩
  obtain ⟨ui, hui⟩ : ∃ x, x = u32 imm := ⟨_, rfl⟩
  obtain ⟨up, hup⟩ : ∃ x, x = u32 (pc + ui) := ⟨_, rfl⟩
  obtain ⟨u4, hu4⟩ : ∃ x, x = u32 (pc + 4) := ⟨_, rfl⟩
  have HUI : Hid (imm % 4294967296 = ui) := Lib.hid (by rw [hui]; rfl)
  have HUP : Hid ((pc + ui) % 4294967296 = up) := Lib.hid (by rw [hup]; rfl)
  have HU4 : Hid ((pc + 4) % 4294967296 = u4) := Lib.hid (by rw [hu4]; rfl)
  rw [← hui, ← hup, ← hu4] at HU
  (try simp only [← hui, ← hup, ← hu4])
  clear hui hup hu4 hw1 hb1 hk HU
  have c0 := (HAT.out _ (Grew.refl _ _ _)).get (j := 0) rfl
  have c4 := (HAT.out _ (Grew.refl _ _ _)).get (j := 4) rfl
  simp only [Nat.add_zero, Nat.zero_add] at c0 c4
  have a0 : (op == 1) = false := by simp; omega
  have d0 : decide (op = 1) = false := by simp; omega
  have a1 : (op == 2) = false := by simp; omega
  have d1 : decide (op = 2) = false := by simp; omega
  have a2 : (op == 3) = false := by simp; omega
  have d2 : decide (op = 3) = false := by simp; omega
  have a3 : (op == 4) = false := by simp; omega
  have d3 : decide (op = 4) = false := by simp; omega
  have a4 : decide (op ≤ 10) = false := by simp; omega
  have a5 : decide (op ≤ 15) = false := by simp; omega
  have a6 : decide (op ≤ 18) = false := by simp; omega
  have a7 : decide (op ≤ 27) = false := by simp; omega
  have a8 : decide (op ≤ 45) = true := by simp; omega
  have aw : wrap64 (400 + op) = 400 + op := by unfold wrap64; omega
  have z1 : (rd == 0) = false := by simp; omega
  have z2 : decide (rd = 0) = false := by simp; omega
  have z3 : (rd != 0) = true := by simp; omega
  go_enter Try.func78, Try.ntmps78
  go_upto_region 1 with (fail)
  rw [← HW1.out]
  go_upto_region 2 with (fail)
  try rw [HUI.out]
  go_wp2_with fail
  refine (mput_any pw l 1 0 0 0 pc w1 HK.out (by omega)).mono ?_
  rintro e w2 ⟨rfl, hk2, hg2⟩
  have HK2 := Lib.hid hk2
  have HG2 := Lib.hid hg2
  clear hk2 hg2 c0 c4
  have e2_0 := (HAT.out _ HG2.out).get (j := 0) rfl
  have e2_1 := (HAT.out _ HG2.out).get (j := 1) rfl
  have e2_2 := (HAT.out _ HG2.out).get (j := 2) rfl
  have e2_3 := (HAT.out _ HG2.out).get (j := 3) rfl
  simp only [Nat.add_zero, Nat.zero_add] at e2_0 e2_1 e2_2 e2_3
  go_wp2_with fail
  (try rw [HUI.out]); (try rw [HUP.out]); (try rw [HU4.out])
  refine (mput_any pw _ _ _ _ _ _ w2 HK2.out (by simp; omega)).mono ?_
  rintro e w3 ⟨rfl, hk3, hg3⟩
  have HK3 := Lib.hid hk3
  have HG3 := Lib.hid (HG2.out.trans hg3)
  clear hk3 hg3 e2_0 e2_1 e2_2 e2_3
  have e3_0 := (HAT.out _ HG3.out).get (j := 0) rfl
  have e3_1 := (HAT.out _ HG3.out).get (j := 1) rfl
  have e3_2 := (HAT.out _ HG3.out).get (j := 2) rfl
  have e3_3 := (HAT.out _ HG3.out).get (j := 3) rfl
  simp only [Nat.add_zero, Nat.zero_add] at e3_0 e3_1 e3_2 e3_3
  go_wp2_with fail
  go_end0
  exact ⟨rfl, by have := HK3.out; simpa using this, HB.out.trans HG3.out⟩
theorem ins_any_46 (pw : Nat) (l : List MicD) (op rd rs1 rs2 imm pc : Int) (w : World) (hk : MkW pw 133 w l) (hl : l.length ≤ 900) (hop : 46 ≤ op ∧ op ≤ 56)  :
    Calls Try.prog 78 #[.pointer (some ⟨pw, 0, none⟩), .agg #[.int .i64 op, .int .i64 rd, .int .i64 rs1, .int .i64 rs2, .int .i32 imm], .int .u32 pc] w fun e w' => e = .returned (.tuple #[]) ∧ MkW pw 133 w' (l ++ insM ⟨op, rd, rs1, rs2, imm⟩ pc) ∧ Grew pw 133 w w' := by
  have hb : insM ⟨op, rd, rs1, rs2, imm⟩ pc = ⟨1, 0, 0, 0, pc⟩ :: [⟨600 + op, rd, rs1, rs2, 0⟩] := by
    unfold insM bodyM
    rw [if_neg (by dsimp only; omega)]
    rw [if_neg (by dsimp only; omega)]
    rw [if_neg (by dsimp only; omega)]
    rw [if_neg (by dsimp only; omega)]
    rw [if_neg (by dsimp only; omega)]
    rw [if_neg (by dsimp only; omega)]
    rw [if_neg (by dsimp only; omega)]
    rw [if_neg (by dsimp only; omega)]
    rw [if_neg (by dsimp only; omega)]
    rw [if_pos (by dsimp only; omega)]
  rw [hb]
  clear hb
  obtain ⟨w1, hw1⟩ : ∃ w1, w1 = w.alloc (.cells #[.int .i64 op, .int .i64 rd, .int .i64 rs1, .int .i64 rs2, .int .i32 imm] 38) := ⟨_, rfl⟩
  have hb1 : Below w.heap.size w w1 := by rw [hw1]; exact Fb.blw
  have HAT : Hid (∀ W, Grew pw 133 w1 W → At W w.heap.size 0 [.int .i64 op, .int .i64 rd, .int .i64 rs1, .int .i64 rs2, .int .i32 imm]) := Lib.hid (fun W hW => ins_keeps hk.lt (by rw [hw1]; exact heap_alloc_new _ _) (by rw [hw1]; exact at_alloc w [.int .i64 op, .int .i64 rd, .int .i64 rs1, .int .i64 rs2, .int .i32 imm] _ _) hW)
  have HK := Lib.hid (hk.below hb1)
  have HB := Lib.hid (Grew.of_below (pw := pw) (ty := 133) hb1)
  have HW1 := Lib.hid hw1
  have HU : Hid (u32 imm = imm % 4294967296 ∧ u32 (pc + u32 imm) = (pc + imm % 4294967296) % 4294967296 ∧ u32 (pc + 4) = (pc + 4) % 4294967296) := Lib.hid ⟨rfl, rfl, rfl⟩
  obtain ⟨ui, hui⟩ : ∃ x, x = u32 imm := ⟨_, rfl⟩
  obtain ⟨up, hup⟩ : ∃ x, x = u32 (pc + ui) := ⟨_, rfl⟩
  obtain ⟨u4, hu4⟩ : ∃ x, x = u32 (pc + 4) := ⟨_, rfl⟩
  have HUI : Hid (imm % 4294967296 = ui) := Lib.hid (by rw [hui]; rfl)
  have HUP : Hid ((pc + ui) % 4294967296 = up) := Lib.hid (by rw [hup]; rfl)
  have HU4 : Hid ((pc + 4) % 4294967296 = u4) := Lib.hid (by rw [hu4]; rfl)
  rw [← hui, ← hup, ← hu4] at HU
  (try simp only [← hui, ← hup, ← hu4])
  clear hui hup hu4 hw1 hb1 hk HU
  have c0 := (HAT.out _ (Grew.refl _ _ _)).get (j := 0) rfl
  have c4 := (HAT.out _ (Grew.refl _ _ _)).get (j := 4) rfl
  simp only [Nat.add_zero, Nat.zero_add] at c0 c4
  have a0 : (op == 1) = false := by simp; omega
  have d0 : decide (op = 1) = false := by simp; omega
  have a1 : (op == 2) = false := by simp; omega
  have d1 : decide (op = 2) = false := by simp; omega
  have a2 : (op == 3) = false := by simp; omega
  have d2 : decide (op = 3) = false := by simp; omega
  have a3 : (op == 4) = false := by simp; omega
  have d3 : decide (op = 4) = false := by simp; omega
  have a4 : decide (op ≤ 10) = false := by simp; omega
  have a5 : decide (op ≤ 15) = false := by simp; omega
  have a6 : decide (op ≤ 18) = false := by simp; omega
  have a7 : decide (op ≤ 27) = false := by simp; omega
  have a8 : decide (op ≤ 45) = false := by simp; omega
  have a9 : decide (op ≤ 56) = true := by simp; omega
  have aw : wrap64 (600 + op) = 600 + op := by unfold wrap64; omega
  go_enter Try.func78, Try.ntmps78
  go_upto_region 1 with (fail)
  rw [← HW1.out]
  go_upto_region 2 with (fail)
  try rw [HUI.out]
  go_wp2_with fail
  refine (mput_any pw l 1 0 0 0 pc w1 HK.out (by omega)).mono ?_
  rintro e w2 ⟨rfl, hk2, hg2⟩
  have HK2 := Lib.hid hk2
  have HG2 := Lib.hid hg2
  clear hk2 hg2 c0 c4
  have e2_0 := (HAT.out _ HG2.out).get (j := 0) rfl
  have e2_1 := (HAT.out _ HG2.out).get (j := 1) rfl
  have e2_2 := (HAT.out _ HG2.out).get (j := 2) rfl
  have e2_3 := (HAT.out _ HG2.out).get (j := 3) rfl
  simp only [Nat.add_zero, Nat.zero_add] at e2_0 e2_1 e2_2 e2_3
  go_wp2_with fail
  (try rw [HUI.out]); (try rw [HUP.out]); (try rw [HU4.out])
  refine (mput_any pw _ _ _ _ _ _ w2 HK2.out (by simp; omega)).mono ?_
  rintro e w3 ⟨rfl, hk3, hg3⟩
  have HK3 := Lib.hid hk3
  have HG3 := Lib.hid (HG2.out.trans hg3)
  clear hk3 hg3 e2_0 e2_1 e2_2 e2_3
  have e3_0 := (HAT.out _ HG3.out).get (j := 0) rfl
  have e3_1 := (HAT.out _ HG3.out).get (j := 1) rfl
  have e3_2 := (HAT.out _ HG3.out).get (j := 2) rfl
  have e3_3 := (HAT.out _ HG3.out).get (j := 3) rfl
  simp only [Nat.add_zero, Nat.zero_add] at e3_0 e3_1 e3_2 e3_3
  go_wp2_with fail
  go_end0
  exact ⟨rfl, by have := HK3.out; simpa using this, HB.out.trans HG3.out⟩
theorem ins_any_57 (pw : Nat) (l : List MicD) (op rd rs1 rs2 imm pc : Int) (w : World) (hk : MkW pw 133 w l) (hl : l.length ≤ 900) (hop : 57 ≤ op ∧ op ≤ 57)  :
    Calls Try.prog 78 #[.pointer (some ⟨pw, 0, none⟩), .agg #[.int .i64 op, .int .i64 rd, .int .i64 rs1, .int .i64 rs2, .int .i32 imm], .int .u32 pc] w fun e w' => e = .returned (.tuple #[]) ∧ MkW pw 133 w' (l ++ insM ⟨op, rd, rs1, rs2, imm⟩ pc) ∧ Grew pw 133 w w' := by
  have hb : insM ⟨op, rd, rs1, rs2, imm⟩ pc = ⟨1, 0, 0, 0, pc⟩ :: [] := by
    unfold insM bodyM
    rw [if_neg (by dsimp only; omega)]
    rw [if_neg (by dsimp only; omega)]
    rw [if_neg (by dsimp only; omega)]
    rw [if_neg (by dsimp only; omega)]
    rw [if_neg (by dsimp only; omega)]
    rw [if_neg (by dsimp only; omega)]
    rw [if_neg (by dsimp only; omega)]
    rw [if_neg (by dsimp only; omega)]
    rw [if_neg (by dsimp only; omega)]
    rw [if_neg (by dsimp only; omega)]
    rw [if_neg (by dsimp only; omega)]
    rw [if_neg (by dsimp only; omega)]
  rw [hb]
  clear hb
  obtain ⟨w1, hw1⟩ : ∃ w1, w1 = w.alloc (.cells #[.int .i64 op, .int .i64 rd, .int .i64 rs1, .int .i64 rs2, .int .i32 imm] 38) := ⟨_, rfl⟩
  have hb1 : Below w.heap.size w w1 := by rw [hw1]; exact Fb.blw
  have HAT : Hid (∀ W, Grew pw 133 w1 W → At W w.heap.size 0 [.int .i64 op, .int .i64 rd, .int .i64 rs1, .int .i64 rs2, .int .i32 imm]) := Lib.hid (fun W hW => ins_keeps hk.lt (by rw [hw1]; exact heap_alloc_new _ _) (by rw [hw1]; exact at_alloc w [.int .i64 op, .int .i64 rd, .int .i64 rs1, .int .i64 rs2, .int .i32 imm] _ _) hW)
  have HK := Lib.hid (hk.below hb1)
  have HB := Lib.hid (Grew.of_below (pw := pw) (ty := 133) hb1)
  have HW1 := Lib.hid hw1
  have HU : Hid (u32 imm = imm % 4294967296 ∧ u32 (pc + u32 imm) = (pc + imm % 4294967296) % 4294967296 ∧ u32 (pc + 4) = (pc + 4) % 4294967296) := Lib.hid ⟨rfl, rfl, rfl⟩
  obtain ⟨ui, hui⟩ : ∃ x, x = u32 imm := ⟨_, rfl⟩
  obtain ⟨up, hup⟩ : ∃ x, x = u32 (pc + ui) := ⟨_, rfl⟩
  obtain ⟨u4, hu4⟩ : ∃ x, x = u32 (pc + 4) := ⟨_, rfl⟩
  have HUI : Hid (imm % 4294967296 = ui) := Lib.hid (by rw [hui]; rfl)
  have HUP : Hid ((pc + ui) % 4294967296 = up) := Lib.hid (by rw [hup]; rfl)
  have HU4 : Hid ((pc + 4) % 4294967296 = u4) := Lib.hid (by rw [hu4]; rfl)
  rw [← hui, ← hup, ← hu4] at HU
  (try simp only [← hui, ← hup, ← hu4])
  clear hui hup hu4 hw1 hb1 hk HU
  have c0 := (HAT.out _ (Grew.refl _ _ _)).get (j := 0) rfl
  have c4 := (HAT.out _ (Grew.refl _ _ _)).get (j := 4) rfl
  simp only [Nat.add_zero, Nat.zero_add] at c0 c4
  obtain rfl : op = 57 := by omega
  go_enter Try.func78, Try.ntmps78
  go_upto_region 1 with (fail)
  rw [← HW1.out]
  go_upto_region 2 with (fail)
  try rw [HUI.out]
  go_wp2_with fail
  refine (mput_any pw l 1 0 0 0 pc w1 HK.out (by omega)).mono ?_
  rintro e w2 ⟨rfl, hk2, hg2⟩
  have HK2 := Lib.hid hk2
  have HG2 := Lib.hid hg2
  clear hk2 hg2 c0 c4
  have e2_0 := (HAT.out _ HG2.out).get (j := 0) rfl
  have e2_1 := (HAT.out _ HG2.out).get (j := 1) rfl
  have e2_2 := (HAT.out _ HG2.out).get (j := 2) rfl
  have e2_3 := (HAT.out _ HG2.out).get (j := 3) rfl
  simp only [Nat.add_zero, Nat.zero_add] at e2_0 e2_1 e2_2 e2_3
  go_wp2_with fail
  go_end0
  exact ⟨rfl, HK2.out, HB.out.trans HG2.out⟩
theorem ins_any_58 (pw : Nat) (l : List MicD) (op rd rs1 rs2 imm pc : Int) (w : World) (hk : MkW pw 133 w l) (hl : l.length ≤ 900) (hop : 58 ≤ op ∧ op ≤ 58)  :
    Calls Try.prog 78 #[.pointer (some ⟨pw, 0, none⟩), .agg #[.int .i64 op, .int .i64 rd, .int .i64 rs1, .int .i64 rs2, .int .i32 imm], .int .u32 pc] w fun e w' => e = .returned (.tuple #[]) ∧ MkW pw 133 w' (l ++ insM ⟨op, rd, rs1, rs2, imm⟩ pc) ∧ Grew pw 133 w w' := by
  have hb : insM ⟨op, rd, rs1, rs2, imm⟩ pc = ⟨1, 0, 0, 0, pc⟩ :: [⟨5, 0, 0, 0, 0⟩] := by
    unfold insM bodyM
    rw [if_neg (by dsimp only; omega)]
    rw [if_neg (by dsimp only; omega)]
    rw [if_neg (by dsimp only; omega)]
    rw [if_neg (by dsimp only; omega)]
    rw [if_neg (by dsimp only; omega)]
    rw [if_neg (by dsimp only; omega)]
    rw [if_neg (by dsimp only; omega)]
    rw [if_neg (by dsimp only; omega)]
    rw [if_neg (by dsimp only; omega)]
    rw [if_neg (by dsimp only; omega)]
    rw [if_pos (by dsimp only; omega)]
  rw [hb]
  clear hb
  obtain ⟨w1, hw1⟩ : ∃ w1, w1 = w.alloc (.cells #[.int .i64 op, .int .i64 rd, .int .i64 rs1, .int .i64 rs2, .int .i32 imm] 38) := ⟨_, rfl⟩
  have hb1 : Below w.heap.size w w1 := by rw [hw1]; exact Fb.blw
  have HAT : Hid (∀ W, Grew pw 133 w1 W → At W w.heap.size 0 [.int .i64 op, .int .i64 rd, .int .i64 rs1, .int .i64 rs2, .int .i32 imm]) := Lib.hid (fun W hW => ins_keeps hk.lt (by rw [hw1]; exact heap_alloc_new _ _) (by rw [hw1]; exact at_alloc w [.int .i64 op, .int .i64 rd, .int .i64 rs1, .int .i64 rs2, .int .i32 imm] _ _) hW)
  have HK := Lib.hid (hk.below hb1)
  have HB := Lib.hid (Grew.of_below (pw := pw) (ty := 133) hb1)
  have HW1 := Lib.hid hw1
  have HU : Hid (u32 imm = imm % 4294967296 ∧ u32 (pc + u32 imm) = (pc + imm % 4294967296) % 4294967296 ∧ u32 (pc + 4) = (pc + 4) % 4294967296) := Lib.hid ⟨rfl, rfl, rfl⟩
  obtain ⟨ui, hui⟩ : ∃ x, x = u32 imm := ⟨_, rfl⟩
  obtain ⟨up, hup⟩ : ∃ x, x = u32 (pc + ui) := ⟨_, rfl⟩
  obtain ⟨u4, hu4⟩ : ∃ x, x = u32 (pc + 4) := ⟨_, rfl⟩
  have HUI : Hid (imm % 4294967296 = ui) := Lib.hid (by rw [hui]; rfl)
  have HUP : Hid ((pc + ui) % 4294967296 = up) := Lib.hid (by rw [hup]; rfl)
  have HU4 : Hid ((pc + 4) % 4294967296 = u4) := Lib.hid (by rw [hu4]; rfl)
  rw [← hui, ← hup, ← hu4] at HU
  (try simp only [← hui, ← hup, ← hu4])
  clear hui hup hu4 hw1 hb1 hk HU
  have c0 := (HAT.out _ (Grew.refl _ _ _)).get (j := 0) rfl
  have c4 := (HAT.out _ (Grew.refl _ _ _)).get (j := 4) rfl
  simp only [Nat.add_zero, Nat.zero_add] at c0 c4
  obtain rfl : op = 58 := by omega
  go_enter Try.func78, Try.ntmps78
  go_upto_region 1 with (fail)
  rw [← HW1.out]
  go_upto_region 2 with (fail)
  try rw [HUI.out]
  go_wp2_with fail
  refine (mput_any pw l 1 0 0 0 pc w1 HK.out (by omega)).mono ?_
  rintro e w2 ⟨rfl, hk2, hg2⟩
  have HK2 := Lib.hid hk2
  have HG2 := Lib.hid hg2
  clear hk2 hg2 c0 c4
  have e2_0 := (HAT.out _ HG2.out).get (j := 0) rfl
  have e2_1 := (HAT.out _ HG2.out).get (j := 1) rfl
  have e2_2 := (HAT.out _ HG2.out).get (j := 2) rfl
  have e2_3 := (HAT.out _ HG2.out).get (j := 3) rfl
  simp only [Nat.add_zero, Nat.zero_add] at e2_0 e2_1 e2_2 e2_3
  go_wp2_with fail
  (try rw [HUI.out]); (try rw [HUP.out]); (try rw [HU4.out])
  refine (mput_any pw _ _ _ _ _ _ w2 HK2.out (by simp; omega)).mono ?_
  rintro e w3 ⟨rfl, hk3, hg3⟩
  have HK3 := Lib.hid hk3
  have HG3 := Lib.hid (HG2.out.trans hg3)
  clear hk3 hg3 e2_0 e2_1 e2_2 e2_3
  have e3_0 := (HAT.out _ HG3.out).get (j := 0) rfl
  have e3_1 := (HAT.out _ HG3.out).get (j := 1) rfl
  have e3_2 := (HAT.out _ HG3.out).get (j := 2) rfl
  have e3_3 := (HAT.out _ HG3.out).get (j := 3) rfl
  simp only [Nat.add_zero, Nat.zero_add] at e3_0 e3_1 e3_2 e3_3
  go_wp2_with fail
  go_end0
  exact ⟨rfl, by have := HK3.out; simpa using this, HB.out.trans HG3.out⟩
theorem ins_any_59 (pw : Nat) (l : List MicD) (op rd rs1 rs2 imm pc : Int) (w : World) (hk : MkW pw 133 w l) (hl : l.length ≤ 900) (hop : 59 ≤ op ∧ op ≤ 59)  :
    Calls Try.prog 78 #[.pointer (some ⟨pw, 0, none⟩), .agg #[.int .i64 op, .int .i64 rd, .int .i64 rs1, .int .i64 rs2, .int .i32 imm], .int .u32 pc] w fun e w' => e = .returned (.tuple #[]) ∧ MkW pw 133 w' (l ++ insM ⟨op, rd, rs1, rs2, imm⟩ pc) ∧ Grew pw 133 w w' := by
  have hb : insM ⟨op, rd, rs1, rs2, imm⟩ pc = ⟨1, 0, 0, 0, pc⟩ :: [⟨6, 0, 0, 0, 0⟩] := by
    unfold insM bodyM
    rw [if_neg (by dsimp only; omega)]
    rw [if_neg (by dsimp only; omega)]
    rw [if_neg (by dsimp only; omega)]
    rw [if_neg (by dsimp only; omega)]
    rw [if_neg (by dsimp only; omega)]
    rw [if_neg (by dsimp only; omega)]
    rw [if_neg (by dsimp only; omega)]
    rw [if_neg (by dsimp only; omega)]
    rw [if_neg (by dsimp only; omega)]
    rw [if_neg (by dsimp only; omega)]
    rw [if_neg (by dsimp only; omega)]
    rw [if_pos (by dsimp only; omega)]
  rw [hb]
  clear hb
  obtain ⟨w1, hw1⟩ : ∃ w1, w1 = w.alloc (.cells #[.int .i64 op, .int .i64 rd, .int .i64 rs1, .int .i64 rs2, .int .i32 imm] 38) := ⟨_, rfl⟩
  have hb1 : Below w.heap.size w w1 := by rw [hw1]; exact Fb.blw
  have HAT : Hid (∀ W, Grew pw 133 w1 W → At W w.heap.size 0 [.int .i64 op, .int .i64 rd, .int .i64 rs1, .int .i64 rs2, .int .i32 imm]) := Lib.hid (fun W hW => ins_keeps hk.lt (by rw [hw1]; exact heap_alloc_new _ _) (by rw [hw1]; exact at_alloc w [.int .i64 op, .int .i64 rd, .int .i64 rs1, .int .i64 rs2, .int .i32 imm] _ _) hW)
  have HK := Lib.hid (hk.below hb1)
  have HB := Lib.hid (Grew.of_below (pw := pw) (ty := 133) hb1)
  have HW1 := Lib.hid hw1
  have HU : Hid (u32 imm = imm % 4294967296 ∧ u32 (pc + u32 imm) = (pc + imm % 4294967296) % 4294967296 ∧ u32 (pc + 4) = (pc + 4) % 4294967296) := Lib.hid ⟨rfl, rfl, rfl⟩
  obtain ⟨ui, hui⟩ : ∃ x, x = u32 imm := ⟨_, rfl⟩
  obtain ⟨up, hup⟩ : ∃ x, x = u32 (pc + ui) := ⟨_, rfl⟩
  obtain ⟨u4, hu4⟩ : ∃ x, x = u32 (pc + 4) := ⟨_, rfl⟩
  have HUI : Hid (imm % 4294967296 = ui) := Lib.hid (by rw [hui]; rfl)
  have HUP : Hid ((pc + ui) % 4294967296 = up) := Lib.hid (by rw [hup]; rfl)
  have HU4 : Hid ((pc + 4) % 4294967296 = u4) := Lib.hid (by rw [hu4]; rfl)
  rw [← hui, ← hup, ← hu4] at HU
  (try simp only [← hui, ← hup, ← hu4])
  clear hui hup hu4 hw1 hb1 hk HU
  have c0 := (HAT.out _ (Grew.refl _ _ _)).get (j := 0) rfl
  have c4 := (HAT.out _ (Grew.refl _ _ _)).get (j := 4) rfl
  simp only [Nat.add_zero, Nat.zero_add] at c0 c4
  obtain rfl : op = 59 := by omega
  go_enter Try.func78, Try.ntmps78
  go_upto_region 1 with (fail)
  rw [← HW1.out]
  go_upto_region 2 with (fail)
  try rw [HUI.out]
  go_wp2_with fail
  refine (mput_any pw l 1 0 0 0 pc w1 HK.out (by omega)).mono ?_
  rintro e w2 ⟨rfl, hk2, hg2⟩
  have HK2 := Lib.hid hk2
  have HG2 := Lib.hid hg2
  clear hk2 hg2 c0 c4
  have e2_0 := (HAT.out _ HG2.out).get (j := 0) rfl
  have e2_1 := (HAT.out _ HG2.out).get (j := 1) rfl
  have e2_2 := (HAT.out _ HG2.out).get (j := 2) rfl
  have e2_3 := (HAT.out _ HG2.out).get (j := 3) rfl
  simp only [Nat.add_zero, Nat.zero_add] at e2_0 e2_1 e2_2 e2_3
  go_wp2_with fail
  (try rw [HUI.out]); (try rw [HUP.out]); (try rw [HU4.out])
  refine (mput_any pw _ _ _ _ _ _ w2 HK2.out (by simp; omega)).mono ?_
  rintro e w3 ⟨rfl, hk3, hg3⟩
  have HK3 := Lib.hid hk3
  have HG3 := Lib.hid (HG2.out.trans hg3)
  clear hk3 hg3 e2_0 e2_1 e2_2 e2_3
  have e3_0 := (HAT.out _ HG3.out).get (j := 0) rfl
  have e3_1 := (HAT.out _ HG3.out).get (j := 1) rfl
  have e3_2 := (HAT.out _ HG3.out).get (j := 2) rfl
  have e3_3 := (HAT.out _ HG3.out).get (j := 3) rfl
  simp only [Nat.add_zero, Nat.zero_add] at e3_0 e3_1 e3_2 e3_3
  go_wp2_with fail
  go_end0
  exact ⟨rfl, by have := HK3.out; simpa using this, HB.out.trans HG3.out⟩
theorem ins_any (pw : Nat) (l : List MicD) (i : InsD) (pc : Int) (w : World) (hk : MkW pw 133 w l) (hl : l.length ≤ 900) (hi : isS i = true) :
    Calls Try.prog 78 #[.pointer (some ⟨pw, 0, none⟩), .agg (icells i), .int .u32 pc] w fun e w' => e = .returned (.tuple #[]) ∧ MkW pw 133 w' (l ++ insM i pc) ∧ Grew pw 133 w w' := by
  obtain ⟨h1, -⟩ := isS_regs hi
  clear hi
  obtain ⟨op, rd, rs1, rs2, imm⟩ := i
  simp only [icells]
  dsimp only at h1
  by_cases c1 : 1 ≤ op ∧ op ≤ 1
  · exact ins_any_1 pw l op rd rs1 rs2 imm pc w hk hl c1
  by_cases c2 : 2 ≤ op ∧ op ≤ 2
  · exact ins_any_2 pw l op rd rs1 rs2 imm pc w hk hl c2
  by_cases c3 : 3 ≤ op ∧ op ≤ 3
  · exact ins_any_3 pw l op rd rs1 rs2 imm pc w hk hl c3
  by_cases c4 : 4 ≤ op ∧ op ≤ 4
  · exact ins_any_4 pw l op rd rs1 rs2 imm pc w hk hl c4
  by_cases c5 : 5 ≤ op ∧ op ≤ 10
  · exact ins_any_5 pw l op rd rs1 rs2 imm pc w hk hl c5
  by_cases c11 : 11 ≤ op ∧ op ≤ 15
  · exact ins_any_11 pw l op rd rs1 rs2 imm pc w hk hl c11
  by_cases c16 : 16 ≤ op ∧ op ≤ 18
  · exact ins_any_16 pw l op rd rs1 rs2 imm pc w hk hl c16
  by_cases c19 : 19 ≤ op ∧ op ≤ 27
  · exact ins_any_19 pw l op rd rs1 rs2 imm pc w hk hl c19
  by_cases c28z : 28 ≤ op ∧ op ≤ 45
  · by_cases hz : rd = 0
    · exact ins_any_28z pw l op rd rs1 rs2 imm pc w hk hl c28z hz
    · exact ins_any_28 pw l op rd rs1 rs2 imm pc w hk hl c28z hz
  by_cases c46 : 46 ≤ op ∧ op ≤ 56
  · exact ins_any_46 pw l op rd rs1 rs2 imm pc w hk hl c46
  by_cases c57 : 57 ≤ op ∧ op ≤ 57
  · exact ins_any_57 pw l op rd rs1 rs2 imm pc w hk hl c57
  by_cases c58 : 58 ≤ op ∧ op ≤ 58
  · exact ins_any_58 pw l op rd rs1 rs2 imm pc w hk hl c58
  by_cases c59 : 59 ≤ op ∧ op ≤ 59
  · exact ins_any_59 pw l op rd rs1 rs2 imm pc w hk hl c59
  omega
end Go.Proofs.Ytlfnddmncbkjaab.W
