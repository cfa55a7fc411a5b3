/- decode.Encode: what it answers, whole. -/
import Derived.Test.YtlfnddmncbkjaacDoorZFbEnc3
import Derived.Test.YtlfnddmncbkjaacDoorZWEncA
import Derived.Test.YtlfnddmncbkjaacDoorZWEncB
import Derived.Test.YtlfnddmncbkjaacDoorZWEncC
import Derived.Test.YtlfnddmncbkjaacDoorZWEnc7
namespace Go.Proofs.YtlfnddmncbkjaacDoor.W
set_option linter.unusedVariables false
set_option linter.unusedSimpArgs false
open Go.RowKit Fb
theorem kind_bounds9 (op : Int) (h : knownOp op = true) : ∃ f l m u, kindOf op = ⟨f, l, m, u⟩ ∧ (f = 0 ∨ f = 1 ∨ f = 2 ∨ f = 3 ∨ f = 4 ∨ f = 5 ∨ f = 6 ∨ f = 7 ∨ f = 8) ∧ (0 ≤ l ∧ l < 128) ∧ (0 ≤ m ∧ m < 8) ∧ (0 ≤ u ∧ u < 32 + 1) ∧ (f = 7 → u < 32) := by
  have hb : ∀ k : Fin 60, knownOp (k.val : Int) = true → ((kindOf (k.val : Int)).form = 0 ∨ (kindOf (k.val : Int)).form = 1 ∨ (kindOf (k.val : Int)).form = 2 ∨ (kindOf (k.val : Int)).form = 3 ∨ (kindOf (k.val : Int)).form = 4 ∨ (kindOf (k.val : Int)).form = 5 ∨ (kindOf (k.val : Int)).form = 6 ∨ (kindOf (k.val : Int)).form = 7 ∨ (kindOf (k.val : Int)).form = 8) ∧
      (0 ≤ (kindOf (k.val : Int)).low ∧ (kindOf (k.val : Int)).low < 128) ∧ (0 ≤ (kindOf (k.val : Int)).mid ∧ (kindOf (k.val : Int)).mid < 8) ∧ (0 ≤ (kindOf (k.val : Int)).up ∧ (kindOf (k.val : Int)).up < 32 + 1) ∧ ((kindOf (k.val : Int)).form = 7 → (kindOf (k.val : Int)).up < 32) := by decide +kernel
  have h1 : 1 ≤ op ∧ op ≤ 59 := by unfold knownOp at h; simpa using h
  obtain ⟨k, rfl⟩ := Int.eq_ofNat_of_zero_le (by omega : 0 ≤ op)
  have := hb ⟨k, by omega⟩ h
  exact ⟨_, _, _, _, rfl, this⟩
theorem encode_any (i : InsD) (w : World) (wf : I32 i.imm) :
    Calls Tryd.prog 12 #[.agg (icells i)] w fun e w' => e = .returned (.tuple #[.int .u32 (if isS i = true then encW i else 0), .int .i64 (if isS i = true then 0 else 2)]) ∧ Below w.heap.size w w' := by
  obtain ⟨op, rd, rs1, rs2, imm⟩ := i
  have key : (dec (encW ⟨op, rd, rs1, rs2, imm⟩) = some ⟨op, rd, rs1, rs2, imm⟩) ↔ isS ⟨op, rd, rs1, rs2, imm⟩ = true := ⟨fun h => (dec_is _ _ h).1, fun h => enc_dec _ h wf⟩
  by_cases h : 1 ≤ op ∧ op ≤ 59 ∧ 0 ≤ rd ∧ rd < 32 ∧ 0 ≤ rs1 ∧ rs1 < 32 ∧ 0 ≤ rs2 ∧ rs2 < 32
  rotate_left
  · have hn : ¬ isS ⟨op, rd, rs1, rs2, imm⟩ = true := by
      intro hs
      have h2 := isS_known hs
      unfold knownOp regsOk at h2
      simp only [Bool.and_eq_true, decide_eq_true_eq] at h2
      omega
    rw [if_neg hn, if_neg hn]
    exact encode_no op rd rs1 rs2 imm w h
  obtain ⟨g1, g2, g3, g4, g5, g6, g7, g8⟩ := h
  obtain ⟨f, l, m, u, hk, hf, hl, hm, hu, hu7⟩ := kind_bounds9 op (by unfold knownOp; simp; omega)
  have hE : encW ⟨op, rd, rs1, rs2, imm⟩ = encK ⟨f, l, m, u⟩ rd rs1 rs2 (imm % 4294967296) := by unfold encW; rw [hk]
  simp only [← key]
  rw [hE]
  rcases hf with rfl | rfl | rfl | rfl | rfl | rfl | rfl | rfl | rfl
  · exact encode_0 op l m u rd rs1 rs2 imm _ w ⟨g1, g2⟩ ⟨g3, g4⟩ ⟨g5, g6⟩ ⟨g7, g8⟩ hl hm hu (Lib.hid hk) (Lib.hid rfl)
  · exact encode_1 op l m u rd rs1 rs2 imm _ w ⟨g1, g2⟩ ⟨g3, g4⟩ ⟨g5, g6⟩ ⟨g7, g8⟩ hl hm hu (Lib.hid hk) (Lib.hid rfl)
  · exact encode_2 op l m u rd rs1 rs2 imm _ w ⟨g1, g2⟩ ⟨g3, g4⟩ ⟨g5, g6⟩ ⟨g7, g8⟩ hl hm hu (Lib.hid hk) (Lib.hid rfl)
  · exact encode_3 op l m u rd rs1 rs2 imm _ w ⟨g1, g2⟩ ⟨g3, g4⟩ ⟨g5, g6⟩ ⟨g7, g8⟩ hl hm hu (Lib.hid hk) (Lib.hid rfl)
  · exact encode_4 op l m u rd rs1 rs2 imm _ w ⟨g1, g2⟩ ⟨g3, g4⟩ ⟨g5, g6⟩ ⟨g7, g8⟩ hl hm hu (Lib.hid hk) (Lib.hid rfl)
  · exact encode_5 op l m u rd rs1 rs2 imm _ w ⟨g1, g2⟩ ⟨g3, g4⟩ ⟨g5, g6⟩ ⟨g7, g8⟩ hl hm hu (Lib.hid hk) (Lib.hid rfl)
  · exact encode_6 op l m u rd rs1 rs2 imm _ w ⟨g1, g2⟩ ⟨g3, g4⟩ ⟨g5, g6⟩ ⟨g7, g8⟩ hl hm hu (Lib.hid hk) (Lib.hid rfl)
  · exact encode_7 op l m u rd rs1 rs2 imm _ w ⟨g1, g2⟩ ⟨g3, g4⟩ ⟨g5, g6⟩ ⟨g7, g8⟩ hl hm ⟨hu.1, hu7 rfl⟩ (Lib.hid hk) (Lib.hid rfl)
  · exact encode_8 op l m u rd rs1 rs2 imm _ w ⟨g1, g2⟩ ⟨g3, g4⟩ ⟨g5, g6⟩ ⟨g7, g8⟩ hl hm hu (Lib.hid hk) (Lib.hid rfl)
end Go.Proofs.YtlfnddmncbkjaacDoor.W
