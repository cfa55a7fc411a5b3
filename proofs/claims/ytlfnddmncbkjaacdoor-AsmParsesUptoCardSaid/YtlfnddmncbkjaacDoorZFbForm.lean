/- The document's decoding: the same instruction. No program in sight. -/
import Derived.Test.YtlfnddmncbkjaacDoorZMA
namespace Go.Proofs.YtlfnddmncbkjaacDoor.Fb
set_option linter.unusedVariables false
set_option linter.unusedSimpArgs false
open Go.RowKit

/-- one of a list, by a number that must be among others -/
def pickS (n : Int) : List Int → List Int → Int
  | a :: ams, o :: os => if a = n then o else pickS n ams os
  | _, _ => -1
def formS (w : Int) : Int × Int :=
  if (w % 128 == 55) = true then (1, 85)
  else if (w % 128 == 23) = true then (2, 85)
  else if (w % 128 == 111) = true then (3, 74)
  else if (w % 128 == 103) = true then (pickS (w / 4096 % 8) [0] [4], 73)
  else if (w % 128 == 99) = true then (pickS (w / 4096 % 8) [0, 1, 4, 5, 6, 7] [5, 6, 7, 8, 9, 10], 66)
  else if (w % 128 == 3) = true then (pickS (w / 4096 % 8) [0, 1, 2, 4, 5] [11, 12, 13, 14, 15], 73)
  else if (w % 128 == 35) = true then (pickS (w / 4096 % 8) [0, 1, 2] [16, 17, 18], 83)
  else if (w % 128 == 19) = true then
    (if w / 4096 % 8 = 1 ∨ w / 4096 % 8 = 5 then (pickS (8 * (w / 33554432 % 128) + w / 4096 % 8) [1, 5, 261] [25, 26, 27], 72)
     else (pickS (w / 4096 % 8) [0, 2, 3, 4, 6, 7] [19, 20, 21, 22, 23, 24], 73))
  else if (w % 128 == 51) = true then
    (if (w / 33554432 % 128 == 0) = true then (pickS (w / 4096 % 8) [0, 1, 2, 3, 4, 5, 6, 7] [28, 30, 31, 32, 33, 34, 36, 37], 82)
     else if (w / 33554432 % 128 == 32) = true then (pickS (w / 4096 % 8) [0, 5] [29, 35], 82)
     else if (w / 33554432 % 128 == 1) = true then (pickS (w / 4096 % 8) [0, 1, 2, 3, 4, 5, 6, 7] [38, 39, 40, 41, 42, 43, 44, 45], 82)
     else (-1, 69))
  else if (w % 128 == 47) = true then
    (if w / 4096 % 8 ≠ 2 ∨ (w / 134217728 % 32 = 2 ∧ w / 1048576 % 32 ≠ 0) then (-1, 65)
     else (pickS (w / 134217728 % 32) [2, 3, 1, 0, 4, 12, 8, 16, 20, 24, 28] [46, 47, 48, 49, 50, 51, 52, 53, 54, 55, 56], 65))
  else if (w % 128 == 15) = true then (pickS (w / 4096 % 8) [0] [57], 73)
  else if (w % 128 == 115) = true then (pickS w [115, 1048691] [58, 59], 69)
  else (-1, 69)
def letter (form : Int) : Int :=
  if form = 0 then 85 else if form = 1 then 74 else if form = 2 then 73 else if form = 3 then 72 else if form = 4 then 66 else if form = 5 then 83 else if form = 6 then 82 else if form = 7 then 65 else 69
theorem m_1 (w : Int) : matchB 1 w = (w % 128 == 55) := by unfold matchB; rw [show kindOf 1 = ⟨0, 55, 0, 0⟩ from rfl]; unfold tellsB; by_cases h : w % 128 = 55 <;> simp [h]
theorem m_2 (w : Int) : matchB 2 w = (w % 128 == 23) := by unfold matchB; rw [show kindOf 2 = ⟨0, 23, 0, 0⟩ from rfl]; unfold tellsB; by_cases h : w % 128 = 23 <;> simp [h]
theorem m_3 (w : Int) : matchB 3 w = (w % 128 == 111) := by unfold matchB; rw [show kindOf 3 = ⟨1, 111, 0, 0⟩ from rfl]; unfold tellsB; by_cases h : w % 128 = 111 <;> simp [h]
theorem m_4 (w : Int) : matchB 4 w = ((w % 128 == 103) && (w / 4096 % 8 == 0)) := by unfold matchB; rw [show kindOf 4 = ⟨2, 103, 0, 0⟩ from rfl]; unfold tellsB; by_cases h : w % 128 = 103 <;> simp [h]
theorem m_5 (w : Int) : matchB 5 w = ((w % 128 == 99) && (w / 4096 % 8 == 0)) := by unfold matchB; rw [show kindOf 5 = ⟨4, 99, 0, 0⟩ from rfl]; unfold tellsB; by_cases h : w % 128 = 99 <;> simp [h]
theorem m_6 (w : Int) : matchB 6 w = ((w % 128 == 99) && (w / 4096 % 8 == 1)) := by unfold matchB; rw [show kindOf 6 = ⟨4, 99, 1, 0⟩ from rfl]; unfold tellsB; by_cases h : w % 128 = 99 <;> simp [h]
theorem m_7 (w : Int) : matchB 7 w = ((w % 128 == 99) && (w / 4096 % 8 == 4)) := by unfold matchB; rw [show kindOf 7 = ⟨4, 99, 4, 0⟩ from rfl]; unfold tellsB; by_cases h : w % 128 = 99 <;> simp [h]
theorem m_8 (w : Int) : matchB 8 w = ((w % 128 == 99) && (w / 4096 % 8 == 5)) := by unfold matchB; rw [show kindOf 8 = ⟨4, 99, 5, 0⟩ from rfl]; unfold tellsB; by_cases h : w % 128 = 99 <;> simp [h]
theorem m_9 (w : Int) : matchB 9 w = ((w % 128 == 99) && (w / 4096 % 8 == 6)) := by unfold matchB; rw [show kindOf 9 = ⟨4, 99, 6, 0⟩ from rfl]; unfold tellsB; by_cases h : w % 128 = 99 <;> simp [h]
theorem m_10 (w : Int) : matchB 10 w = ((w % 128 == 99) && (w / 4096 % 8 == 7)) := by unfold matchB; rw [show kindOf 10 = ⟨4, 99, 7, 0⟩ from rfl]; unfold tellsB; by_cases h : w % 128 = 99 <;> simp [h]
theorem m_11 (w : Int) : matchB 11 w = ((w % 128 == 3) && (w / 4096 % 8 == 0)) := by unfold matchB; rw [show kindOf 11 = ⟨2, 3, 0, 0⟩ from rfl]; unfold tellsB; by_cases h : w % 128 = 3 <;> simp [h]
theorem m_12 (w : Int) : matchB 12 w = ((w % 128 == 3) && (w / 4096 % 8 == 1)) := by unfold matchB; rw [show kindOf 12 = ⟨2, 3, 1, 0⟩ from rfl]; unfold tellsB; by_cases h : w % 128 = 3 <;> simp [h]
theorem m_13 (w : Int) : matchB 13 w = ((w % 128 == 3) && (w / 4096 % 8 == 2)) := by unfold matchB; rw [show kindOf 13 = ⟨2, 3, 2, 0⟩ from rfl]; unfold tellsB; by_cases h : w % 128 = 3 <;> simp [h]
theorem m_14 (w : Int) : matchB 14 w = ((w % 128 == 3) && (w / 4096 % 8 == 4)) := by unfold matchB; rw [show kindOf 14 = ⟨2, 3, 4, 0⟩ from rfl]; unfold tellsB; by_cases h : w % 128 = 3 <;> simp [h]
theorem m_15 (w : Int) : matchB 15 w = ((w % 128 == 3) && (w / 4096 % 8 == 5)) := by unfold matchB; rw [show kindOf 15 = ⟨2, 3, 5, 0⟩ from rfl]; unfold tellsB; by_cases h : w % 128 = 3 <;> simp [h]
theorem m_16 (w : Int) : matchB 16 w = ((w % 128 == 35) && (w / 4096 % 8 == 0)) := by unfold matchB; rw [show kindOf 16 = ⟨5, 35, 0, 0⟩ from rfl]; unfold tellsB; by_cases h : w % 128 = 35 <;> simp [h]
theorem m_17 (w : Int) : matchB 17 w = ((w % 128 == 35) && (w / 4096 % 8 == 1)) := by unfold matchB; rw [show kindOf 17 = ⟨5, 35, 1, 0⟩ from rfl]; unfold tellsB; by_cases h : w % 128 = 35 <;> simp [h]
theorem m_18 (w : Int) : matchB 18 w = ((w % 128 == 35) && (w / 4096 % 8 == 2)) := by unfold matchB; rw [show kindOf 18 = ⟨5, 35, 2, 0⟩ from rfl]; unfold tellsB; by_cases h : w % 128 = 35 <;> simp [h]
theorem m_19 (w : Int) : matchB 19 w = ((w % 128 == 19) && (w / 4096 % 8 == 0)) := by unfold matchB; rw [show kindOf 19 = ⟨2, 19, 0, 0⟩ from rfl]; unfold tellsB; by_cases h : w % 128 = 19 <;> simp [h]
theorem m_20 (w : Int) : matchB 20 w = ((w % 128 == 19) && (w / 4096 % 8 == 2)) := by unfold matchB; rw [show kindOf 20 = ⟨2, 19, 2, 0⟩ from rfl]; unfold tellsB; by_cases h : w % 128 = 19 <;> simp [h]
theorem m_21 (w : Int) : matchB 21 w = ((w % 128 == 19) && (w / 4096 % 8 == 3)) := by unfold matchB; rw [show kindOf 21 = ⟨2, 19, 3, 0⟩ from rfl]; unfold tellsB; by_cases h : w % 128 = 19 <;> simp [h]
theorem m_22 (w : Int) : matchB 22 w = ((w % 128 == 19) && (w / 4096 % 8 == 4)) := by unfold matchB; rw [show kindOf 22 = ⟨2, 19, 4, 0⟩ from rfl]; unfold tellsB; by_cases h : w % 128 = 19 <;> simp [h]
theorem m_23 (w : Int) : matchB 23 w = ((w % 128 == 19) && (w / 4096 % 8 == 6)) := by unfold matchB; rw [show kindOf 23 = ⟨2, 19, 6, 0⟩ from rfl]; unfold tellsB; by_cases h : w % 128 = 19 <;> simp [h]
theorem m_24 (w : Int) : matchB 24 w = ((w % 128 == 19) && (w / 4096 % 8 == 7)) := by unfold matchB; rw [show kindOf 24 = ⟨2, 19, 7, 0⟩ from rfl]; unfold tellsB; by_cases h : w % 128 = 19 <;> simp [h]
theorem m_25 (w : Int) : matchB 25 w = ((w % 128 == 19) && ((w / 4096 % 8 == 1) && (w / 33554432 % 128 == 0))) := by unfold matchB; rw [show kindOf 25 = ⟨3, 19, 1, 0⟩ from rfl]; unfold tellsB; by_cases h : w % 128 = 19 <;> simp [h]
theorem m_26 (w : Int) : matchB 26 w = ((w % 128 == 19) && ((w / 4096 % 8 == 5) && (w / 33554432 % 128 == 0))) := by unfold matchB; rw [show kindOf 26 = ⟨3, 19, 5, 0⟩ from rfl]; unfold tellsB; by_cases h : w % 128 = 19 <;> simp [h]
theorem m_27 (w : Int) : matchB 27 w = ((w % 128 == 19) && ((w / 4096 % 8 == 5) && (w / 33554432 % 128 == 32))) := by unfold matchB; rw [show kindOf 27 = ⟨3, 19, 5, 32⟩ from rfl]; unfold tellsB; by_cases h : w % 128 = 19 <;> simp [h]
theorem m_28 (w : Int) : matchB 28 w = ((w % 128 == 51) && ((w / 4096 % 8 == 0) && (w / 33554432 % 128 == 0))) := by unfold matchB; rw [show kindOf 28 = ⟨6, 51, 0, 0⟩ from rfl]; unfold tellsB; by_cases h : w % 128 = 51 <;> simp [h]
theorem m_29 (w : Int) : matchB 29 w = ((w % 128 == 51) && ((w / 4096 % 8 == 0) && (w / 33554432 % 128 == 32))) := by unfold matchB; rw [show kindOf 29 = ⟨6, 51, 0, 32⟩ from rfl]; unfold tellsB; by_cases h : w % 128 = 51 <;> simp [h]
theorem m_30 (w : Int) : matchB 30 w = ((w % 128 == 51) && ((w / 4096 % 8 == 1) && (w / 33554432 % 128 == 0))) := by unfold matchB; rw [show kindOf 30 = ⟨6, 51, 1, 0⟩ from rfl]; unfold tellsB; by_cases h : w % 128 = 51 <;> simp [h]
theorem m_31 (w : Int) : matchB 31 w = ((w % 128 == 51) && ((w / 4096 % 8 == 2) && (w / 33554432 % 128 == 0))) := by unfold matchB; rw [show kindOf 31 = ⟨6, 51, 2, 0⟩ from rfl]; unfold tellsB; by_cases h : w % 128 = 51 <;> simp [h]
theorem m_32 (w : Int) : matchB 32 w = ((w % 128 == 51) && ((w / 4096 % 8 == 3) && (w / 33554432 % 128 == 0))) := by unfold matchB; rw [show kindOf 32 = ⟨6, 51, 3, 0⟩ from rfl]; unfold tellsB; by_cases h : w % 128 = 51 <;> simp [h]
theorem m_33 (w : Int) : matchB 33 w = ((w % 128 == 51) && ((w / 4096 % 8 == 4) && (w / 33554432 % 128 == 0))) := by unfold matchB; rw [show kindOf 33 = ⟨6, 51, 4, 0⟩ from rfl]; unfold tellsB; by_cases h : w % 128 = 51 <;> simp [h]
theorem m_34 (w : Int) : matchB 34 w = ((w % 128 == 51) && ((w / 4096 % 8 == 5) && (w / 33554432 % 128 == 0))) := by unfold matchB; rw [show kindOf 34 = ⟨6, 51, 5, 0⟩ from rfl]; unfold tellsB; by_cases h : w % 128 = 51 <;> simp [h]
theorem m_35 (w : Int) : matchB 35 w = ((w % 128 == 51) && ((w / 4096 % 8 == 5) && (w / 33554432 % 128 == 32))) := by unfold matchB; rw [show kindOf 35 = ⟨6, 51, 5, 32⟩ from rfl]; unfold tellsB; by_cases h : w % 128 = 51 <;> simp [h]
theorem m_36 (w : Int) : matchB 36 w = ((w % 128 == 51) && ((w / 4096 % 8 == 6) && (w / 33554432 % 128 == 0))) := by unfold matchB; rw [show kindOf 36 = ⟨6, 51, 6, 0⟩ from rfl]; unfold tellsB; by_cases h : w % 128 = 51 <;> simp [h]
theorem m_37 (w : Int) : matchB 37 w = ((w % 128 == 51) && ((w / 4096 % 8 == 7) && (w / 33554432 % 128 == 0))) := by unfold matchB; rw [show kindOf 37 = ⟨6, 51, 7, 0⟩ from rfl]; unfold tellsB; by_cases h : w % 128 = 51 <;> simp [h]
theorem m_38 (w : Int) : matchB 38 w = ((w % 128 == 51) && ((w / 4096 % 8 == 0) && (w / 33554432 % 128 == 1))) := by unfold matchB; rw [show kindOf 38 = ⟨6, 51, 0, 1⟩ from rfl]; unfold tellsB; by_cases h : w % 128 = 51 <;> simp [h]
theorem m_39 (w : Int) : matchB 39 w = ((w % 128 == 51) && ((w / 4096 % 8 == 1) && (w / 33554432 % 128 == 1))) := by unfold matchB; rw [show kindOf 39 = ⟨6, 51, 1, 1⟩ from rfl]; unfold tellsB; by_cases h : w % 128 = 51 <;> simp [h]
theorem m_40 (w : Int) : matchB 40 w = ((w % 128 == 51) && ((w / 4096 % 8 == 2) && (w / 33554432 % 128 == 1))) := by unfold matchB; rw [show kindOf 40 = ⟨6, 51, 2, 1⟩ from rfl]; unfold tellsB; by_cases h : w % 128 = 51 <;> simp [h]
theorem m_41 (w : Int) : matchB 41 w = ((w % 128 == 51) && ((w / 4096 % 8 == 3) && (w / 33554432 % 128 == 1))) := by unfold matchB; rw [show kindOf 41 = ⟨6, 51, 3, 1⟩ from rfl]; unfold tellsB; by_cases h : w % 128 = 51 <;> simp [h]
theorem m_42 (w : Int) : matchB 42 w = ((w % 128 == 51) && ((w / 4096 % 8 == 4) && (w / 33554432 % 128 == 1))) := by unfold matchB; rw [show kindOf 42 = ⟨6, 51, 4, 1⟩ from rfl]; unfold tellsB; by_cases h : w % 128 = 51 <;> simp [h]
theorem m_43 (w : Int) : matchB 43 w = ((w % 128 == 51) && ((w / 4096 % 8 == 5) && (w / 33554432 % 128 == 1))) := by unfold matchB; rw [show kindOf 43 = ⟨6, 51, 5, 1⟩ from rfl]; unfold tellsB; by_cases h : w % 128 = 51 <;> simp [h]
theorem m_44 (w : Int) : matchB 44 w = ((w % 128 == 51) && ((w / 4096 % 8 == 6) && (w / 33554432 % 128 == 1))) := by unfold matchB; rw [show kindOf 44 = ⟨6, 51, 6, 1⟩ from rfl]; unfold tellsB; by_cases h : w % 128 = 51 <;> simp [h]
theorem m_45 (w : Int) : matchB 45 w = ((w % 128 == 51) && ((w / 4096 % 8 == 7) && (w / 33554432 % 128 == 1))) := by unfold matchB; rw [show kindOf 45 = ⟨6, 51, 7, 1⟩ from rfl]; unfold tellsB; by_cases h : w % 128 = 51 <;> simp [h]
theorem m_46 (w : Int) : matchB 46 w = (((w % 128 == 47) && ((w / 4096 % 8 == 2) && (w / 134217728 % 32 == 2))) && (w / 1048576 % 32 == 0)) := by unfold matchB; rw [show kindOf 46 = ⟨7, 47, 2, 2⟩ from rfl]; unfold tellsB; by_cases h : w % 128 = 47 <;> simp [h]
theorem m_47 (w : Int) : matchB 47 w = ((w % 128 == 47) && ((w / 4096 % 8 == 2) && (w / 134217728 % 32 == 3))) := by unfold matchB; rw [show kindOf 47 = ⟨7, 47, 2, 3⟩ from rfl]; unfold tellsB; by_cases h : w % 128 = 47 <;> simp [h]
theorem m_48 (w : Int) : matchB 48 w = ((w % 128 == 47) && ((w / 4096 % 8 == 2) && (w / 134217728 % 32 == 1))) := by unfold matchB; rw [show kindOf 48 = ⟨7, 47, 2, 1⟩ from rfl]; unfold tellsB; by_cases h : w % 128 = 47 <;> simp [h]
theorem m_49 (w : Int) : matchB 49 w = ((w % 128 == 47) && ((w / 4096 % 8 == 2) && (w / 134217728 % 32 == 0))) := by unfold matchB; rw [show kindOf 49 = ⟨7, 47, 2, 0⟩ from rfl]; unfold tellsB; by_cases h : w % 128 = 47 <;> simp [h]
theorem m_50 (w : Int) : matchB 50 w = ((w % 128 == 47) && ((w / 4096 % 8 == 2) && (w / 134217728 % 32 == 4))) := by unfold matchB; rw [show kindOf 50 = ⟨7, 47, 2, 4⟩ from rfl]; unfold tellsB; by_cases h : w % 128 = 47 <;> simp [h]
theorem m_51 (w : Int) : matchB 51 w = ((w % 128 == 47) && ((w / 4096 % 8 == 2) && (w / 134217728 % 32 == 12))) := by unfold matchB; rw [show kindOf 51 = ⟨7, 47, 2, 12⟩ from rfl]; unfold tellsB; by_cases h : w % 128 = 47 <;> simp [h]
theorem m_52 (w : Int) : matchB 52 w = ((w % 128 == 47) && ((w / 4096 % 8 == 2) && (w / 134217728 % 32 == 8))) := by unfold matchB; rw [show kindOf 52 = ⟨7, 47, 2, 8⟩ from rfl]; unfold tellsB; by_cases h : w % 128 = 47 <;> simp [h]
theorem m_53 (w : Int) : matchB 53 w = ((w % 128 == 47) && ((w / 4096 % 8 == 2) && (w / 134217728 % 32 == 16))) := by unfold matchB; rw [show kindOf 53 = ⟨7, 47, 2, 16⟩ from rfl]; unfold tellsB; by_cases h : w % 128 = 47 <;> simp [h]
theorem m_54 (w : Int) : matchB 54 w = ((w % 128 == 47) && ((w / 4096 % 8 == 2) && (w / 134217728 % 32 == 20))) := by unfold matchB; rw [show kindOf 54 = ⟨7, 47, 2, 20⟩ from rfl]; unfold tellsB; by_cases h : w % 128 = 47 <;> simp [h]
theorem m_55 (w : Int) : matchB 55 w = ((w % 128 == 47) && ((w / 4096 % 8 == 2) && (w / 134217728 % 32 == 24))) := by unfold matchB; rw [show kindOf 55 = ⟨7, 47, 2, 24⟩ from rfl]; unfold tellsB; by_cases h : w % 128 = 47 <;> simp [h]
theorem m_56 (w : Int) : matchB 56 w = ((w % 128 == 47) && ((w / 4096 % 8 == 2) && (w / 134217728 % 32 == 28))) := by unfold matchB; rw [show kindOf 56 = ⟨7, 47, 2, 28⟩ from rfl]; unfold tellsB; by_cases h : w % 128 = 47 <;> simp [h]
theorem m_57 (w : Int) : matchB 57 w = ((w % 128 == 15) && (w / 4096 % 8 == 0)) := by unfold matchB; rw [show kindOf 57 = ⟨2, 15, 0, 0⟩ from rfl]; unfold tellsB; by_cases h : w % 128 = 15 <;> simp [h]
theorem m_58 (w : Int) : matchB 58 w = (w == 115) := by unfold matchB; rw [show kindOf 58 = ⟨8, 115, 0, 0⟩ from rfl]; rw [Bool.eq_iff_iff]; simp [tellsB]; omega
theorem m_59 (w : Int) : matchB 59 w = (w == 1048691) := by unfold matchB; rw [show kindOf 59 = ⟨8, 115, 0, 1⟩ from rfl]; rw [Bool.eq_iff_iff]; simp [tellsB]; omega
theorem forms : ∀ op ∈ opsList, ∀ l : Int, l = letter (kindOf op).form → True := fun _ _ _ _ => trivial
/-- both tell the same instruction, and the same form -/
def Agree (w : Int) : Prop := (decOp w = if (formS w).1 < 0 then none else some (formS w).1) ∧ ((formS w).1 < 0 ∨ letter (kindOf (formS w).1).form = (formS w).2)
set_option maxRecDepth 10000 in
theorem agree_55 (w : Int) (hw : U32 w) (h : w % 128 = 55) : Agree w := by
  obtain ⟨w0, w1⟩ := hw
  have nw : (w == 115) = false := by exact beq_eq_false_iff_ne.2 (by omega)
  have nv : (w == 1048691) = false := by exact beq_eq_false_iff_ne.2 (by omega)
  unfold Agree decOp opsList formS
  simp only [List.find?_cons, List.find?_nil, m_1, m_2, m_3, m_4, m_5, m_6, m_7, m_8, m_9, m_10, m_11, m_12, m_13, m_14, m_15, m_16, m_17, m_18, m_19, m_20, m_21, m_22, m_23, m_24, m_25, m_26, m_27, m_28, m_29, m_30, m_31, m_32, m_33, m_34, m_35, m_36, m_37, m_38, m_39, m_40, m_41, m_42, m_43, m_44, m_45, m_46, m_47, m_48, m_49, m_50, m_51, m_52, m_53, m_54, m_55, m_56, m_57, m_58, m_59, h, nw, nv]
  simp only [pickS]
  simp [letter]; try decide
set_option maxRecDepth 10000 in
theorem agree_23 (w : Int) (hw : U32 w) (h : w % 128 = 23) : Agree w := by
  obtain ⟨w0, w1⟩ := hw
  have nw : (w == 115) = false := by exact beq_eq_false_iff_ne.2 (by omega)
  have nv : (w == 1048691) = false := by exact beq_eq_false_iff_ne.2 (by omega)
  unfold Agree decOp opsList formS
  simp only [List.find?_cons, List.find?_nil, m_1, m_2, m_3, m_4, m_5, m_6, m_7, m_8, m_9, m_10, m_11, m_12, m_13, m_14, m_15, m_16, m_17, m_18, m_19, m_20, m_21, m_22, m_23, m_24, m_25, m_26, m_27, m_28, m_29, m_30, m_31, m_32, m_33, m_34, m_35, m_36, m_37, m_38, m_39, m_40, m_41, m_42, m_43, m_44, m_45, m_46, m_47, m_48, m_49, m_50, m_51, m_52, m_53, m_54, m_55, m_56, m_57, m_58, m_59, h, nw, nv]
  simp only [pickS]
  simp [letter]; try decide
set_option maxRecDepth 10000 in
theorem agree_111 (w : Int) (hw : U32 w) (h : w % 128 = 111) : Agree w := by
  obtain ⟨w0, w1⟩ := hw
  have nw : (w == 115) = false := by exact beq_eq_false_iff_ne.2 (by omega)
  have nv : (w == 1048691) = false := by exact beq_eq_false_iff_ne.2 (by omega)
  unfold Agree decOp opsList formS
  simp only [List.find?_cons, List.find?_nil, m_1, m_2, m_3, m_4, m_5, m_6, m_7, m_8, m_9, m_10, m_11, m_12, m_13, m_14, m_15, m_16, m_17, m_18, m_19, m_20, m_21, m_22, m_23, m_24, m_25, m_26, m_27, m_28, m_29, m_30, m_31, m_32, m_33, m_34, m_35, m_36, m_37, m_38, m_39, m_40, m_41, m_42, m_43, m_44, m_45, m_46, m_47, m_48, m_49, m_50, m_51, m_52, m_53, m_54, m_55, m_56, m_57, m_58, m_59, h, nw, nv]
  simp only [pickS]
  simp [letter]; try decide
set_option maxRecDepth 10000 in
theorem agree_103 (w : Int) (hw : U32 w) (h : w % 128 = 103) : Agree w := by
  obtain ⟨w0, w1⟩ := hw
  have nw : (w == 115) = false := by exact beq_eq_false_iff_ne.2 (by omega)
  have nv : (w == 1048691) = false := by exact beq_eq_false_iff_ne.2 (by omega)
  unfold Agree decOp opsList formS
  simp only [List.find?_cons, List.find?_nil, m_1, m_2, m_3, m_4, m_5, m_6, m_7, m_8, m_9, m_10, m_11, m_12, m_13, m_14, m_15, m_16, m_17, m_18, m_19, m_20, m_21, m_22, m_23, m_24, m_25, m_26, m_27, m_28, m_29, m_30, m_31, m_32, m_33, m_34, m_35, m_36, m_37, m_38, m_39, m_40, m_41, m_42, m_43, m_44, m_45, m_46, m_47, m_48, m_49, m_50, m_51, m_52, m_53, m_54, m_55, m_56, m_57, m_58, m_59, h, nw, nv]
  simp only [pickS]
  obtain ⟨m, hmm⟩ : ∃ m, m = w / 4096 % 8 := ⟨_, rfl⟩
  have hmb : 0 ≤ m ∧ m < 8 := by omega
  rw [← hmm]
  clear hmm
  have hm : m = 0 ∨ m = 1 ∨ m = 2 ∨ m = 3 ∨ m = 4 ∨ m = 5 ∨ m = 6 ∨ m = 7 := by omega
  rcases hm with rfl | rfl | rfl | rfl | rfl | rfl | rfl | rfl <;> first | (simp; done) | (simp; decide) | decide
set_option maxRecDepth 10000 in
theorem agree_99 (w : Int) (hw : U32 w) (h : w % 128 = 99) : Agree w := by
  obtain ⟨w0, w1⟩ := hw
  have nw : (w == 115) = false := by exact beq_eq_false_iff_ne.2 (by omega)
  have nv : (w == 1048691) = false := by exact beq_eq_false_iff_ne.2 (by omega)
  unfold Agree decOp opsList formS
  simp only [List.find?_cons, List.find?_nil, m_1, m_2, m_3, m_4, m_5, m_6, m_7, m_8, m_9, m_10, m_11, m_12, m_13, m_14, m_15, m_16, m_17, m_18, m_19, m_20, m_21, m_22, m_23, m_24, m_25, m_26, m_27, m_28, m_29, m_30, m_31, m_32, m_33, m_34, m_35, m_36, m_37, m_38, m_39, m_40, m_41, m_42, m_43, m_44, m_45, m_46, m_47, m_48, m_49, m_50, m_51, m_52, m_53, m_54, m_55, m_56, m_57, m_58, m_59, h, nw, nv]
  simp only [pickS]
  obtain ⟨m, hmm⟩ : ∃ m, m = w / 4096 % 8 := ⟨_, rfl⟩
  have hmb : 0 ≤ m ∧ m < 8 := by omega
  rw [← hmm]
  clear hmm
  have hm : m = 0 ∨ m = 1 ∨ m = 2 ∨ m = 3 ∨ m = 4 ∨ m = 5 ∨ m = 6 ∨ m = 7 := by omega
  rcases hm with rfl | rfl | rfl | rfl | rfl | rfl | rfl | rfl <;> first | (simp; done) | (simp; decide) | decide
set_option maxRecDepth 10000 in
theorem agree_3 (w : Int) (hw : U32 w) (h : w % 128 = 3) : Agree w := by
  obtain ⟨w0, w1⟩ := hw
  have nw : (w == 115) = false := by exact beq_eq_false_iff_ne.2 (by omega)
  have nv : (w == 1048691) = false := by exact beq_eq_false_iff_ne.2 (by omega)
  unfold Agree decOp opsList formS
  simp only [List.find?_cons, List.find?_nil, m_1, m_2, m_3, m_4, m_5, m_6, m_7, m_8, m_9, m_10, m_11, m_12, m_13, m_14, m_15, m_16, m_17, m_18, m_19, m_20, m_21, m_22, m_23, m_24, m_25, m_26, m_27, m_28, m_29, m_30, m_31, m_32, m_33, m_34, m_35, m_36, m_37, m_38, m_39, m_40, m_41, m_42, m_43, m_44, m_45, m_46, m_47, m_48, m_49, m_50, m_51, m_52, m_53, m_54, m_55, m_56, m_57, m_58, m_59, h, nw, nv]
  simp only [pickS]
  obtain ⟨m, hmm⟩ : ∃ m, m = w / 4096 % 8 := ⟨_, rfl⟩
  have hmb : 0 ≤ m ∧ m < 8 := by omega
  rw [← hmm]
  clear hmm
  have hm : m = 0 ∨ m = 1 ∨ m = 2 ∨ m = 3 ∨ m = 4 ∨ m = 5 ∨ m = 6 ∨ m = 7 := by omega
  rcases hm with rfl | rfl | rfl | rfl | rfl | rfl | rfl | rfl <;> first | (simp; done) | (simp; decide) | decide
set_option maxRecDepth 10000 in
theorem agree_35 (w : Int) (hw : U32 w) (h : w % 128 = 35) : Agree w := by
  obtain ⟨w0, w1⟩ := hw
  have nw : (w == 115) = false := by exact beq_eq_false_iff_ne.2 (by omega)
  have nv : (w == 1048691) = false := by exact beq_eq_false_iff_ne.2 (by omega)
  unfold Agree decOp opsList formS
  simp only [List.find?_cons, List.find?_nil, m_1, m_2, m_3, m_4, m_5, m_6, m_7, m_8, m_9, m_10, m_11, m_12, m_13, m_14, m_15, m_16, m_17, m_18, m_19, m_20, m_21, m_22, m_23, m_24, m_25, m_26, m_27, m_28, m_29, m_30, m_31, m_32, m_33, m_34, m_35, m_36, m_37, m_38, m_39, m_40, m_41, m_42, m_43, m_44, m_45, m_46, m_47, m_48, m_49, m_50, m_51, m_52, m_53, m_54, m_55, m_56, m_57, m_58, m_59, h, nw, nv]
  simp only [pickS]
  obtain ⟨m, hmm⟩ : ∃ m, m = w / 4096 % 8 := ⟨_, rfl⟩
  have hmb : 0 ≤ m ∧ m < 8 := by omega
  rw [← hmm]
  clear hmm
  have hm : m = 0 ∨ m = 1 ∨ m = 2 ∨ m = 3 ∨ m = 4 ∨ m = 5 ∨ m = 6 ∨ m = 7 := by omega
  rcases hm with rfl | rfl | rfl | rfl | rfl | rfl | rfl | rfl <;> first | (simp; done) | (simp; decide) | decide
set_option maxRecDepth 10000 in
theorem agree_19 (w : Int) (hw : U32 w) (h : w % 128 = 19) : Agree w := by
  obtain ⟨w0, w1⟩ := hw
  have nw : (w == 115) = false := by exact beq_eq_false_iff_ne.2 (by omega)
  have nv : (w == 1048691) = false := by exact beq_eq_false_iff_ne.2 (by omega)
  unfold Agree decOp opsList formS
  simp only [List.find?_cons, List.find?_nil, m_1, m_2, m_3, m_4, m_5, m_6, m_7, m_8, m_9, m_10, m_11, m_12, m_13, m_14, m_15, m_16, m_17, m_18, m_19, m_20, m_21, m_22, m_23, m_24, m_25, m_26, m_27, m_28, m_29, m_30, m_31, m_32, m_33, m_34, m_35, m_36, m_37, m_38, m_39, m_40, m_41, m_42, m_43, m_44, m_45, m_46, m_47, m_48, m_49, m_50, m_51, m_52, m_53, m_54, m_55, m_56, m_57, m_58, m_59, h, nw, nv]
  simp only [pickS]
  obtain ⟨m, hmm⟩ : ∃ m, m = w / 4096 % 8 := ⟨_, rfl⟩
  obtain ⟨u, huu⟩ : ∃ u, u = w / 33554432 % 128 := ⟨_, rfl⟩
  obtain ⟨a, haa⟩ : ∃ a, a = w / 134217728 % 32 := ⟨_, rfl⟩
  obtain ⟨r, hrr⟩ : ∃ r, r = w / 1048576 % 32 := ⟨_, rfl⟩
  have hmb : 0 ≤ m ∧ m < 8 := by omega
  simp only [← hmm, ← huu, ← haa, ← hrr]
  clear hmm huu haa hrr nw nv h w0 w1
  have hm : m = 0 ∨ m = 1 ∨ m = 2 ∨ m = 3 ∨ m = 4 ∨ m = 5 ∨ m = 6 ∨ m = 7 := by omega
  by_cases u0 : u = 0
  · subst u0
    rcases hm with rfl | rfl | rfl | rfl | rfl | rfl | rfl | rfl <;> first | (simp; done) | (simp; decide) | decide
  by_cases u1 : u = 32
  · subst u1
    rcases hm with rfl | rfl | rfl | rfl | rfl | rfl | rfl | rfl <;> first | (simp; done) | (simp; decide) | decide
  have b0 : (u == 0) = false := beq_eq_false_iff_ne.2 u0
  have b1 : (u == 32) = false := beq_eq_false_iff_ne.2 u1
  have e1 : ¬ 1 = 8 * u + 1 := by omega
  have e2 : ¬ 5 = 8 * u + 1 := by omega
  have e3 : ¬ 261 = 8 * u + 1 := by omega
  have e4 : ¬ 1 = 8 * u + 5 := by omega
  have e5 : ¬ 5 = 8 * u + 5 := by omega
  have e6 : ¬ 261 = 8 * u + 5 := by omega
  rcases hm with rfl | rfl | rfl | rfl | rfl | rfl | rfl | rfl <;> first | (simp [u0, u1, b0, b1, e1, e2, e3, e4, e5, e6]; done) | (simp [u0, u1, b0, b1, e1, e2, e3, e4, e5, e6]; decide) | decide
set_option maxRecDepth 10000 in
theorem agree_51 (w : Int) (hw : U32 w) (h : w % 128 = 51) : Agree w := by
  obtain ⟨w0, w1⟩ := hw
  have nw : (w == 115) = false := by exact beq_eq_false_iff_ne.2 (by omega)
  have nv : (w == 1048691) = false := by exact beq_eq_false_iff_ne.2 (by omega)
  unfold Agree decOp opsList formS
  simp only [List.find?_cons, List.find?_nil, m_1, m_2, m_3, m_4, m_5, m_6, m_7, m_8, m_9, m_10, m_11, m_12, m_13, m_14, m_15, m_16, m_17, m_18, m_19, m_20, m_21, m_22, m_23, m_24, m_25, m_26, m_27, m_28, m_29, m_30, m_31, m_32, m_33, m_34, m_35, m_36, m_37, m_38, m_39, m_40, m_41, m_42, m_43, m_44, m_45, m_46, m_47, m_48, m_49, m_50, m_51, m_52, m_53, m_54, m_55, m_56, m_57, m_58, m_59, h, nw, nv]
  simp only [pickS]
  obtain ⟨m, hmm⟩ : ∃ m, m = w / 4096 % 8 := ⟨_, rfl⟩
  obtain ⟨u, huu⟩ : ∃ u, u = w / 33554432 % 128 := ⟨_, rfl⟩
  obtain ⟨a, haa⟩ : ∃ a, a = w / 134217728 % 32 := ⟨_, rfl⟩
  obtain ⟨r, hrr⟩ : ∃ r, r = w / 1048576 % 32 := ⟨_, rfl⟩
  have hmb : 0 ≤ m ∧ m < 8 := by omega
  simp only [← hmm, ← huu, ← haa, ← hrr]
  clear hmm huu haa hrr nw nv h w0 w1
  have hm : m = 0 ∨ m = 1 ∨ m = 2 ∨ m = 3 ∨ m = 4 ∨ m = 5 ∨ m = 6 ∨ m = 7 := by omega
  by_cases u0 : u = 0
  · subst u0
    rcases hm with rfl | rfl | rfl | rfl | rfl | rfl | rfl | rfl <;> first | (simp; done) | (simp; decide) | decide
  by_cases u32 : u = 32
  · subst u32
    rcases hm with rfl | rfl | rfl | rfl | rfl | rfl | rfl | rfl <;> first | (simp; done) | (simp; decide) | decide
  by_cases u1 : u = 1
  · subst u1
    rcases hm with rfl | rfl | rfl | rfl | rfl | rfl | rfl | rfl <;> first | (simp; done) | (simp; decide) | decide
  have b0 : (u == 0) = false := beq_eq_false_iff_ne.2 u0
  have b1 : (u == 32) = false := beq_eq_false_iff_ne.2 u32
  have b2 : (u == 1) = false := beq_eq_false_iff_ne.2 u1
  simp [u0, u1, u32, b0, b1, b2]
set_option maxRecDepth 10000 in
theorem agree_47 (w : Int) (hw : U32 w) (h : w % 128 = 47) : Agree w := by
  obtain ⟨w0, w1⟩ := hw
  have nw : (w == 115) = false := by exact beq_eq_false_iff_ne.2 (by omega)
  have nv : (w == 1048691) = false := by exact beq_eq_false_iff_ne.2 (by omega)
  unfold Agree decOp opsList formS
  simp only [List.find?_cons, List.find?_nil, m_1, m_2, m_3, m_4, m_5, m_6, m_7, m_8, m_9, m_10, m_11, m_12, m_13, m_14, m_15, m_16, m_17, m_18, m_19, m_20, m_21, m_22, m_23, m_24, m_25, m_26, m_27, m_28, m_29, m_30, m_31, m_32, m_33, m_34, m_35, m_36, m_37, m_38, m_39, m_40, m_41, m_42, m_43, m_44, m_45, m_46, m_47, m_48, m_49, m_50, m_51, m_52, m_53, m_54, m_55, m_56, m_57, m_58, m_59, h, nw, nv]
  simp only [pickS]
  obtain ⟨m, hmm⟩ : ∃ m, m = w / 4096 % 8 := ⟨_, rfl⟩
  obtain ⟨u, huu⟩ : ∃ u, u = w / 33554432 % 128 := ⟨_, rfl⟩
  obtain ⟨a, haa⟩ : ∃ a, a = w / 134217728 % 32 := ⟨_, rfl⟩
  obtain ⟨r, hrr⟩ : ∃ r, r = w / 1048576 % 32 := ⟨_, rfl⟩
  have hmb : 0 ≤ m ∧ m < 8 := by omega
  simp only [← hmm, ← huu, ← haa, ← hrr]
  clear hmm huu haa hrr nw nv h w0 w1
  have hm : m = 0 ∨ m = 1 ∨ m = 2 ∨ m = 3 ∨ m = 4 ∨ m = 5 ∨ m = 6 ∨ m = 7 := by omega
  by_cases m2 : m = 2
  · subst m2
    by_cases r0 : r = 0
    all_goals
      clear hm hmb
      by_cases a2 : a = 2
      · subst a2; first | (simp [r0]; done) | (simp [r0]; decide) | (simp [r0, show (r == 0) = false from beq_eq_false_iff_ne.2 r0]; done)
      by_cases a3 : a = 3
      · subst a3; first | (simp [r0]; done) | (simp [r0]; decide) | (simp [r0, show (r == 0) = false from beq_eq_false_iff_ne.2 r0]; done)
      by_cases a1 : a = 1
      · subst a1; first | (simp [r0]; done) | (simp [r0]; decide) | (simp [r0, show (r == 0) = false from beq_eq_false_iff_ne.2 r0]; done)
      by_cases a0 : a = 0
      · subst a0; first | (simp [r0]; done) | (simp [r0]; decide) | (simp [r0, show (r == 0) = false from beq_eq_false_iff_ne.2 r0]; done)
      by_cases a4 : a = 4
      · subst a4; first | (simp [r0]; done) | (simp [r0]; decide) | (simp [r0, show (r == 0) = false from beq_eq_false_iff_ne.2 r0]; done)
      by_cases a12 : a = 12
      · subst a12; first | (simp [r0]; done) | (simp [r0]; decide) | (simp [r0, show (r == 0) = false from beq_eq_false_iff_ne.2 r0]; done)
      by_cases a8 : a = 8
      · subst a8; first | (simp [r0]; done) | (simp [r0]; decide) | (simp [r0, show (r == 0) = false from beq_eq_false_iff_ne.2 r0]; done)
      by_cases a16 : a = 16
      · subst a16; first | (simp [r0]; done) | (simp [r0]; decide) | (simp [r0, show (r == 0) = false from beq_eq_false_iff_ne.2 r0]; done)
      by_cases a20 : a = 20
      · subst a20; first | (simp [r0]; done) | (simp [r0]; decide) | (simp [r0, show (r == 0) = false from beq_eq_false_iff_ne.2 r0]; done)
      by_cases a24 : a = 24
      · subst a24; first | (simp [r0]; done) | (simp [r0]; decide) | (simp [r0, show (r == 0) = false from beq_eq_false_iff_ne.2 r0]; done)
      by_cases a28 : a = 28
      · subst a28; first | (simp [r0]; done) | (simp [r0]; decide) | (simp [r0, show (r == 0) = false from beq_eq_false_iff_ne.2 r0]; done)
      have f : ∀ c : Int, ¬ a = c → ¬ c = a := fun c h e => h e.symm
      have g : ∀ c : Int, ¬ a = c → (a == c) = false := fun c h => beq_eq_false_iff_ne.2 h
      simp [a2, f _ a2, g _ a2, a3, f _ a3, g _ a3, a1, f _ a1, g _ a1, a0, f _ a0, g _ a0, a4, f _ a4, g _ a4, a12, f _ a12, g _ a12, a8, f _ a8, g _ a8, a16, f _ a16, g _ a16, a20, f _ a20, g _ a20, a24, f _ a24, g _ a24, a28, f _ a28, g _ a28]
  · have mb : (m == 2) = false := beq_eq_false_iff_ne.2 m2
    simp [m2, mb]
set_option maxRecDepth 10000 in
theorem agree_15 (w : Int) (hw : U32 w) (h : w % 128 = 15) : Agree w := by
  obtain ⟨w0, w1⟩ := hw
  have nw : (w == 115) = false := by exact beq_eq_false_iff_ne.2 (by omega)
  have nv : (w == 1048691) = false := by exact beq_eq_false_iff_ne.2 (by omega)
  unfold Agree decOp opsList formS
  simp only [List.find?_cons, List.find?_nil, m_1, m_2, m_3, m_4, m_5, m_6, m_7, m_8, m_9, m_10, m_11, m_12, m_13, m_14, m_15, m_16, m_17, m_18, m_19, m_20, m_21, m_22, m_23, m_24, m_25, m_26, m_27, m_28, m_29, m_30, m_31, m_32, m_33, m_34, m_35, m_36, m_37, m_38, m_39, m_40, m_41, m_42, m_43, m_44, m_45, m_46, m_47, m_48, m_49, m_50, m_51, m_52, m_53, m_54, m_55, m_56, m_57, m_58, m_59, h, nw, nv]
  simp only [pickS]
  obtain ⟨m, hmm⟩ : ∃ m, m = w / 4096 % 8 := ⟨_, rfl⟩
  have hmb : 0 ≤ m ∧ m < 8 := by omega
  rw [← hmm]
  clear hmm
  have hm : m = 0 ∨ m = 1 ∨ m = 2 ∨ m = 3 ∨ m = 4 ∨ m = 5 ∨ m = 6 ∨ m = 7 := by omega
  rcases hm with rfl | rfl | rfl | rfl | rfl | rfl | rfl | rfl <;> first | (simp; done) | (simp; decide) | decide
set_option maxRecDepth 10000 in
theorem agree_115 (w : Int) (hw : U32 w) (h : w % 128 = 115) : Agree w := by
  obtain ⟨w0, w1⟩ := hw
  have nw : (w == 115) = decide (w = 115) := by simp [BEq.beq]
  have nv : (w == 1048691) = decide (w = 1048691) := by simp [BEq.beq]
  unfold Agree decOp opsList formS
  simp only [List.find?_cons, List.find?_nil, m_1, m_2, m_3, m_4, m_5, m_6, m_7, m_8, m_9, m_10, m_11, m_12, m_13, m_14, m_15, m_16, m_17, m_18, m_19, m_20, m_21, m_22, m_23, m_24, m_25, m_26, m_27, m_28, m_29, m_30, m_31, m_32, m_33, m_34, m_35, m_36, m_37, m_38, m_39, m_40, m_41, m_42, m_43, m_44, m_45, m_46, m_47, m_48, m_49, m_50, m_51, m_52, m_53, m_54, m_55, m_56, m_57, m_58, m_59, h, nw, nv]
  simp only [pickS]
  by_cases h1 : w = 115
  · subst h1; simp; decide
  by_cases h2 : w = 1048691
  · subst h2; simp; decide
  have h1' : ¬ 115 = w := fun e => h1 e.symm
  have h2' : ¬ 1048691 = w := fun e => h2 e.symm
  simp [h1, h2, h1', h2']
set_option maxRecDepth 10000 in
theorem agree_no (w : Int) (h : w % 128 ≠ 55 ∧ w % 128 ≠ 23 ∧ w % 128 ≠ 111 ∧ w % 128 ≠ 103 ∧ w % 128 ≠ 99 ∧ w % 128 ≠ 3 ∧ w % 128 ≠ 35 ∧ w % 128 ≠ 19 ∧ w % 128 ≠ 51 ∧ w % 128 ≠ 47 ∧ w % 128 ≠ 15 ∧ w % 128 ≠ 115) : Agree w := by
  obtain ⟨h1, h2, h3, h4, h5, h6, h7, h8, h9, h10, h11, h12⟩ := h
  have f := fun c (h : w % 128 ≠ c) => (beq_eq_false_iff_ne.2 h : (w % 128 == c) = false)
  have nw : (w == 115) = false := beq_eq_false_iff_ne.2 (by omega)
  have nv : (w == 1048691) = false := beq_eq_false_iff_ne.2 (by omega)
  unfold Agree decOp opsList formS
  simp only [List.find?_cons, List.find?_nil, m_1, m_2, m_3, m_4, m_5, m_6, m_7, m_8, m_9, m_10, m_11, m_12, m_13, m_14, m_15, m_16, m_17, m_18, m_19, m_20, m_21, m_22, m_23, m_24, m_25, m_26, m_27, m_28, m_29, m_30, m_31, m_32, m_33, m_34, m_35, m_36, m_37, m_38, m_39, m_40, m_41, m_42, m_43, m_44, m_45, m_46, m_47, m_48, m_49, m_50, m_51, m_52, m_53, m_54, m_55, m_56, m_57, m_58, m_59, f _ h1, f _ h2, f _ h3, f _ h4, f _ h5, f _ h6, f _ h7, f _ h8, f _ h9, f _ h10, f _ h11, f _ h12, nw, nv, Bool.false_and]
  simp
theorem agree (w : Int) (hw : U32 w) : Agree w := by
  by_cases h : w % 128 = 55 ∨ w % 128 = 23 ∨ w % 128 = 111 ∨ w % 128 = 103 ∨ w % 128 = 99 ∨ w % 128 = 3 ∨ w % 128 = 35 ∨ w % 128 = 19 ∨ w % 128 = 51 ∨ w % 128 = 47 ∨ w % 128 = 15 ∨ w % 128 = 115
  · rcases h with h | h | h | h | h | h | h | h | h | h | h | h
    · exact agree_55 w hw h
    · exact agree_23 w hw h
    · exact agree_111 w hw h
    · exact agree_103 w hw h
    · exact agree_99 w hw h
    · exact agree_3 w hw h
    · exact agree_35 w hw h
    · exact agree_19 w hw h
    · exact agree_51 w hw h
    · exact agree_47 w hw h
    · exact agree_15 w hw h
    · exact agree_115 w hw h
  · exact agree_no w (by omega)
end Go.Proofs.YtlfnddmncbkjaacDoor.Fb
