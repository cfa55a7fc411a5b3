/- Blocks: plain. No program in sight. -/
import Derived.Test.YtlfnddmncbkjaabFbDec
import Derived.Test.YtlfnddmncbkjaabFbMem
import Derived.Test.YtlfnddmncbkjaabFbSlice
namespace Go.Proofs.Ytlfnddmncbkjaab.Fb
set_option linter.unusedVariables false
set_option linter.unusedSimpArgs false
open Go.RowKit
theorem mLoad_u13 (l : List Int) (pc : Int) (hpc : U32 pc) (hb : ∀ i, 0 ≤ l.getD i 0 ∧ l.getD i 0 < 256) : U32 (mLoad l 13 pc) := by
  by_cases h : mLoadOk l 13 pc = true
  · obtain ⟨k, rfl⟩ := Int.eq_ofNat_of_zero_le hpc.1
    rw [mLoad_13 h]
    have h0 := hb k
    have h1 := hb (k + 1)
    have h2 := hb (k + 2)
    have h3 := hb (k + 3)
    unfold U32
    omega
  · unfold mLoad; rw [if_neg h]; unfold U32; omega
/-- the instruction that stands at a place; why there is none: 1 no word, 2 no instruction -/
def fetchS (l : List Int) (pc : Int) : InsD × Int :=
  if mLoadOk l 13 pc = true then (match dec (mLoad l 13 pc) with | some i => (i, 0) | none => (i0, 2)) else (i0, 1)
def lastB (op : Int) : Bool := decide (3 ≤ op ∧ op ≤ 10) || (op == 58) || (op == 59)
/-- so many instructions at most, from a place on -/
def rowS (l : List Int) : Nat → Int → List InsD
  | 0, _ => []
  | n + 1, pc =>
    if mLoadOk l 13 pc = true then (match dec (mLoad l 13 pc) with
      | some i => i :: (if lastB i.op = true then [] else rowS l n ((pc + 4) % 4294967296))
      | none => [])
    else []
/-- the block at a place: where it begins, and its instructions -/
def makeS (l : List Int) (pc : Int) : Int × List InsD := if 4096 < l.length then (0, []) else (pc, rowS l 16 pc)
theorem rowS_len (l : List Int) : ∀ n pc, (rowS l n pc).length ≤ n
  | 0, _ => Nat.le_refl _
  | n + 1, pc => by
    unfold rowS
    split
    · cases dec (mLoad l 13 pc) with
      | none => simp
      | some i =>
        simp only [List.length_cons]
        split
        · simp
        · have := rowS_len l n ((pc + 4) % 4294967296); omega
    · simp
theorem makeS_len (l : List Int) (pc : Int) : (makeS l pc).2.length ≤ 16 := by
  unfold makeS; split
  · simp
  · exact rowS_len l 16 pc
end Go.Proofs.Ytlfnddmncbkjaab.Fb
