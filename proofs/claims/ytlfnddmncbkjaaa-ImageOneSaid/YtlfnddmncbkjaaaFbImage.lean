/- A machine as bytes. No program in sight. -/
import Derived.Test.YtlfnddmncbkjaaaFbGrew
namespace Go.Proofs.Ytlfnddmncbkjaaa.Fb
set_option linter.unusedVariables false
set_option linter.unusedSimpArgs false
open Go.RowKit

def Hart.heldInt (h : Hart) : Int := if h.held = true then 1 else 0
def hwords (h : Hart) : List Int := h.regs ++ [h.pc, h.heldInt, h.heldAt, h.state, h.cause]
def hbytes (h : Hart) : List Int := (hwords h).flatMap quad
def mbytes (m : Mach) : List Int := quad m.mem.length ++ m.mem ++ quad m.harts.length ++ m.harts.flatMap hbytes

theorem hbytes_len {h : Hart} (w : h.Wf) : (hbytes h).length = 148 := by rw [hbytes, quads_len]; simp [hwords, w.len]
theorem hbytes_parts (h : Hart) : hbytes h = h.regs.flatMap quad ++ [h.pc, h.heldInt, h.heldAt, h.state, h.cause].flatMap quad := by rw [hbytes, hwords, List.flatMap_append]
theorem quad_byte (x : Int) : ∀ y ∈ quad x, 0 ≤ y ∧ y < 256 := by
  intro y hy
  simp only [quad, List.mem_cons, List.not_mem_nil, or_false] at hy
  rcases hy with rfl | rfl | rfl | rfl <;> omega
theorem heldInt_u (h : Hart) : U32 h.heldInt := by unfold Hart.heldInt U32; split <;> omega

theorem wrong_nil (m : Mach) : wrong m [] = 0 ∨ wrong m [] = 2 := by
  unfold wrong
  split
  · exact .inr rfl
  · split
    · exact .inr rfl
    · simp
theorem wrong_mem {m : Mach} {s : List (Int × Int)} (h : wrong m s = 0) : m.mem.length ≤ 4096 ∧ 1 ≤ m.harts.length ∧ m.harts.length ≤ 4 := by
  unfold wrong at h
  split at h
  · cases h
  · omega
theorem wrong_harts {m : Mach} {s : List (Int × Int)} (h : wrong m s = 0) : ∀ x ∈ m.harts, x.ok = true := by
  unfold wrong at h
  split at h
  · cases h
  · split at h
    · cases h
    · rename_i h2
      intro x hx
      have h3 : ∀ x ∈ m.harts, x.ok = true := by simpa using h2
      exact h3 x hx
theorem ok_state {h : Hart} (k : h.ok = true) : 0 ≤ h.state ∧ h.state ≤ 2 := by
  simp [Hart.ok] at k; omega
theorem ok_cause {h : Hart} (k : h.ok = true) : 0 ≤ h.cause ∧ h.cause ≤ 6 := by
  simp [Hart.ok] at k; omega
theorem flats_len {m : List Hart} (w : ∀ h ∈ m, h.Wf) : (m.flatMap hbytes).length = m.length * 148 := by
  induction m with
  | nil => rfl
  | cons x r ih => rw [List.flatMap_cons, List.length_append, hbytes_len (w x (by simp)), ih (fun h hh => w h (by simp [hh])), List.length_cons]; omega
theorem flat_take' {α β : Type} {f : α → List β} {l : List α} {k : Nat} (h : k < l.length) : (l.take (k + 1)).flatMap f = (l.take k).flatMap f ++ f l[k] := by
  rw [List.take_succ_eq_append_getElem h, List.flatMap_append]
  simp
theorem mbytes_len {m : Mach} (w : m.Wf) : (mbytes m).length = 8 + m.mem.length + 148 * m.harts.length := by
  rw [mbytes, List.length_append, List.length_append, List.length_append, flats_len w.harts, quad_len, quad_len]; omega
theorem mbytes_bytes {m : Mach} (w : m.Wf) : Bytes (mbytes m) := by
  intro x hx
  simp only [mbytes, List.mem_append, List.mem_flatMap] at hx
  rcases hx with ((h | h) | h) | ⟨h, _, h2⟩
  · exact quad_byte _ x h
  · exact w.mem x h
  · exact quad_byte _ x h
  · obtain ⟨y, _, hy⟩ := List.mem_flatMap.1 h2
    exact quad_byte _ x hy
theorem strOfNums_append (xs ys : List Int) : strOfNums (xs ++ ys) = strOfNums xs ++ strOfNums ys := by
  apply ByteArray.ext
  apply Array.toList_inj.mp
  rw [strOfNums_data]
  simp [strOfNums]
theorem strOfNums_size (xs : List Int) : (strOfNums xs).size = xs.length := by simp [strOfNums, ByteArray.size]
theorem num_step (n : Int) (j : Nat) (b : ByteArray) (x : Int) (hj : j < 4) (hb : b = strOfNums ((quad n).take j)) (hx : x = n / 256 ^ j) :
    b ++ strOfNums [x % 256] = strOfNums ((quad n).take (j + 1)) ∧ x / 256 = n / 256 ^ (j + 1) := by
  subst hb hx
  rw [← strOfNums_append]
  have h : j = 0 ∨ j = 1 ∨ j = 2 ∨ j = 3 := by omega
  rcases h with rfl | rfl | rfl | rfl
  · exact ⟨by simp [quad], by simp⟩
  · exact ⟨by simp [quad], by omega⟩
  · exact ⟨by simp [quad], by omega⟩
  · exact ⟨by simp [quad], by omega⟩
end Go.Proofs.Ytlfnddmncbkjaaa.Fb
