/- A machine as data; whether a run may be. No program in sight. -/
import Derived.Test.YtlfnddmncbkjaabFbHart
import Derived.Test.YtlfnddmncbkjaabFbStr
namespace Go.Proofs.Ytlfnddmncbkjaab.Fb
set_option linter.unusedVariables false
set_option linter.unusedSimpArgs false
open Go.RowKit

structure Mach where
  mem : List Int
  harts : List Hart

structure Mach.Wf (m : Mach) : Prop where
  mem : Bytes m.mem
  harts : ∀ h ∈ m.harts, h.Wf

def plist (p : Int × Int) : List Value := [.int .i64 p.1, .int .i64 p.2]
def badPick (n : Int) (p : Int × Int) : Bool := decide (p.1 < 0) || decide (n ≤ p.1) || decide (p.2 < 0) || decide (400 < p.2)
/-- E1: what is wrong with a run: 0, if nothing -/
def wrong (m : Mach) (script : List (Int × Int)) : Int :=
  if 4096 < m.mem.length ∨ m.harts.length < 1 ∨ 4 < m.harts.length then 2
  else if m.harts.any (fun h => !h.ok) = true then 2
  else if 300 < script.length then 1
  else if script.any (badPick m.harts.length) = true then 3
  else 0

/-- the two slices of a machine, in memory -/
def MachAt (w : World) (vm vh : Value) (m : Mach) : Prop := Ints .u8 w vm m.mem ∧ Sl w vh 37 m.harts.length (m.harts.flatMap hlist)
def Picks (w : World) (v : Value) (script : List (Int × Int)) : Prop := Sl w v 2 script.length (script.flatMap plist)
def i64ok (x : Int) : Prop := -9223372036854775808 ≤ x ∧ x ≤ 9223372036854775807

theorem MachAt.below {w w' : World} {vm vh : Value} {m : Mach} (h : MachAt w vm vh m) (hb : Below w.heap.size w w') : MachAt w' vm vh m := ⟨h.1.below hb, h.2.below hb⟩

/-- a slice of structs: its value; where it is not empty its place, and each element's cells -/
theorem Sl.open {α : Type} {w : World} {v : Value} {s : Nat} {l : List α} {f : α → List Value} (h : Sl w v s l.length (l.flatMap f)) (hf : ∀ x ∈ l, (f x).length = s) (hs : 0 < s) :
    ∃ ao cap, v = .slice ao l.length cap ∧ l.length ≤ cap ∧ cap ≤ maxLen ∧ (ao = none → cap = 0) ∧
      (l ≠ [] → ∃ b off, ao = some ⟨b, off, none⟩ ∧ b < w.heap.size ∧ ∀ i (hi : i < l.length), At w b (off + i * s) (f l[i])) := by
  obtain ⟨h1, ao, cap, h2, h3, h4, h5, h6⟩ := h
  refine ⟨ao, cap, h2, h3, h4, h5, fun hne => ?_⟩
  have hpos : 0 < l.length := List.length_pos_iff.2 hne
  cases ao with
  | none => have := h5 rfl; omega
  | some a =>
    have hx : l.flatMap f ≠ [] := by
      intro e
      rw [e] at h1
      have : 0 < l.length * s := Nat.mul_pos hpos hs
      simp at h1; omega
    obtain ⟨hsp, hat⟩ := h6 a rfl hx
    obtain ⟨b, off, sp⟩ := a
    simp only at hsp
    subst hsp
    have key := At.elem f s hf hat
    refine ⟨b, off, rfl, ?_, key⟩
    have h0 := hat 0 (by rw [h1]; exact Nat.mul_pos hpos hs)
    exact lt_of_cell h0
end Go.Proofs.Ytlfnddmncbkjaab.Fb
