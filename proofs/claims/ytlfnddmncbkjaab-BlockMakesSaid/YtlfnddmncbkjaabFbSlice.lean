/- Slices in memory, read as lists. No program in sight. -/
import Derived.Test.YtlfnddmncbkjaabFbBits
import Derived.Below
import Derived.WalkSmall
namespace Go.Proofs.Ytlfnddmncbkjaab.Fb
set_option linter.unusedVariables false
set_option linter.unusedSimpArgs false
open Go.RowKit

/-- from a place on the cells hold these values -/
def At (w : World) (b off : Nat) (xs : List Value) : Prop := ∀ j (h : j < xs.length), w.cell? ⟨b, off + j, none⟩ = some (xs[j]'h)

theorem lt_of_cell {w : World} {p : Addr} {v : Value} (h : w.cell? p = some v) : p.block < w.heap.size := by
  unfold World.cell? at h
  cases e : w.heap[p.block]? with
  | none => rw [e] at h; cases h
  | some o => exact (Array.getElem?_eq_some_iff.1 e).1

theorem At.below {w w' : World} {b off : Nat} {xs : List Value} (h : At w b off xs) (hb : Below w.heap.size w w') : At w' b off xs := fun j hj => by
  have h1 := h j hj
  rw [← h1]
  exact hb.cell (lt_of_cell h1)
theorem At.of_lt {w w' : World} {B b off : Nat} {xs : List Value} (h : At w b off xs) (hb : Below B w w') (hlt : b < B) : At w' b off xs := fun j hj => by
  rw [← h j hj]
  exact hb.cell hlt
theorem At.alike {w w' : World} {b off : Nat} {xs : List Value} (h : At w b off xs) (hb : ∀ o, w'.cell? ⟨b, o, none⟩ = w.cell? ⟨b, o, none⟩) : At w' b off xs := fun j hj => by
  rw [← h j hj]
  exact hb _

/-- A SLICE's VALUE, n elements, s cells each, reads as these cells -/
def Sl (w : World) (v : Value) (s n : Nat) (xs : List Value) : Prop :=
  xs.length = n * s ∧ ∃ ao cap, v = .slice ao n cap ∧ n ≤ cap ∧ cap ≤ maxLen ∧ (ao = none → cap = 0) ∧ ∀ a, ao = some a → xs ≠ [] → a.spot = none ∧ At w a.block a.off xs

theorem Sl.below {w w' : World} {v : Value} {s n : Nat} {xs : List Value} (h : Sl w v s n xs) (hb : Below w.heap.size w w') : Sl w' v s n xs := by
  obtain ⟨h1, ao, cap, h2, h3, h4, h5, h6⟩ := h
  exact ⟨h1, ao, cap, h2, h3, h4, h5, fun a ha hx => ⟨(h6 a ha hx).1, (h6 a ha hx).2.below hb⟩⟩

theorem Sl.nil (w : World) (s : Nat) : Sl w (.slice none 0 0) s 0 [] := ⟨by simp, none, 0, rfl, Nat.le_refl _, by decide, fun _ => rfl, by intro a h; cases h⟩

/-- a slice of numbers -/
def Ints (k : IntKind) (w : World) (v : Value) (l : List Int) : Prop := Sl w v 1 l.length (l.map (Value.int k))

/-- what a walk takes of a slice of numbers: its value; where it is not empty its place and its cells -/
theorem Ints.open {k : IntKind} {w : World} {v : Value} {l : List Int} (h : Ints k w v l) :
    ∃ ao cap, v = .slice ao l.length cap ∧ l.length ≤ cap ∧ cap ≤ maxLen ∧ (ao = none → cap = 0) ∧
      (l ≠ [] → ∃ b off, ao = some ⟨b, off, none⟩ ∧ b < w.heap.size ∧ ∀ i, i < l.length → w.cell? ⟨b, off + i, none⟩ = some (.int k (l.getD i 0))) := by
  obtain ⟨h1, ao, cap, h2, h3, h4, h5, h6⟩ := h
  refine ⟨ao, cap, h2, h3, h4, h5, fun hne => ?_⟩
  have hpos : 0 < l.length := List.length_pos_iff.2 hne
  cases ao with
  | none => have := h5 rfl; omega
  | some a =>
    have hx : l.map (Value.int k) ≠ [] := by simpa using hne
    obtain ⟨hs, hat⟩ := h6 a rfl hx
    obtain ⟨b, off, sp⟩ := a
    simp only at hs
    subst hs
    have key : ∀ i, i < l.length → w.cell? ⟨b, off + i, none⟩ = some (.int k (l.getD i 0)) := fun i hi => by
      have := hat i (by simpa using hi)
      rw [this]
      simp [List.getD, hi]
    refine ⟨b, off, rfl, ?_, key⟩
    exact lt_of_cell (key 0 hpos)

theorem Ints.below {k : IntKind} {w w' : World} {v : Value} {l : List Int} (h : Ints k w v l) (hb : Below w.heap.size w w') : Ints k w' v l := Sl.below h hb

theorem addr_add (a : Addr) (h : a.spot = none) (j : Nat) : a.add j = ⟨a.block, a.off + j, none⟩ := by
  obtain ⟨b, o, s⟩ := a
  simp only at h
  subst h
  unfold Addr.add
  split
  · rename_i h0; rw [h0]; rfl
  · rfl
/-- an empty slice literal owns its new, empty block -/
theorem ownsRow_built (w : World) (B : Nat) (e : TypeId) (s : Nat) (hB : B ≤ w.heap.size) : (w.alloc (.cells #[] e)).ownsRow B e s (.slice (some ⟨w.heap.size, 0, none⟩) 0 0) 0 [] := by
  refine ⟨by simp, .inr ⟨w.heap.size, 0, #[], rfl, hB, ?_, Nat.le_refl _, by decide, by simp, by simp⟩⟩
  show (w.heap.push (.cells #[] e))[w.heap.size]? = _
  simp
/-- so many bytes of a word laid into a row of bytes, cell by cell -/
def putW (W : World) (b off k : Nat) (x : Int) : Nat → World
  | 0 => W
  | m + 1 => (putW W b off k x m).setCell ⟨b, off + (k + m), none⟩ (.int .u8 (x / 256 ^ m % 256))

theorem putW_size (W : World) (b off k : Nat) (x : Int) : ∀ m, (putW W b off k x m).heap.size = W.heap.size
  | 0 => rfl
  | m + 1 => by rw [putW, World.size_setCell, putW_size W b off k x m]
theorem putW_frozen (W : World) (b off k : Nat) (x : Int) (p : Addr) : ∀ m, (putW W b off k x m).frozen? p = W.frozen? p
  | 0 => rfl
  | m + 1 => by rw [putW, World.frozen?_setCell, putW_frozen W b off k x p m]
theorem putW_other (W : World) (b off k : Nat) (x : Int) (p : Addr) : ∀ m, (∀ j, j < m → p ≠ ⟨b, off + (k + j), none⟩) → (putW W b off k x m).cell? p = W.cell? p
  | 0, _ => rfl
  | m + 1, h => by
    rw [putW, World.cell?_setCell_other _ _ _ _ (h m (by omega)).symm, putW_other W b off k x p m (fun j hj => h j (by omega))]
theorem putW_below (W : World) (b off k : Nat) (x : Int) {B : Nat} (hB : B ≤ b) : ∀ m, Below B W (putW W b off k x m)
  | 0 => Below.refl _ _
  | m + 1 => (putW_below W b off k x hB m).setCell hB _
theorem At.set {W : World} {b off : Nat} {xs : List Value} (h : At W b off xs) (i : Nat) (hi : i < xs.length) (v : Value) : At (W.setCell ⟨b, off + i, none⟩ v) b off (xs.set i v) := by
  intro j hj
  have hj' : j < xs.length := by simpa using hj
  by_cases e : i = j
  · subst e
    rw [World.cell?_setCell_same _ _ _ (h i hi)]
    simp
  · rw [World.cell?_setCell_other _ _ _ _ (by intro hh; injection hh with _ h2; omega), h j hj']
    simp [List.getElem_set, e]
/-- what is owned: nil, or a row of the call's own, none of it frozen -/
theorem owns_open {w : World} {B : Nat} {e : TypeId} {s : Nat} {v : Value} {n : Nat} {xs : List Value} (h : w.ownsRow B e s v n xs) :
    (v = .slice none 0 0 ∧ n = 0 ∧ xs = []) ∨ ∃ g cap, v = .slice (some ⟨g, 0, none⟩) n cap ∧ B ≤ g ∧ g < w.heap.size ∧ n ≤ cap ∧ cap ≤ maxLen ∧ At w g 0 xs ∧ ∀ o, w.frozen? ⟨g, o, none⟩ = false := by
  obtain ⟨h1, h2⟩ := h
  rcases h2 with ⟨rfl, rfl⟩ | ⟨g, cap, cur, rfl, hB, hh, hn, hm, hs, ht⟩
  · exact .inl ⟨rfl, rfl, List.eq_nil_of_length_eq_zero (by simpa using h1)⟩
  · refine .inr ⟨g, cap, rfl, hB, (Array.getElem?_eq_some_iff.1 hh).1, hn, hm, ?_, ?_⟩
    · intro j hj
      have hj2 : j < cur.size := by
        have : n * s ≤ cap * s := Nat.mul_le_mul_right s hn
        rw [hs]; omega
      have e1 : w.cell? ⟨g, 0 + j, none⟩ = some (cur[j]'hj2) := by
        simp [World.cell?, hh, hj2]
      rw [e1]
      congr 1
      have hj3 : j < n * s := by omega
      subst ht
      simp
    · intro o
      simp [World.frozen?, hh]
theorem owns_sl {w : World} {B : Nat} {e : TypeId} {s : Nat} {v : Value} {n : Nat} {xs : List Value} (h : w.ownsRow B e s v n xs) : Sl w v s n xs := by
  have h0 := h.1
  rcases owns_open h with ⟨rfl, rfl, rfl⟩ | ⟨g, cap, rfl, hB, hg, hn, hm, hat, hf⟩
  · exact Sl.nil _ _
  · exact ⟨h0, some ⟨g, 0, none⟩, cap, rfl, hn, hm, by simp, fun a ha _ => by cases ha; exact ⟨rfl, hat⟩⟩
theorem Sl.mk {w : World} {b off s n cap : Nat} {xs : List Value} (h : At w b off xs) (hl : xs.length = n * s) (hn : n ≤ cap) (hm : cap ≤ maxLen) : Sl w (.slice (some ⟨b, off, none⟩) n cap) s n xs :=
  ⟨hl, _, cap, rfl, hn, hm, by simp, fun a ha _ => by cases ha; exact ⟨rfl, h⟩⟩
theorem Ints.mk {k : IntKind} {w : World} {b off n cap : Nat} {l : List Int} (h : At w b off (l.map (Value.int k))) (hl : n = l.length) (hn : n ≤ cap) (hm : cap ≤ maxLen) : Ints k w (.slice (some ⟨b, off, none⟩) n cap) l := by
  subst hl
  exact Sl.mk h (by simp) hn hm
/-- a new block's cells -/
theorem at_alloc (w : World) (cs : List Value) (e : TypeId) (m : Nat × Nat) : At (w.alloc (.cells cs.toArray e m)) w.heap.size 0 cs := by
  intro j hj
  have h : (w.alloc (.cells cs.toArray e m)).heap[w.heap.size]? = some (.cells cs.toArray e m) := by
    show (w.heap.push _)[w.heap.size]? = _
    simp
  unfold World.cell?
  simp only [h]
  simp [hj]
end Go.Proofs.Ytlfnddmncbkjaab.Fb
