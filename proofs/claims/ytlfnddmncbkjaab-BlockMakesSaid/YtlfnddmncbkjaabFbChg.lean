/- What a call changes: cell by cell. No program in sight. -/
import Derived.Test.YtlfnddmncbkjaabFbSlice
namespace Go.Proofs.Ytlfnddmncbkjaab.Fb
set_option linter.unusedVariables false
set_option linter.unusedSimpArgs false
open Go.RowKit

/-- From w to w' only the cells of S may have turned, of those that were there. -/
structure Chg (S : Addr → Prop) (w w' : World) : Prop where
  os : w'.os = w.os
  tape : w'.tape = w.tape
  output : w'.output = w.output
  size : w.heap.size ≤ w'.heap.size
  block : ∀ k, k < w.heap.size → (∀ o, ¬ S ⟨k, o, none⟩) → w'.heap[k]? = w.heap[k]?
  cell : ∀ p : Addr, p.block < w.heap.size → ¬ S p → w'.cell? p = w.cell? p
  frozen : ∀ p : Addr, p.block < w.heap.size → w'.frozen? p = w.frozen? p

theorem Chg.refl (S : Addr → Prop) (w : World) : Chg S w w := ⟨rfl, rfl, rfl, Nat.le_refl _, fun _ _ _ => rfl, fun _ _ _ => rfl, fun _ _ => rfl⟩
theorem Chg.trans {S S' : Addr → Prop} {a b c : World} (h : Chg S a b) (k : Chg S' b c) (hS : ∀ p : Addr, p.block < a.heap.size → S' p → S p) : Chg S a c where
  os := k.os.trans h.os
  tape := k.tape.trans h.tape
  output := k.output.trans h.output
  size := Nat.le_trans h.size k.size
  block := fun i hi hn => (k.block i (Nat.lt_of_lt_of_le hi h.size) (fun o ho => hn o (hS _ hi ho))).trans (h.block i hi hn)
  cell := fun p hp hn => (k.cell p (Nat.lt_of_lt_of_le hp h.size) (fun ho => hn (hS _ hp ho))).trans (h.cell p hp hn)
  frozen := fun p hp => (k.frozen p (Nat.lt_of_lt_of_le hp h.size)).trans (h.frozen p hp)
theorem Chg.mono {S S' : Addr → Prop} {a b : World} (h : Chg S a b) (hS : ∀ p : Addr, p.block < a.heap.size → S p → S' p) : Chg S' a b where
  os := h.os
  tape := h.tape
  output := h.output
  size := h.size
  block := fun i hi hn => h.block i hi (fun o ho => hn o (hS _ hi ho))
  cell := fun p hp hn => h.cell p hp (fun ho => hn (hS _ hp ho))
  frozen := h.frozen
/-- below block B nothing turned: B and all behind it may have -/
theorem Chg.below {S : Addr → Prop} {a b : World} (h : Chg S a b) {B : Nat} (hB : B ≤ a.heap.size) (hS : ∀ p : Addr, p.block < B → ¬ S p) : Below B a b :=
  ⟨h.os, h.tape, h.output, h.size, fun k hk => h.block k (Nat.lt_of_lt_of_le hk hB) (fun o => hS _ hk)⟩
theorem Chg.of_below {a b : World} (h : Below a.heap.size a b) (S : Addr → Prop) : Chg S a b :=
  ⟨h.os, h.tape, h.output, h.size, fun k hk _ => h.block k hk, fun _ hp _ => h.cell hp, fun _ hp => h.frozen hp⟩
theorem Chg.drewN {S : Addr → Prop} {a b : World} (h : Chg S a b) (n : Nat) : Chg S a (b.drewN n) := ⟨h.os, h.tape, h.output, h.size, h.block, h.cell, h.frozen⟩
theorem Chg.drew {S : Addr → Prop} {a b : World} (h : Chg S a b) : Chg S a b.drew := ⟨h.os, h.tape, h.output, h.size, h.block, h.cell, h.frozen⟩
theorem Chg.alloc {S : Addr → Prop} {a b : World} (h : Chg S a b) (o : Obj) : Chg S a (b.alloc o) :=
  h.trans (S' := fun _ => False) (.of_below (Below.alloc (Below.refl _ _) (Nat.le_refl _) o) _) (fun _ _ hf => hf.elim)
theorem Chg.setCell {S : Addr → Prop} {a b : World} (h : Chg S a b) (p : Addr) (v : Value) (hp : p.block < a.heap.size → S p) : Chg S a (b.setCell p v) := by
  refine h.trans (S' := fun q => q = p) ⟨rfl, rfl, rfl, by simp, fun k hk hn => ?_, fun q hq hn => ?_, fun q _ => World.frozen?_setCell _ _ _ _⟩ (fun q hq e => by subst e; exact hp hq)
  · by_cases e : k = p.block
    · subst e
      cases hs : p.spot with
      | none => exact absurd (show (⟨p.block, p.off, none⟩ : Addr) = p by cases p; simp_all) (hn p.off)
      | some s =>
        simp only [World.setCell, Array.getElem?_modify, hs]
        split
        · cases b.heap[p.block]? with
          | none => rfl
          | some o => cases o <;> simp
        · rfl
    · exact Below.heap_setCell _ _ _ _ e
  · exact World.cell?_setCell_other _ _ _ _ (fun e => hn e.symm)

/-- cells that are not of S stand as they stood -/
theorem Chg.at {S : Addr → Prop} {w w' : World} (h : Chg S w w') {b off : Nat} {xs : List Value} (ha : At w b off xs) (hn : ∀ j, j < xs.length → ¬ S ⟨b, off + j, none⟩) : At w' b off xs := fun j hj => by
  have h1 := ha j hj
  rw [← h1]
  exact h.cell _ (lt_of_cell h1) (hn j hj)
theorem Chg.sl {S : Addr → Prop} {w w' : World} (h : Chg S w w') {v : Value} {s n : Nat} {xs : List Value} (ha : Sl w v s n xs) (hn : ∀ a n' c, v = .slice (some a) n' c → ∀ j, j < xs.length → ¬ S ⟨a.block, a.off + j, none⟩) : Sl w' v s n xs := by
  obtain ⟨h1, ao, cap, h2, h3, h4, h5, h6⟩ := ha
  exact ⟨h1, ao, cap, h2, h3, h4, h5, fun a e hx => ⟨(h6 a e hx).1, h.at (h6 a e hx).2 (hn a n cap (by rw [h2, e]))⟩⟩
/-- below what may have turned -/
theorem Chg.at_lt {S : Addr → Prop} {w w' : World} (h : Chg S w w') {b off : Nat} {xs : List Value} (ha : At w b off xs) (hn : ∀ o, ¬ S ⟨b, o, none⟩) : At w' b off xs := h.at ha (fun _ _ => hn _)
end Go.Proofs.Ytlfnddmncbkjaab.Fb
