/- A row of bytes that is written on and on, through a box that holds it. No program in sight. -/
import Derived.Deep.RegionHeld3
import Derived.Deep.RegionLaw
import Derived.Deep.CutRange
import Derived.Deep.AppendLies
import Derived.Test.YtlfnddmncbkjaabFbMachine
import Derived.Test.YtlfnddmncbkjaabFbAppend
namespace Go.Proofs.Ytlfnddmncbkjaab.Fb
set_option linter.unusedVariables false
set_option linter.unusedSimpArgs false
open Go.RowKit

/-- from w to w': block pw, and rows of type ty behind it, may have turned; nothing else of w -/
structure Grew (pw : Nat) (ty : TypeId) (w w' : World) : Prop where
  os : w'.os = w.os
  tape : w'.tape = w.tape
  output : w'.output = w.output
  size : w.heap.size ≤ w'.heap.size
  block : ∀ k, k < w.heap.size → (k < pw ∨ (pw < k ∧ ∀ cs fr, w.heap[k]? ≠ some (.cells cs ty fr))) → w'.heap[k]? = w.heap[k]?

theorem Grew.refl (pw : Nat) (ty : TypeId) (w : World) : Grew pw ty w w := ⟨rfl, rfl, rfl, Nat.le_refl _, fun _ _ _ => rfl⟩
theorem Grew.trans {pw : Nat} {ty : TypeId} {a b c : World} (h : Grew pw ty a b) (k : Grew pw ty b c) : Grew pw ty a c :=
  ⟨k.os.trans h.os, k.tape.trans h.tape, k.output.trans h.output, Nat.le_trans h.size k.size, fun i hi hc =>
    have e := h.block i hi hc
    (k.block i (Nat.lt_of_lt_of_le hi h.size) (hc.imp id (fun ⟨h1, h2⟩ => ⟨h1, fun cs fr => by rw [e]; exact h2 cs fr⟩))).trans e⟩
theorem Grew.of_below {pw : Nat} {ty : TypeId} {a b : World} (h : Below a.heap.size a b) : Grew pw ty a b := ⟨h.os, h.tape, h.output, h.size, fun k hk _ => h.block k hk⟩
theorem Grew.below {pw : Nat} {ty : TypeId} {a b : World} (h : Grew pw ty a b) (hp : pw ≤ a.heap.size) : Below pw a b := ⟨h.os, h.tape, h.output, h.size, fun k hk => h.block k (Nat.lt_of_lt_of_le hk hp) (.inl hk)⟩
theorem Grew.alloc (pw : Nat) (ty : TypeId) (w : World) (o : Obj) : Grew pw ty w (w.alloc o) := .of_below (Below.alloc (Below.refl _ _) (Nat.le_refl _) o)
theorem Grew.setCell (pw : Nat) (ty : TypeId) (w : World) (o : Nat) (v : Value) : Grew pw ty w (w.setCell ⟨pw, o, none⟩ v) :=
  ⟨rfl, rfl, rfl, by simp, fun k _ hc => Below.heap_setCell _ _ _ _ (by show k ≠ pw; rcases hc with h | h <;> omega)⟩
theorem Grew.grown {pw : Nat} {ty : TypeId} {w w' : World} {s n : Nat} {v : Value} {xs : List Value} (h : w.ownsRow (pw + 1) ty s v n xs) (hg : w.grownBy w' v.ownBlock) : Grew pw ty w w' :=
  ⟨hg.os, hg.tape, hg.output, hg.size, fun k hk hc => hg.block k hk (fun e => by
    obtain ⟨_, h2⟩ := h
    rcases h2 with ⟨rfl, _⟩ | ⟨g, cap, cur, rfl, hB, hh, _⟩
    · cases e
    · have e2 : k = g := by simpa [Value.ownBlock] using e
      subst e2
      rcases hc with hc | ⟨_, hc⟩
      · omega
      · exact hc _ _ hh)⟩
theorem Grew.drewN {pw : Nat} {ty : TypeId} {a w : World} (h : Grew pw ty a w) (n : Nat) : Grew pw ty a (w.drewN n) := ⟨h.os, h.tape, h.output, h.size, h.block⟩
/-- a block that a Grew leaves alone: its cells -/
theorem Grew.at {pw : Nat} {ty : TypeId} {w w' : World} (h : Grew pw ty w w') {b off : Nat} {xs : List Value} (ha : At w b off xs) (hn : b < pw ∨ (pw < b ∧ ∀ cs fr, w.heap[b]? ≠ some (.cells cs ty fr))) : At w' b off xs := fun j hj => by
  have h1 := ha j hj
  rw [← h1]
  exact World.cell?_of_block (h.block b (lt_of_cell h1) hn)

theorem frozen_alloc {w : World} (o : Obj) {p : Addr} (h : p.block < w.heap.size) : (w.alloc o).frozen? p = w.frozen? p := World.frozen?_of_block (heap_alloc_old w o h)
theorem frozen_da {w : World} (o : Obj) {p : Addr} (h : p.block < w.heap.size) : (w.alloc o).drew.frozen? p = w.frozen? p := frozen_alloc o h
/-- the writer at pw: its one cell is a row of its own that holds these bytes -/
def Wrt (pw : Nat) (ty : TypeId) (w : World) (xs : List Int) : Prop :=
  ∃ v, w.cell? ⟨pw, 0, none⟩ = some v ∧ w.frozen? ⟨pw, 0, none⟩ = false ∧ w.ownsRow (pw + 1) ty 1 v xs.length (xs.map (Value.int .u8))

theorem Wrt.lt {pw : Nat} {ty : TypeId} {w : World} {xs : List Int} (h : Wrt pw ty w xs) : pw < w.heap.size := by
  obtain ⟨v, h1, _⟩ := h
  exact lt_of_cell h1

theorem Wrt.next {pw : Nat} {ty : TypeId} {w1 : World} {v u : Value} {ys : List Int} {y : Int} (hown : w1.ownsRow (pw + 1) ty 1 u (ys.length + 1) (ys.map (Value.int .u8) ++ [.int .u8 y]))
    (hc : w1.cell? ⟨pw, 0, none⟩ = some v) (hf : w1.frozen? ⟨pw, 0, none⟩ = false) : Wrt pw ty (w1.setCell ⟨pw, 0, none⟩ u) (ys ++ [y]) :=
  ⟨u, World.cell?_setCell_same _ _ _ hc, (World.frozen?_setCell _ _ _ _).trans hf, by
    have := ownsRow_setCell_below hown (a := ⟨pw, 0, none⟩) (Nat.lt_succ_self pw) u
    simpa using this⟩
theorem Wrt.nexts {pw : Nat} {ty : TypeId} {w1 : World} {v u : Value} {ys zs : List Int} (hown : w1.ownsRow (pw + 1) ty 1 u (ys.length + zs.length) (ys.map (Value.int .u8) ++ zs.map (Value.int .u8)))
    (hc : w1.cell? ⟨pw, 0, none⟩ = some v) (hf : w1.frozen? ⟨pw, 0, none⟩ = false) : Wrt pw ty (w1.setCell ⟨pw, 0, none⟩ u) (ys ++ zs) :=
  ⟨u, World.cell?_setCell_same _ _ _ hc, (World.frozen?_setCell _ _ _ _).trans hf, by
    have := ownsRow_setCell_below hown (a := ⟨pw, 0, none⟩) (Nat.lt_succ_self pw) u
    simpa using this⟩
theorem Grew.nexts {pw : Nat} {ty : TypeId} {w wr w1 : World} {v u : Value} {n : Nat} {xs : List Value} (h : Grew pw ty w wr) (hown : wr.ownsRow (pw + 1) ty 1 v n xs)
    (hg : wr.drew.grownBy w1 v.ownBlock) : Grew pw ty w (w1.setCell ⟨pw, 0, none⟩ u) :=
  ((h.trans (.of_below (Below.drew (Below.refl _ _)))).trans (Grew.grown hown.drew hg)).trans (Grew.setCell _ _ _ _ _)
theorem Grew.next {pw : Nat} {ty : TypeId} {w wr w1 : World} {v u : Value} {n : Nat} {xs : List Value} {o : Obj} (h : Grew pw ty w wr) (hown : wr.ownsRow (pw + 1) ty 1 v n xs)
    (hg : (wr.alloc o).drew.grownBy w1 v.ownBlock) : Grew pw ty w (w1.setCell ⟨pw, 0, none⟩ u) :=
  (((h.trans (Grew.alloc _ _ _ o)).trans (.of_below (Below.drew (Below.refl _ _)))).trans (Grew.grown (hown.alloc o).drew hg)).trans (Grew.setCell _ _ _ _ _)
theorem owns_slice {w : World} {B : Nat} {e : TypeId} {s : Nat} {v : Value} {n : Nat} {xs : List Value} (h : w.ownsRow B e s v n xs) : ∃ ao c, v = .slice ao n c := by
  rcases h.2 with ⟨rfl, rfl⟩ | ⟨g, cap, cur, rfl, _⟩
  · exact ⟨none, 0, rfl⟩
  · exact ⟨_, cap, rfl⟩
theorem Wrt.alloc {pw : Nat} {ty : TypeId} {w : World} {xs : List Int} (h : Wrt pw ty w xs) (o : Obj) : Wrt pw ty (w.alloc o) xs := by
  obtain ⟨v, h1, h2, h3⟩ := h
  exact ⟨v, (World.cell?_alloc_lt _ _ _ (lt_of_cell h1)).trans h1, (frozen_alloc o (lt_of_cell h1)).trans h2, h3.alloc o⟩
theorem Wrt.init (w : World) (ty t : TypeId) : Wrt w.heap.size ty (w.alloc (.cells #[.slice none 0 0] t)) [] :=
  ⟨.slice none 0 0, by simp, by unfold World.frozen?; rw [heap_alloc_new]; simp, World.ownsRow_nil _ _ _ _⟩
/-- a number's four bytes, the lowest one first -/
def quad (x : Int) : List Int := [x % 256, x / 256 % 256, x / 65536 % 256, x / 16777216 % 256]
theorem quad_len (x : Int) : (quad x).length = 4 := rfl
theorem flat_take {f : Int → List Int} {l : List Int} {k : Nat} (h : k < l.length) : (l.take (k + 1)).flatMap f = (l.take k).flatMap f ++ f l[k] := by
  rw [List.take_succ_eq_append_getElem h, List.flatMap_append]
  simp
theorem quads_len (l : List Int) : (l.flatMap quad).length = 4 * l.length := by
  induction l with
  | nil => rfl
  | cons x r ih => simp [List.flatMap_cons, ih, quad_len]; omega
theorem num_len (xs l : List Int) (k : Nat) (x : Int) (j : Nat) (hk : k ≤ l.length) (hj : j ≤ 4) : (xs ++ (l.take k).flatMap quad ++ (quad x).take j).length = xs.length + 4 * k + j := by
  rw [List.length_append, List.length_append, quads_len, List.length_take, List.length_take, quad_len]; omega
end Go.Proofs.Ytlfnddmncbkjaab.Fb
