/- A block that is made, in a box of its own: its second cell a row of its own that holds instructions. No program in sight. -/
import Derived.Test.YtlfnddmncbkjaabFbGrew
import Derived.Test.YtlfnddmncbkjaabFbBlock
namespace Go.Proofs.Ytlfnddmncbkjaab.Fb
set_option linter.unusedVariables false
set_option linter.unusedSimpArgs false
open Go.RowKit
theorem owns_below {B : Nat} {e : TypeId} {k : Nat} {v : Value} {n : Nat} {xs : List Value} {w w' : World} (h : w.ownsRow B e k v n xs) (hb : Below w.heap.size w w') : w'.ownsRow B e k v n xs := by
  obtain ⟨h1, h2⟩ := h
  refine ⟨h1, ?_⟩
  rcases h2 with ⟨rfl, rfl⟩ | ⟨g, cap, cur, rfl, hB, hh, h3⟩
  · exact .inl ⟨rfl, rfl⟩
  · exact .inr ⟨g, cap, cur, rfl, hB, (hb.block g (Array.getElem?_eq_some_iff.1 hh).1).trans hh, h3⟩
/-- the box at pw: a place, and a row of its own of instructions -/
def BlkW (pw : Nat) (ty : TypeId) (w : World) (pc : Int) (l : List InsD) : Prop :=
  w.cell? ⟨pw, 0, none⟩ = some (.int .u32 pc) ∧ ∃ v, w.cell? ⟨pw, 1, none⟩ = some v ∧ w.frozen? ⟨pw, 1, none⟩ = false ∧ w.ownsRow (pw + 1) ty 5 v l.length (l.flatMap ilist)
theorem BlkW.lt {pw : Nat} {ty : TypeId} {w : World} {pc : Int} {l : List InsD} (h : BlkW pw ty w pc l) : pw < w.heap.size := lt_of_cell h.1
theorem BlkW.below {pw : Nat} {ty : TypeId} {w w' : World} {pc : Int} {l : List InsD} (h : BlkW pw ty w pc l) (hb : Below w.heap.size w w') : BlkW pw ty w' pc l := by
  have hlt := h.lt
  obtain ⟨h1, v, h2, h3, h4⟩ := h
  exact ⟨(hb.cell hlt).trans h1, v, (hb.cell hlt).trans h2, (World.frozen?_of_block (hb.block pw hlt)).trans h3, owns_below h4 hb⟩
theorem BlkW.init (w : World) (ty t : TypeId) (pc : Int) : BlkW w.heap.size ty (w.alloc (.cells #[.int .u32 pc, .slice none 0 0] t)) pc [] :=
  ⟨by simp, .slice none 0 0, by simp, by unfold World.frozen?; rw [heap_alloc_new]; simp, World.ownsRow_nil _ _ _ _⟩
theorem BlkW.next {pw : Nat} {ty : TypeId} {w1 : World} {pc : Int} {v u : Value} {ys : List InsD} {y : InsD} (h0 : w1.cell? ⟨pw, 0, none⟩ = some (.int .u32 pc)) (hown : w1.ownsRow (pw + 1) ty 5 u (ys.length + 1) (ys.flatMap ilist ++ ilist y))
    (hc : w1.cell? ⟨pw, 1, none⟩ = some v) (hf : w1.frozen? ⟨pw, 1, none⟩ = false) : BlkW pw ty (w1.setCell ⟨pw, 1, none⟩ u) pc (ys ++ [y]) :=
  ⟨(World.cell?_setCell_other _ _ _ _ (by intro hh; injection hh with _ h2; omega)).trans h0, u, World.cell?_setCell_same _ _ _ hc, (World.frozen?_setCell _ _ _ _).trans hf, by
    have := ownsRow_setCell_below hown (a := ⟨pw, 1, none⟩) (Nat.lt_succ_self pw) u
    simpa using this⟩
/-- what a call makes of the box behind an append and the store of it -/
theorem Grew.put {pw : Nat} {ty : TypeId} {w wr w1 : World} {s : Nat} {v u : Value} {n o : Nat} {xs : List Value} (h : Grew pw ty w wr) (hown : wr.ownsRow (pw + 1) ty s v n xs)
    (hg : wr.grownBy w1 v.ownBlock) : Grew pw ty w (w1.setCell ⟨pw, o, none⟩ u) :=
  (h.trans (Grew.grown hown hg)).trans (Grew.setCell _ _ _ _ _)
theorem ilist_one (i : InsD) : ∀ u ∈ ilist i, u.oneCell' = true := by
  intro u hu
  simp only [ilist, List.mem_cons, List.not_mem_nil, or_false] at hu
  rcases hu with rfl | rfl | rfl | rfl | rfl <;> rfl
theorem ilist_len (i : InsD) : (ilist i).length = 5 := rfl
theorem row_step (l : List Int) (n : Nat) (pc : Int) : rowS l (n + 1) pc = if (fetchS l pc).2 = 0 then (fetchS l pc).1 :: (if lastB (fetchS l pc).1.op = true then [] else rowS l n ((pc + 4) % 4294967296)) else [] := by
  rw [rowS]
  unfold fetchS
  split
  · cases dec (mLoad l 13 pc) with
    | none => simp
    | some i => simp
  · simp
/-- how long the slice in a cell is -/
def slen (w : World) (b o : Nat) : Nat := match w.cell? ⟨b, o, none⟩ with | some (.slice _ n _) => n | _ => 0
theorem BlkW.slen {pw : Nat} {ty : TypeId} {w : World} {pc : Int} {l : List InsD} (h : BlkW pw ty w pc l) : slen w pw 1 = l.length := by
  obtain ⟨_, v, h2, _, h4⟩ := h
  obtain ⟨ao, c, rfl⟩ := owns_slice h4
  unfold Fb.slen
  rw [h2]
/-- two cells laid into a box -/
theorem out2 {w : World} {R : Nat} {a0 a1 x0 x1 : Value} (r0 : w.cell? ⟨R, 0, none⟩ = some a0) (r1 : w.cell? ⟨R, 1, none⟩ = some a1) :
    (w.setCell ⟨R, 0, none⟩ x0).cell? ⟨R, 0, none⟩ = some x0 ∧ ((w.setCell ⟨R, 0, none⟩ x0).setCell ⟨R, 1, none⟩ x1).cell? ⟨R, 1, none⟩ = some x1 :=
  ⟨World.cell?_setCell_same _ _ _ r0, World.cell?_setCell_same _ _ _ ((World.cell?_setCell_other _ _ _ _ (by intro hh; injection hh with _ h2; omega)).trans r1)⟩
/-- a block, as a value that holds a slice -/
def BlockAt (w : World) (vi : Value) (l : List InsD) : Prop := Sl w vi 5 l.length (l.flatMap ilist)
end Go.Proofs.Ytlfnddmncbkjaab.Fb
