/- trans: maker.put, operation, maker.number, walked. -/
import Derived.Test.YtlfnddmncbkjaabZMB
import Derived.Test.YtlfnddmncbkjaabZMA
namespace Go.Proofs.Ytlfnddmncbkjaab.Fb
set_option linter.unusedVariables false
set_option linter.unusedSimpArgs false
open Go.RowKit
/-- the maker at pw: its one cell is a row of its own that holds these small steps -/
def MkW (pw : Nat) (ty : TypeId) (w : World) (l : List MicD) : Prop := ∃ v, w.cell? ⟨pw, 0, none⟩ = some v ∧ w.frozen? ⟨pw, 0, none⟩ = false ∧ w.ownsRow (pw + 1) ty 5 v l.length (l.flatMap mlist)
theorem MkW.lt {pw : Nat} {ty : TypeId} {w : World} {l : List MicD} (h : MkW pw ty w l) : pw < w.heap.size := by obtain ⟨v, h1, _⟩ := h; exact lt_of_cell h1
theorem MkW.below {pw : Nat} {ty : TypeId} {w w' : World} {l : List MicD} (h : MkW pw ty w l) (hb : Below w.heap.size w w') : MkW pw ty w' l := by
  have hlt := h.lt
  obtain ⟨v, h1, h2, h3⟩ := h
  exact ⟨v, (hb.cell hlt).trans h1, (hb.frozen (p := ⟨pw, 0, none⟩) hlt).trans h2, owns_below h3 hb⟩
theorem MkW.init (w : World) (ty t : TypeId) : MkW w.heap.size ty (w.alloc (.cells #[.slice none 0 0] t)) [] :=
  ⟨.slice none 0 0, by simp, by unfold World.frozen?; rw [heap_alloc_new]; simp, World.ownsRow_nil _ _ _ _⟩
theorem MkW.next {pw : Nat} {ty : TypeId} {w1 : World} {v u : Value} {ys : List MicD} {y : MicD} (hown : w1.ownsRow (pw + 1) ty 5 u (ys.length + 1) (ys.flatMap mlist ++ mlist y))
    (hc : w1.cell? ⟨pw, 0, none⟩ = some v) (hf : w1.frozen? ⟨pw, 0, none⟩ = false) : MkW pw ty (w1.setCell ⟨pw, 0, none⟩ u) (ys ++ [y]) :=
  ⟨u, World.cell?_setCell_same _ _ _ hc, (World.frozen?_setCell _ _ _ _).trans hf, by
    have := ownsRow_setCell_below hown (a := ⟨pw, 0, none⟩) (Nat.lt_succ_self pw) u
    simpa using this⟩
end Go.Proofs.Ytlfnddmncbkjaab.Fb
namespace Go.Proofs.Ytlfnddmncbkjaab.W
open Go.RowKit Fb
theorem info_micro : (Try.prog.info? 133).map (fun i => (i.zero, i.size, i.bytes)) = some (some (.agg #[.int .i64 0, .int .i64 0, .int .i64 0, .int .i64 0, .int .u32 0]), 5, 40) := by kernel_rfl
set_option maxRecDepth 100000 in
set_option maxHeartbeats 800000 in
theorem mput_any (pw : Nat) (l : List MicD) (op d a b n : Int) (w : World) (hk : MkW pw 133 w l) (hl : l.length ≤ 1000) :
    Calls Try.prog 104 #[.pointer (some ⟨pw, 0, none⟩), .int .i64 op, .int .i64 d, .int .i64 a, .int .i64 b, .int .u32 n] w fun e w' => e = .returned (.tuple #[]) ∧ MkW pw 133 w' (l ++ [⟨op, d, a, b, n⟩]) ∧ Grew pw 133 w w' := by
  obtain ⟨i0, hi, hi0, hi1, hi2⟩ := info_parts info_micro
  have hlt := hk.lt
  obtain ⟨v, c0, c1, c2⟩ := hk
  have hfar : Hid (v.ownBlock ≠ some pw) := Lib.hid (fun e => by have := (c2.lt _ e).1; omega)
  have HOWN := Lib.hid c2
  have hsh := owns_slice c2
  clear c2
  obtain ⟨w2, hw2⟩ : ∃ w2, w2 = w.alloc (.cells #[.int .i64 op, .int .i64 d, .int .i64 a, .int .i64 b, .int .u32 n] 133) := ⟨_, rfl⟩
  have hz2 : w2.heap.size = w.heap.size + 1 := by rw [hw2]; simp
  have d0 : w2.cell? ⟨pw, 0, none⟩ = some v := by rw [hw2]; exact (World.cell?_alloc_lt _ _ ⟨pw, 0, none⟩ hlt).trans c0
  have d1 : w2.frozen? ⟨pw, 0, none⟩ = false := by rw [hw2]; exact (frozen_alloc (p := ⟨pw, 0, none⟩) _ hlt).trans c1
  have HAT : Hid (At w2 w.heap.size 0 (mlist ⟨op, d, a, b, n⟩)) := Lib.hid (by rw [hw2]; exact at_alloc w (mlist ⟨op, d, a, b, n⟩) _ _)
  have HOWN2 : Hid (w2.ownsRow (pw + 1) 133 5 v l.length (l.flatMap mlist)) := Lib.hid (by rw [hw2]; exact HOWN.out.alloc _)
  have HG : Hid (Grew pw 133 w w2) := Lib.hid (by rw [hw2]; exact Grew.alloc _ _ _ _)
  have HW2 := Lib.hid hw2
  clear hw2
  obtain ⟨ao, cp, rfl⟩ := hsh
  go_enter Try.func104, Try.ntmps104
  go_wp2_with (at_builtin; (try rw [← HW2.out]); refine append_any rfl _ _ 51 rfl (pw + 1) 133 i0 _ 5 40 Try.underlying51 hi hi0 hi1 hi2 rfl (by decide) _ l.length (l.flatMap mlist) rfl HOWN2.out _ 1 (mlist ⟨op, d, a, b, n⟩) rfl (Sl.mk HAT.out rfl (by omega) (by decide)) (mlist_one _) (by omega) (by unfold maxLen; omega) (by omega) ?h6)
  case h6 =>
    intro v' w3 hown hgrow
    have e0 : w3.cell? ⟨pw, 0, none⟩ = some (.slice ao l.length cp) := (hgrow.cell_far ⟨pw, 0, none⟩ (by show pw < _; omega) (fun e => hfar.out e.symm)).trans d0
    have e1 : w3.frozen? ⟨pw, 0, none⟩ = false := (hgrow.frozen_far ⟨pw, 0, none⟩ (by show pw < _; omega) (fun e => hfar.out e.symm)).trans d1
    have HN := Lib.hid (MkW.next hown e0 e1)
    have HP := Lib.hid (HG.out.put (o := 0) (u := v') HOWN2.out hgrow)
    obtain ⟨ao3, cp3, rfl⟩ := owns_slice hown
    clear hown hgrow d0 d1 c0 c1
    go_wp2_with fail
    go_end0
    exact ⟨rfl, HN.out, HP.out⟩
set_option maxRecDepth 100000 in
theorem operation_any (op : Int) (w : World) (h : 19 ≤ op ∧ op ≤ 27) :
    Calls Try.prog 106 #[.int .i64 op] w fun e w' => e = .returned (.int .i64 (numOp op)) ∧ w' = w := by
  have hc : op = 19 ∨ op = 20 ∨ op = 21 ∨ op = 22 ∨ op = 23 ∨ op = 24 ∨ op = 25 ∨ op = 26 ∨ op = 27 := by omega
  clear h
  have i0 : ∀ w, (Instr.index 196 (.agg #[.int .i64 28, .int .i64 31, .int .i64 32, .int .i64 33, .int .i64 36, .int .i64 37, .int .i64 30, .int .i64 34, .int .i64 35]) (.int .i64 0)).run Try.prog w = .ok (.int .i64 28) w := fun _ => by kernel_rfl
  have i1 : ∀ w, (Instr.index 196 (.agg #[.int .i64 28, .int .i64 31, .int .i64 32, .int .i64 33, .int .i64 36, .int .i64 37, .int .i64 30, .int .i64 34, .int .i64 35]) (.int .i64 1)).run Try.prog w = .ok (.int .i64 31) w := fun _ => by kernel_rfl
  have i2 : ∀ w, (Instr.index 196 (.agg #[.int .i64 28, .int .i64 31, .int .i64 32, .int .i64 33, .int .i64 36, .int .i64 37, .int .i64 30, .int .i64 34, .int .i64 35]) (.int .i64 2)).run Try.prog w = .ok (.int .i64 32) w := fun _ => by kernel_rfl
  have i3 : ∀ w, (Instr.index 196 (.agg #[.int .i64 28, .int .i64 31, .int .i64 32, .int .i64 33, .int .i64 36, .int .i64 37, .int .i64 30, .int .i64 34, .int .i64 35]) (.int .i64 3)).run Try.prog w = .ok (.int .i64 33) w := fun _ => by kernel_rfl
  have i4 : ∀ w, (Instr.index 196 (.agg #[.int .i64 28, .int .i64 31, .int .i64 32, .int .i64 33, .int .i64 36, .int .i64 37, .int .i64 30, .int .i64 34, .int .i64 35]) (.int .i64 4)).run Try.prog w = .ok (.int .i64 36) w := fun _ => by kernel_rfl
  have i5 : ∀ w, (Instr.index 196 (.agg #[.int .i64 28, .int .i64 31, .int .i64 32, .int .i64 33, .int .i64 36, .int .i64 37, .int .i64 30, .int .i64 34, .int .i64 35]) (.int .i64 5)).run Try.prog w = .ok (.int .i64 37) w := fun _ => by kernel_rfl
  have i6 : ∀ w, (Instr.index 196 (.agg #[.int .i64 28, .int .i64 31, .int .i64 32, .int .i64 33, .int .i64 36, .int .i64 37, .int .i64 30, .int .i64 34, .int .i64 35]) (.int .i64 6)).run Try.prog w = .ok (.int .i64 30) w := fun _ => by kernel_rfl
  have i7 : ∀ w, (Instr.index 196 (.agg #[.int .i64 28, .int .i64 31, .int .i64 32, .int .i64 33, .int .i64 36, .int .i64 37, .int .i64 30, .int .i64 34, .int .i64 35]) (.int .i64 7)).run Try.prog w = .ok (.int .i64 34) w := fun _ => by kernel_rfl
  have i8 : ∀ w, (Instr.index 196 (.agg #[.int .i64 28, .int .i64 31, .int .i64 32, .int .i64 33, .int .i64 36, .int .i64 37, .int .i64 30, .int .i64 34, .int .i64 35]) (.int .i64 8)).run Try.prog w = .ok (.int .i64 35) w := fun _ => by kernel_rfl
  rcases hc with rfl | rfl | rfl | rfl | rfl | rfl | rfl | rfl | rfl <;>
  · go_enter Try.func106, Try.ntmps106
    go_wp2_with fail
    go_ret
    exact ⟨rfl, rfl⟩
end Go.Proofs.Ytlfnddmncbkjaab.W
