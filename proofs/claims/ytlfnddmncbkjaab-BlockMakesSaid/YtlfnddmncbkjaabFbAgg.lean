/- Structs and arrays as rows of cells: loads, stores, the elements of a slice of them. No program in sight. -/
import Derived.Test.YtlfnddmncbkjaabFbChg
import Derived.Laws.Rows
import Derived.Laws.IdiomCopy
import Derived.Tactics
import Derived.WalkKit
namespace Go.Proofs.Ytlfnddmncbkjaab.Fb
set_option linter.unusedVariables false
set_option linter.unusedSimpArgs false
open Go.RowKit

theorem below_drewN {B : Nat} {a w : World} (h : Below B a w) (n : Nat) : Below B a (w.drewN n) := ⟨h.os, h.tape, h.output, h.size, h.block⟩
theorem At.append_left {w : World} {b off : Nat} {xs ys : List Value} (h : At w b off (xs ++ ys)) : At w b off xs := fun j hj => by
  rw [h j (by simp; omega)]
  simp [List.getElem_append_left hj]
theorem At.append_right {w : World} {b off : Nat} {xs ys : List Value} (h : At w b off (xs ++ ys)) : At w b (off + xs.length) ys := fun j hj => by
  have := h (xs.length + j) (by simp; omega)
  rw [Nat.add_assoc, this]
  simp
theorem At.append {w : World} {b off : Nat} {xs ys : List Value} (h : At w b off xs) (k : At w b (off + xs.length) ys) : At w b off (xs ++ ys) := fun j hj => by
  by_cases e : j < xs.length
  · rw [h j e]; simp [List.getElem_append_left e]
  · have hj2 : j - xs.length < ys.length := by simp at hj; omega
    have h2 := k (j - xs.length) hj2
    rw [show off + xs.length + (j - xs.length) = off + j from by omega] at h2
    rw [h2]
    simp [List.getElem_append_right (show xs.length ≤ j by omega)]
/-- the i-th of elements of s cells each -/
theorem At.elem {α : Type} {w : World} {b : Nat} (f : α → List Value) (s : Nat) : ∀ {l : List α} {off : Nat}, (∀ x ∈ l, (f x).length = s) → At w b off (l.flatMap f) → ∀ i (h : i < l.length), At w b (off + i * s) (f l[i])
  | [], _, _, _, i, h => by simp at h
  | x :: r, off, hs, ha, i, h => by
    rw [List.flatMap_cons] at ha
    cases i with
    | zero => simpa using ha.append_left
    | succ i =>
      have h1 := ha.append_right
      rw [hs x (by simp)] at h1
      have h2 := At.elem f s (fun y hy => hs y (by simp [hy])) h1 i (by simpa using h)
      rw [show off + (i + 1) * s = off + s + i * s from by rw [Nat.add_mul]; omega]
      simpa using h2
theorem flatMap_length {α : Type} (f : α → List Value) (s : Nat) : ∀ {l : List α}, (∀ x ∈ l, (f x).length = s) → (l.flatMap f).length = l.length * s
  | [], _ => by simp
  | x :: r, h => by
    rw [List.flatMap_cons, List.length_append, h x (by simp), flatMap_length f s (fun y hy => h y (by simp [hy])), List.length_cons, Nat.add_mul]; omega

section
variable {P : Program} (w : World)
theorem run_loadVar_at (b off : Nat) (ty : TypeId) (cs : Array Value) (d : TypeDesc) (hat : At w b off cs.toList)
    (hu : P.underlying ty = some d) (hd : (match d with | .struct _ | .array _ _ => true | _ => false) = true) (hi : (P.info? ty).map (·.size) = some cs.size) :
    (loadVar ty ⟨b, off, none⟩).run P w = .ok (.agg cs) w := by
  have hl : (loadCells ⟨b, off, none⟩ cs.toList.length).run P w = .ok cs.toList.toArray w :=
    run_loadCells_list (P := P) w ⟨b, off, none⟩ cs.toList (fun j v hv => by
      rw [addr_add _ rfl]
      have hj : j < cs.toList.length := (List.getElem?_eq_some_iff.1 hv).1
      rw [hat j hj]
      rw [List.getElem?_eq_getElem hj] at hv
      exact hv)
  cases hq : P.info? ty with
  | none => simp [hq] at hi
  | some i =>
    have hs : i.size = cs.size := by simpa [hq] using hi
    have hagg : (isAgg ty).run P w = .ok true w := by
      unfold isAgg
      rw [Sem.run_bind, run_underlying hu w]
      cases d <;> simp_all
    simp only [Array.length_toList, Array.toArray_toList] at hl
    simp [loadVar, Sem.run_bind, hagg, sizeOf, typeInfo, hq, hs, hl]
theorem wp_load_at {o : Oper} {a : Act} {w : World} {K : Act → World → Prop} {Q : Exit → Act → World → Prop} (ty : TypeId) (x : Operand) (ho : o.op = .load ty x)
    (b off : Nat) (hx : a.eval x = .pointer (some ⟨b, off, none⟩)) (cs : Array Value) (d : TypeDesc) (hat : At w b off cs.toList)
    (hu : P.underlying ty = some d) (hd : (match d with | .struct _ | .array _ _ => true | _ => false) = true) (hi : (P.info? ty).map (·.size) = some cs.size)
    (h : K (a.put o.dst (.agg cs)) w) : o.wp P a w K Q := by
  unfold Oper.wp execOp
  simp only [ho, hx, Instr.loadAt, Instr.sureAddr, Sem.run_bind, Sem.run_pure, Result.andThen_ok, run_loadVar_at w b off ty cs d hat hu hd hi]
  exact h
/-- A WHOLE STRUCT READ: the law at the operation. -/
theorem wpList_load_at {ops : Array Oper} {rest : List Oper} {o : Oper} {a : Act} {w : World} {Q : Exit → Act → World → Prop} (hgd : o.guard = none) (ty : TypeId) (x : Operand) (ho : o.op = .load ty x)
    (b off : Nat) (hx : a.eval x = .pointer (some ⟨b, off, none⟩)) (cs : Array Value) (d : TypeDesc) (hat : At w b off cs.toList)
    (hu : P.underlying ty = some d) (hd : (match d with | .struct _ | .array _ _ => true | _ => false) = true) (hi : (P.info? ty).map (·.size) = some cs.size)
    (h : wpList P ops Q rest (a.put o.dst (.agg cs)) w) : wpList P ops Q (o :: rest) a w :=
  wpList_plain hgd fun _ hK => wp_load_at ty x ho b off hx cs d hat hu hd hi (hK _ _ h)
theorem setRow_alloc (w : World) (zs cs : Array Value) (ty : TypeId) : (w.alloc (.cells zs ty)).setRow w.heap.size cs = w.alloc (.cells cs ty) := by
  have h1 : ((w.alloc (.cells zs ty)).setRow w.heap.size cs).heap = (w.alloc (.cells cs ty)).heap := by
    have hg : (w.alloc (.cells zs ty)).heap[w.heap.size]? = some (.cells zs ty (0, 0)) := heap_alloc_new w _
    apply Array.ext
    · simp
    · intro i hi hj
      have hi2 : i < w.heap.size + 1 := by simpa using hj
      by_cases e : i = w.heap.size
      · subst e
        have e1 := setRow_heap (w.alloc (.cells zs ty)) w.heap.size zs cs ty (0, 0) hg
        have e2 : (w.alloc (.cells cs ty)).heap[w.heap.size]? = some (.cells cs ty (0, 0)) := heap_alloc_new w _
        rw [Array.getElem?_eq_getElem hi] at e1
        rw [Array.getElem?_eq_getElem hj] at e2
        exact (Option.some.inj e1).trans (Option.some.inj e2).symm
      · have e1 : ((w.alloc (.cells zs ty)).setRow w.heap.size cs).heap[i]? = w.heap[i]? := by
          simp only [World.setRow, Array.getElem?_modify]
          rw [if_neg (fun h => e h.symm)]
          exact heap_alloc_old w _ (by omega)
        have e2 : (w.alloc (.cells cs ty)).heap[i]? = w.heap[i]? := heap_alloc_old w _ (by omega)
        rw [Array.getElem?_eq_getElem hi] at e1
        rw [Array.getElem?_eq_getElem hj] at e2
        exact Option.some.inj (e1.trans e2.symm)
  cases hA : (w.alloc (.cells zs ty)).setRow w.heap.size cs
  rw [hA] at h1
  have h2 := congrArg World.tape hA
  have h3 := congrArg World.drawn hA
  have h4 := congrArg World.os hA
  have h5 := congrArg World.output hA
  cases w
  simp only [World.alloc, World.setRow] at *
  simp_all
/-- a struct stored whole into a variable that was just made -/
theorem run_storeVar_new (w : World) (zs cs : Array Value) (ty : TypeId) (hi : (P.info? ty).map (·.size) = some cs.size) (hz : zs.size = cs.size) (h1 : ∀ v ∈ cs.toList, v.oneCell' = true) :
    (storeVar ty ⟨w.heap.size, 0, none⟩ (.agg cs)).run P (w.alloc (.cells zs ty)) = .ok () (w.alloc (.cells cs ty)) := by
  have hst := run_storeCells_from (P := P) w.heap.size ty cs.toList 0 zs (w.alloc (.cells zs ty)) (heap_alloc_new w _) (by simpa using hz.symm) h1
  cases hq : P.info? ty with
  | none => simp [hq] at hi
  | some i =>
    have hs : i.size = cs.size := by simpa [hq] using hi
    simp only [List.take_zero, List.nil_append, Array.toArray_toList] at hst
    rw [setRow_alloc] at hst
    simp [storeVar, Sem.run_bind, sizeOf, typeInfo, hq, hs, Value.cells, hst]
theorem wpList_store_new {ops : Array Oper} {rest : List Oper} {o : Oper} {a : Act} {w : World} {Q : Exit → Act → World → Prop} (hgd : o.guard = none) (ty : TypeId) (x y : Operand) (ho : o.op = .store ty x y)
    (w0 : World) (zs cs : Array Value) (hw : w = w0.alloc (.cells zs ty)) (hx : a.eval x = .pointer (some ⟨w0.heap.size, 0, none⟩)) (hy : a.eval y = .agg cs)
    (hi : (P.info? ty).map (·.size) = some cs.size) (hz : zs.size = cs.size) (h1 : ∀ v ∈ cs.toList, v.oneCell' = true)
    (h : wpList P ops Q rest (a.put o.dst undef) (w0.alloc (.cells cs ty))) : wpList P ops Q (o :: rest) a w :=
  wpList_plain hgd fun K hK => by
    subst hw
    unfold Oper.wp execOp
    simp only [ho, hx, hy, Instr.storeAt, Instr.sureAddr, Sem.run_bind, Sem.run_pure, Result.andThen_ok, run_storeVar_new w0 zs cs ty hi hz h1]
    exact hK _ _ h
end
end Go.Proofs.Ytlfnddmncbkjaab.Fb
