/- A struct held against itself. No program in sight. -/
import Derived.Test.YtlfnddmncbkjaabFbHart
import Derived.DeepKeys
import Derived.Laws.StructEq
namespace Go.Proofs.Ytlfnddmncbkjaab.Fb
set_option linter.unusedVariables false
set_option linter.unusedSimpArgs false
open Go.RowKit
section
variable {P : Program}
theorem equalIn_same (w : World) {m : Nat} (hm : m ≤ 10000) {t : TypeId} (hk : P.keyTypeAt m t = true) {xs : Array Value} (hf : (Value.agg xs).formed P t = true) {D : Nat} {la : List Lit} (hl : P.keyLits D t xs.toList = some la) :
    (Op.equalIn 10000 t (.agg xs) (.agg xs)).run P w = .ok true w := by
  obtain ⟨r, hr, hiff⟩ := run_equalIn_deep (P := P) (10000 - m) m t hk w D D (.agg xs) (.agg xs) la la hf hf hl hl
  rw [Nat.sub_add_cancel hm] at hr
  rw [hr, hiff.2 rfl]
theorem neq_same (w : World) {m : Nat} (hm : m ≤ 10000) {t : TypeId} (hk : P.keyTypeAt m t = true) {xs : Array Value} (hf : (Value.agg xs).formed P t = true) {D : Nat} {la : List Lit} (hl : P.keyLits D t xs.toList = some la) :
    (binOp .neq t (.agg xs) (.agg xs)).run P w = .ok (.bool false) w := by
  rw [run_neq_struct, equalIn_same w hm hk hf hl]; rfl
theorem eql_same (w : World) {m : Nat} (hm : m ≤ 10000) {t : TypeId} (hk : P.keyTypeAt m t = true) {xs : Array Value} (hf : (Value.agg xs).formed P t = true) {D : Nat} {la : List Lit} (hl : P.keyLits D t xs.toList = some la) :
    (binOp .eql t (.agg xs) (.agg xs)).run P w = .ok (.bool true) w := by
  rw [run_eql_struct, equalIn_same w hm hk hf hl]; rfl
theorem mapM_some {α β : Type} (f : α → Option β) (g : α → β) : ∀ (l : List α), (∀ x ∈ l, f x = some (g x)) → l.mapM f = some (l.map g)
  | [], _ => rfl
  | x :: r, h => by
    rw [List.mapM_cons, h x (by simp), mapM_some f g r (fun y hy => h y (by simp [hy]))]
    rfl
theorem flat_one {α β : Type} (g : α → β) : ∀ r : List α, (r.map fun i => [g i]).flatten = r.map g
  | [] => rfl
  | x :: r => by rw [List.map_cons, List.flatten_cons, flat_one g r]; rfl
theorem keyLits_arr {t e : TypeId} {n d : Nat} {q : IntKind} (ht : P.underlying t = some (.array n e)) (he : P.underlying e = some (.int q)) (hc : P.cellsOf e = 1) (hct : P.cellsOf t = n) (l : List Int) (hl : l.length = n) (hw : ∀ x ∈ l, (Lit.int q x).wf = true) :
    P.keyLits (d + 2) t (l.map (Value.int q)) = some (l.map (Lit.int q)) := by
  unfold Program.keyLits
  rw [ht]
  simp only [List.length_map, hl, hct, if_true, hc]
  rw [mapM_some _ (fun i => [Lit.int q (l.getD i 0)])]
  · rw [Option.map_some, flat_one (fun i => Lit.int q (l.getD i 0))]
    congr 1
    apply List.ext_getElem
    · simp [hl]
    · intro i h1 h2
      have hi : i < l.length := by simpa using h2
      rw [List.getElem_map, List.getElem_map, List.getElem_range, List.getD, List.getElem?_eq_getElem hi]
      rfl
  · intro i hi
    have hi2 : i < l.length := by rw [hl]; exact List.mem_range.1 hi
    rw [Nat.mul_one, ← List.map_drop, ← List.map_take, List.drop_eq_getElem_cons hi2, List.take_succ_cons, List.take_zero, List.map_cons, List.map_nil]
    unfold Program.keyLits
    rw [he]
    simp [hw l[i] (List.getElem_mem hi2), List.getD, hi2]
theorem wf_of_u32 {x : Int} (h : U32 x) : (Lit.int .u32 x).wf = true := by
  unfold U32 at h
  have : 0 ≤ x ∧ x ≤ 4294967295 := by omega
  simpa [Lit.wf, IntKind.min, IntKind.max, IntKind.signed, IntKind.bits] using this
theorem wf_of_i64 {x : Int} (h : -9223372036854775808 ≤ x ∧ x ≤ 9223372036854775807) : (Lit.int .i64 x).wf = true := by
  simpa [Lit.wf, IntKind.min, IntKind.max, IntKind.signed, IntKind.bits] using h
end
end Go.Proofs.Ytlfnddmncbkjaab.Fb
