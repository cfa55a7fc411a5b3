/- Regions that draw their order and only read, or call what makes memory and answers with plain values: one walk in the text's order. No program in sight. -/
import Derived.Test.YtlfnddmncbkjaabFbAgg
import Derived.Test.YtlfnddmncbkjaabFbEq
import Derived.BigQuiet
import Derived.Deep.QuietTactic
namespace Go.Proofs.Ytlfnddmncbkjaab.Fb
set_option linter.unusedVariables false
set_option linter.unusedSimpArgs false
open Go.RowKit
section
variable {P : Program} {ops : Array Oper} {C : World → Prop} {Q : Act → Prop} {a : Act} {o : Oper} {rest : List Oper}
/-- an operation that has one value in all worlds of the class -/
theorem wpQuiet_val (hgd : o.guard = none) (v : Value) (hrun : ∀ w, C w → o.quietAt P a C w v) (h : wpQuiet P ops C Q rest (a.put o.dst v)) : wpQuiet P ops C Q (o :: rest) a :=
  BigFrame.wpQuiet_want (by simp [Region.wanted, hgd]) fun _ hK => ⟨v, hrun, hK _ h⟩
/-- a whole struct read -/
theorem wpQuiet_load_at (hgd : o.guard = none) (ty : TypeId) (x : Operand) (ho : o.op = .load ty x)
    (b off : Nat) (hx : a.eval x = .pointer (some ⟨b, off, none⟩)) (cs : Array Value) (d : TypeDesc) (hat : ∀ w, C w → At w b off cs.toList)
    (hu : P.underlying ty = some d) (hd : (match d with | .struct _ | .array _ _ => true | _ => false) = true) (hi : (P.info? ty).map (·.size) = some cs.size)
    (h : wpQuiet P ops C Q rest (a.put o.dst (.agg cs))) : wpQuiet P ops C Q (o :: rest) a :=
  wpQuiet_val hgd (.agg cs) (fun w hw => by
    unfold Oper.quietAt execOp
    simp only [ho, hx, Instr.loadAt, Instr.sureAddr, Sem.run_bind, Sem.run_pure, Result.andThen_ok, run_loadVar_at w b off ty cs d (hat w hw) hu hd hi]
    exact ⟨rfl, rfl⟩) h
/-- two structs held against each other -/
theorem wpQuiet_neq (hgd : o.guard = none) (ty ty2 : TypeId) (x y : Operand) (ho : o.op = .binOp .neq ty x y ty2) (xs ys : Array Value) (hx : a.eval x = .agg xs) (hy : a.eval y = .agg ys)
    (hm : P.eqGuardType P.depth ty = false) (v : Value) (hr : ∀ w, (binOp .neq ty (.agg xs) (.agg ys)).run P w = .ok v w) (h : wpQuiet P ops C Q rest (a.put o.dst v)) : wpQuiet P ops C Q (o :: rest) a :=
  wpQuiet_val hgd v (fun w _ => by
    unfold Oper.quietAt execOp
    simp [ho, hx, hy, Sem.run_bind, run_eqGuard_agg w .neq ty x y xs ys hm, hr, Oper.quietUpon]) h
theorem wpQuiet_eql (hgd : o.guard = none) (ty ty2 : TypeId) (x y : Operand) (ho : o.op = .binOp .eql ty x y ty2) (xs ys : Array Value) (hx : a.eval x = .agg xs) (hy : a.eval y = .agg ys)
    (hm : P.eqGuardType P.depth ty = false) (v : Value) (hr : ∀ w, (binOp .eql ty (.agg xs) (.agg ys)).run P w = .ok v w) (h : wpQuiet P ops C Q rest (a.put o.dst v)) : wpQuiet P ops C Q (o :: rest) a :=
  wpQuiet_val hgd v (fun w _ => by
    unfold Oper.quietAt execOp
    simp [ho, hx, hy, Sem.run_bind, run_eqGuard_agg w .eql ty x y xs ys hm, hr, Oper.quietUpon]) h
/-- one cell read, of a type of one cell -/
theorem wpQuiet_cell (hgd : o.guard = none) (ty : TypeId) (x : Operand) (ho : o.op = .load ty x) (p : Addr) (hx : a.eval x = .pointer (some p)) (v : Value) (hrun : ∀ w, C w → (Instr.loadAt ty (.pointer (some p))).run P w = .ok v w)
    (h : wpQuiet P ops C Q rest (a.put o.dst v)) : wpQuiet P ops C Q (o :: rest) a :=
  wpQuiet_val hgd v (fun w hw => by
    unfold Oper.quietAt execOp
    simp only [ho, hx, Sem.run_bind, Sem.run_pure, hrun w hw]
    exact ⟨rfl, rfl⟩) h
/-- A region that draws its order, in a class of worlds. -/
theorem region_quiet_lit (C : World → Prop) {id : Nat} {Q : Exit → Act → World → Prop} {a : Act} {w : World} {l : List Oper} (hm : P.follows .mixedOrders = true) (hB : Region.lexB .any l.toArray = true) (hC : C w.drew)
    (h : wpQuiet P l.toArray C (fun a' => ∀ w', C w' → Q .normal a' w') l a) : (Code.region id l.toArray true).wp P Q a w :=
  wp_region_quiet (C := C) hm hB hC (by simpa using h)
/-- a callee that leaves the world alone, in a region that draws -/
theorem quiet_left {f : FuncId} {args : Array Value} {w : World} {n : Nat} {v : Value}
    (h : Calls P f args (w.drewN n) fun e w' => e = .returned v ∧ w.drewN n = w') : Calls P f args (w.drewN n) fun e w'' => e = .returned v ∧ ∃ m, w'' = w.drewN m :=
  h.mono fun _ _ ⟨he, hm⟩ => ⟨he, n, hm.symm⟩
/-- a callee that draws, in a region that draws, behind draws -/
theorem quiet_add {f : FuncId} {args : Array Value} {w : World} {a n : Nat} {v : Value}
    (h : Calls P f args (w.drewN (a + n)) fun e w' => e = .returned v ∧ ∃ m, w' = (w.drewN (a + n)).drewN m) :
    Calls P f args (w.drewN (a + n)) fun e w'' => e = .returned v ∧ ∃ m, w'' = w.drewN (a + m) :=
  h.mono fun _ _ ⟨he, m, hm⟩ => ⟨he, n + m, by rw [hm, World.drewN_drewN, Nat.add_assoc]⟩
end
end Go.Proofs.Ytlfnddmncbkjaab.Fb
