/- From a law's walk to its row, where what it reads is of bounded bulk. -/
import Derived.Test.YtlfnddmncbkjaacZMA
import Derived.Deep.CondSized
namespace Go.Proofs.Ytlfnddmncbkjaac.RowB
set_option linter.unusedVariables false
set_option linter.unusedSimpArgs false
open Go.ChangeShapes Go.WideShapes Go.ChangeAt Go.RowKit
section
variable {H : Type} {enc : TypeId × Value → H} {P : Program}
theorem law_lifted_upto {C : Checked} {os : Os} {f : FuncId} {fn : Func} {s : ChangeSpec} {k : (H : Type) → List (DataW H) → Bool} {conds : List PathCond} {apart fresh handsOn : Bool} {tb : TypeId} {F : Stop.Interp}
    (own : ownKnob C.prog.godebug = none) (started : os.Started) (noInit : C.prog.inits.idxOf? f = none) (hfn : C.prog.funcs[f]? = some fn)
    (witness : ∃ (w : World) (tape : Tape) (i : Input), w.os = os ∧ (w.forCall tape i).Shaped C.prog ∧ i.vars = [] ∧ Input.okWide C.prog (w.forCall tape i) .any w.heap.size f i ∧
      ({ OpenSpec.ofChange s with cond := some k } : OpenSpec).pre6 enc C.prog fn conds apart (w.forCall tape i).memory i.args ∧ ({} : Assume).holds C.prog (lone (Frame.enter C.prog f i.args .normal) [] (w.forCall tape i)))
    (hvars : s.vars = []) (hs : ∀ ds : List (DataW H), ds.length = fn.params.toList.length → s.fn H ds = { results := [.lit (.bool true)], args := ds })
    (hrt : fn.resultTypes = #[tb]) (hbool : C.prog.underlying tb = some .bool) (hl : laidOutB C.prog = true)
    (hread : ∀ t ∈ fn.params.toList, C.prog.readableRec t = true ∧ t < C.prog.types.size)
    (walk : ∀ (W : World) (base : Nat) (args : Array Value) (ds : List (DataW H)) (ps : List MemPlace),
      (∀ (j : Nat) t v, fn.params[j]? = some t → args[j]? = some v → Value.okWide C.prog W .any base t v) →
      DataW.TrodAll enc C.prog W 0 (fun _ => true) true fn.params.toList args.toList ds ps → (∀ x ∈ ps, x.block < W.heap.size) →
      (DataW.weightsEach C.prog fn.params.toList ds).all (· ≤ reachBytes) = true → k H ds = true →
      Calls C.prog f args W fun e W' => e = .returned (.bool true) ∧ Below W.heap.size W W') :
    ReturnsInHanded {} C os f .any (({ OpenSpec.ofChange s with cond := some k } : OpenSpec).pre6 enc C.prog fn conds apart) ((({ OpenSpec.ofChange s with cond := some k } : OpenSpec).at F).post enc C.prog fn apart fresh handsOn false) := by
  refine returnsInHanded_of_cond_sized (k := k) rfl own started noInit hfn witness ?_
  intro W base args ds gs before hval hW _ hkk hsz _
  have hlt : ∀ x ∈ before, x.block < W.heap.size := fun x hx => by simpa using hW.lt x hx
  have hW0 := hW
  obtain ⟨p, q, hA, hV, rfl, hfz, hnd⟩ := hW
  have hV' : DataW.TrodVars enc C.prog W (fun _ => true) s.vars gs q := hV
  rw [hvars] at hV'
  obtain ⟨rfl, rfl⟩ := trodVars_none hV'
  have hvt : ({ OpenSpec.ofChange s with cond := some k } : OpenSpec).bare.plain.varTypes C.prog = [] := by
    unfold OpenSpec.bare ChangeSpec.plain DataSpec.varTypes OpenSpec.ofChange
    simp [hvars]
  rw [hvt] at hsz
  simp only [List.append_nil] at hsz hlt hkk
  refine (walk W base args ds p hval hA hlt hsz hkk).mono fun e W' ⟨he, hb⟩ => ⟨_, he, ?_⟩
  exact post_law (s := s) hW0 hvars hs hrt hbool hl hread hb
/-- a slice has no more elements than its bulk -/
theorem slice_bulk {W : World} {t e : TypeId} (ht : P.underlying t = some (.slice e)) {v : Value} {d : DataW H} {ps : List MemPlace} (h : DataW.Trod enc P W 0 (fun _ => true) true t v d ps) {ao : Option Addr} {n cap : Nat} (hv : v = .slice ao n cap) : n ≤ Rows.uptoBulk d := by
  have hall : ∀ l : List (DataW H), l.length ≤ Rows.uptoBulkAll l := fun l => by
    induction l with
    | nil => exact Nat.zero_le _
    | cons x r ih =>
      have hx : 1 ≤ Rows.uptoBulk x := by
        unfold Rows.uptoBulk
        split <;> omega
      rw [Rows.uptoBulkAll, List.length_cons]
      omega
  obtain ⟨fuel, hf⟩ := h
  subst hv
  rcases DataW.trod_slice ht hf with ⟨h1, _⟩ | ⟨a, len, c, elems, rest, m, h1, h2, hx, _, _, _, hl, _⟩
  · have e : [Value.slice ao n cap] = [Value.slice none 0 0] := h1
    simp at e
    omega
  · have e : [Value.slice ao n cap] = [Value.slice (some a) len c] := h2
    simp at e
    obtain ⟨_, rfl, _⟩ := e
    simp only [Prod.mk.injEq] at hx
    obtain ⟨rfl, _⟩ := hx
    rw [Rows.uptoBulk]
    have := hall (elems.map (·.1))
    rw [List.length_map] at this
    omega
end
end Go.Proofs.Ytlfnddmncbkjaac.RowB
