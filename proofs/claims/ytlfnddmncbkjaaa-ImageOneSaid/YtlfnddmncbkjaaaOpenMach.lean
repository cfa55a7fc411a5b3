/- A machine, a hart, picks: as an argument reads. -/
import Derived.Test.YtlfnddmncbkjaaaReads
import Derived.Test.YtlfnddmncbkjaaaOpen
namespace Go.Proofs.Ytlfnddmncbkjaaa.RowB
set_option linter.unusedVariables false
set_option linter.unusedSimpArgs false
open Go.ChangeShapes Go.WideShapes Go.ChangeAt Go.RowKit Fb
section
variable {H : Type} {enc : TypeId × Value → H} {W : World}
theorem flat_ints (k : IntKind) (l : List Int) : (l.flatMap fun n => [Value.int k n]) = l.map (Value.int k) := by
  induction l with
  | nil => rfl
  | cons x r ih => simp [List.flatMap_cons, ih]
theorem opens_hart : Opens enc Try.prog W 86 hlist (fun h => h.Wf) := by
  have h := opens_struct (enc := enc) (P := Try.prog) (W := W) (l := [(84, 32), (33, 1), (4, 1), (33, 1), (3, 1), (3, 1)]) Try.underlying86 (by kernel_rfl) (by kernel_rfl) (by kernel_rfl) (by kernel_rfl)
    (opensL_cons (opens_arr (n := 32) (s := 1) Try.underlying84 (by kernel_rfl) (by kernel_rfl) (opens_int Try.underlying33)) (opensL_cons (opens_int Try.underlying33) (opensL_cons (opens_bool Try.underlying4)
      (opensL_cons (opens_int Try.underlying33) (opensL_cons (opens_int Try.underlying3) (opensL_cons (opens_int Try.underlying3) opensL_nil))))))
  refine h.map (fun p => ⟨p.1, p.2.1, p.2.2.1, p.2.2.2.1, p.2.2.2.2.1, p.2.2.2.2.2.1⟩) ?_
  rintro ⟨regs, pc, held, heldAt, state, cause, u⟩ ⟨⟨h1, h2⟩, h3, h4, h5, h6, h7, _⟩
  refine ⟨?_, ⟨h1, fun x hx => wf_u32 (h2 x hx), wf_u32 h3, wf_u32 h5, wf_i64 h6, wf_i64 h7⟩⟩
  simp only [hlist, flat_ints]
  rfl
def mvals (p : Value × Value × Mach) : List Value := [p.1, p.2.1]
def MachOk (W : World) (p : Value × Value × Mach) : Prop := MachAt W p.1 p.2.1 p.2.2 ∧ p.2.2.Wf ∧ p.2.2.mem.length ≤ 140737488351232 ∧ p.2.2.harts.length ≤ 140737488351232
theorem opens_bytes : Opens enc Try.prog W 22 (fun p : Value × List Int => [p.1]) (fun p => Ints .u8 W p.1 p.2 ∧ Bytes p.2 ∧ p.2.length ≤ 140737488351232) := fun fuel cs d ps h hw => by
  obtain ⟨v, rfl, l, h1, h2, h3⟩ := opens_slice (enc := enc) (P := Try.prog) (W := W) Try.underlying22 (s := 1) (by kernel_rfl) (by omega) (fun _ _ => rfl) (opens_int Try.underlying5) fuel cs d ps h hw
  refine ⟨(v, l), rfl, by rw [flat_ints] at h1; exact h1, fun x hx => wf_u8 (h2 x hx), ?_⟩
  have e : Try.prog.bytesOf 5 = 1 := by kernel_rfl
  rw [e] at h3
  unfold reachBytes at h3
  show l.length ≤ _
  omega
theorem bytesOf_hart : 1 ≤ Try.prog.bytesOf 86 := by
  have : Try.prog.bytesOf 86 = 160 := by kernel_rfl
  omega
theorem opens_harts : Opens enc Try.prog W 23 (fun p : Value × List Hart => [p.1]) (fun p => Sl W p.1 37 p.2.length (p.2.flatMap hlist) ∧ (∀ h ∈ p.2, h.Wf) ∧ p.2.length ≤ 140737488351232) := fun fuel cs d ps h hw => by
  obtain ⟨v, rfl, l, h1, h2, h3⟩ := opens_slice (enc := enc) (P := Try.prog) (W := W) Try.underlying23 (s := 37) (by kernel_rfl) (by omega) (fun _ h => hlist_length h) opens_hart fuel cs d ps h hw
  refine ⟨(v, l), rfl, h1, h2, ?_⟩
  have := Nat.le_trans (Nat.mul_le_mul_left l.length bytesOf_hart) h3
  unfold reachBytes at this
  show l.length ≤ _
  omega
theorem opens_machine : Opens enc Try.prog W 25 mvals (MachOk W) := by
  have h := opens_struct (enc := enc) (P := Try.prog) (W := W) (l := [(22, 1), (23, 1)]) Try.underlying25 (by kernel_rfl) (by kernel_rfl) (by kernel_rfl) (by kernel_rfl)
    (opensL_cons opens_bytes (opensL_cons opens_harts opensL_nil))
  refine h.map (fun p => (p.1.1, p.2.1.1, ⟨p.1.2, p.2.1.2⟩)) ?_
  rintro ⟨⟨vm, lm⟩, ⟨vh, lh⟩, u⟩ ⟨⟨h1, h2, h3⟩, ⟨h4, h5, h6⟩, _⟩
  exact ⟨rfl, ⟨h1, h4⟩, ⟨h2, h5⟩, h3, h6⟩
theorem opens_picks : Opens enc Try.prog W 87 (fun p : Value × List (Int × Int) => [p.1]) (fun p => Picks W p.1 p.2 ∧ (∀ q ∈ p.2, i64ok q.1 ∧ i64ok q.2) ∧ p.2.length ≤ 8796093021952) := fun fuel cs d ps h hw => by
  have hp : Opens enc Try.prog W 90 plist (fun q => i64ok q.1 ∧ i64ok q.2) := by
    have h := opens_struct (enc := enc) (P := Try.prog) (W := W) (l := [(3, 1), (3, 1)]) Try.underlying90 (by kernel_rfl) (by kernel_rfl) (by kernel_rfl) (by kernel_rfl)
      (opensL_cons (opens_int Try.underlying3) (opensL_cons (opens_int Try.underlying3) opensL_nil))
    refine h.map (fun p => (p.1, p.2.1)) ?_
    rintro ⟨a, b, u⟩ ⟨h1, h2, _⟩
    exact ⟨rfl, wf_i64 h1, wf_i64 h2⟩
  obtain ⟨v, rfl, l, h1, h2, h3⟩ := opens_slice (enc := enc) (P := Try.prog) (W := W) Try.underlying87 (s := 2) (by kernel_rfl) (by omega) (fun _ _ => rfl) hp fuel cs d ps h hw
  refine ⟨(v, l), rfl, h1, h2, ?_⟩
  have e : Try.prog.bytesOf 90 = 16 := by kernel_rfl
  rw [e] at h3
  unfold reachBytes at h3
  show l.length ≤ _
  omega
end
end Go.Proofs.Ytlfnddmncbkjaaa.RowB
