import Derived.Test.YtlfnddmncbkjaaaZMA
import Derived.Test.YtlfnddmncbkjaaaZMB
set_option linter.unusedVariables false
set_option linter.unusedSimpArgs false
set_option maxRecDepth 100000
set_option maxHeartbeats 4000000
namespace Go.Proofs.Ytlfnddmncbkjaaa.RowB
open Go.ChangeShapes Go.WideShapes Go.ChangeAt Go.RowKit Fb
section
variable {H : Type} {enc : TypeId × Value → H} {W : World}
theorem opens_losts : Opens enc Try.prog W 107 (fun p : Value × List (Int × Int) => [p.1]) (fun p => Sl W p.1 2 p.2.length (p.2.flatMap llist) ∧ (∀ q ∈ p.2, i64ok q.1 ∧ U32 q.2) ∧ p.2.length ≤ 140737488355328) := fun fuel cs d ps h hw => by
  have hp : Opens enc Try.prog W 119 llist (fun q => i64ok q.1 ∧ U32 q.2) := by
    have h := opens_struct (enc := enc) (P := Try.prog) (W := W) (l := [(3, 1), (33, 1)]) Try.underlying119 (by kernel_rfl) (by kernel_rfl) (by kernel_rfl) (by kernel_rfl)
      (opensL_cons (opens_int Try.underlying3) (opensL_cons (opens_int Try.underlying33) opensL_nil))
    refine h.map (fun p => (p.1, p.2.1)) ?_
    rintro ⟨a, b, u⟩ ⟨h1, h2, _⟩
    exact ⟨rfl, wf_i64 h1, wf_u32 h2⟩
  obtain ⟨v, rfl, l, h1, h2, h3⟩ := opens_slice (enc := enc) (P := Try.prog) (W := W) Try.underlying107 (s := 2) (by kernel_rfl) (by omega) (fun _ _ => rfl) hp fuel cs d ps h hw
  refine ⟨(v, l), rfl, h1, h2, ?_⟩
  have e : Try.prog.bytesOf 119 = 16 := by kernel_rfl
  rw [e] at h3
  unfold reachBytes at h3
  show l.length ≤ _
  omega
def UndOk (W : World) (x : UndD) : Prop := x.d.was.Wf ∧ Ints .u8 W x.vb x.d.bytes ∧ Sl W x.vl 2 x.d.lost.length (x.d.lost.flatMap llist) ∧ (i64ok x.d.hart ∧ U32 x.d.frm ∧ Bytes x.d.bytes ∧ ∀ p ∈ x.d.lost, i64ok p.1 ∧ U32 p.2) ∧ x.d.bytes.length ≤ 140737488355328 ∧ x.d.lost.length ≤ 140737488355328
theorem opens_undo : Opens enc Try.prog W 109 ulist (UndOk W) := by
  have h := opens_struct (enc := enc) (P := Try.prog) (W := W) (l := [(3, 1), (86, 37), (33, 1), (22, 1), (107, 1)]) Try.underlying109 (by kernel_rfl) (by kernel_rfl) (by kernel_rfl) (by kernel_rfl)
    (opensL_cons (opens_int Try.underlying3) (opensL_cons opens_hart (opensL_cons (opens_int Try.underlying33) (opensL_cons opens_bytes (opensL_cons opens_losts opensL_nil)))))
  refine h.map (fun p => ⟨⟨p.1, p.2.1, p.2.2.1, p.2.2.2.1.2, p.2.2.2.2.1.2⟩, p.2.2.2.1.1, p.2.2.2.2.1.1⟩) ?_
  rintro ⟨k, hh, f, ⟨vb, lb⟩, ⟨vl, ll⟩, u⟩ ⟨h1, h2, h3, ⟨b1, b2, b3⟩, ⟨l1, l2, l3⟩, _⟩
  exact ⟨rfl, h2, b1, l1, ⟨wf_i64 h1, wf_u32 h3, b2, l2⟩, Nat.le_trans b3 (by decide), l3⟩
theorem opens_undos : Opens enc Try.prog W 47 (fun p : Value × List UndD => [p.1]) (fun p => UR W p.1 p.2 ∧ (∀ x ∈ p.2, x.d.bytes.length ≤ 140737488355328 ∧ x.d.lost.length ≤ 140737488355328) ∧ p.2.length ≤ 140737488355328) := fun fuel cs d ps h hw => by
  obtain ⟨v, rfl, l, h1, h2, h3⟩ := opens_slice (enc := enc) (P := Try.prog) (W := W) Try.underlying47 (s := 41) (by kernel_rfl) (by omega) (fun x hx => ulist_len hx.1.len) opens_undo fuel cs d ps h hw
  refine ⟨(v, l), rfl, ⟨h1, fun x hx => (h2 x hx).1, fun x hx => (h2 x hx).2.1, fun x hx => (h2 x hx).2.2.1, fun x hx => (h2 x hx).2.2.2.1⟩, fun x hx => (h2 x hx).2.2.2.2, ?_⟩
  have e : Try.prog.bytesOf 109 = 224 := by kernel_rfl
  rw [e] at h3
  unfold reachBytes at h3
  show l.length ≤ _
  omega
end
end Go.Proofs.Ytlfnddmncbkjaaa.RowB
