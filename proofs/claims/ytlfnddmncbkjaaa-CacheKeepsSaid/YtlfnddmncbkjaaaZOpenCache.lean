/- A block, a cache, bytes from .. to ..: as an argument reads. -/
import Derived.Test.YtlfnddmncbkjaaaZMB
namespace Go.Proofs.Ytlfnddmncbkjaaa.RowB
set_option linter.unusedVariables false
set_option linter.unusedSimpArgs false
open Go.ChangeShapes Go.WideShapes Go.ChangeAt Go.RowKit Fb
section
variable {H : Type} {enc : TypeId × Value → H} {W : World}
theorem opens_inss : Opens enc Try.prog W 61 (fun p : Value × List InsD => [p.1]) (fun p => BlockAt W p.1 p.2 ∧ (∀ i ∈ p.2, i.Wf) ∧ p.2.length ≤ 3518437208883) := fun fuel cs d ps h hw => by
  obtain ⟨v, rfl, l, h1, h2, h3⟩ := opens_slice (enc := enc) (P := Try.prog) (W := W) Try.underlying61 (s := 5) (by kernel_rfl) (by omega) (fun _ _ => rfl) opens_ins fuel cs d ps h hw
  refine ⟨(v, l), rfl, h1, h2, ?_⟩
  have e : Try.prog.bytesOf 54 = 40 := by kernel_rfl
  rw [e] at h3
  unfold reachBytes at h3
  show l.length ≤ _
  omega
def BlkIn (W : World) (x : BlkD) : Prop := BlkOk W x ∧ (∀ i ∈ x.ins, i.Wf) ∧ x.ins.length ≤ 3518437208883
theorem opens_block : Opens enc Try.prog W 63 blist (BlkIn W) := by
  have h := opens_struct (enc := enc) (P := Try.prog) (W := W) (l := [(33, 1), (61, 1)]) Try.underlying63 (by kernel_rfl) (by kernel_rfl) (by kernel_rfl) (by kernel_rfl)
    (opensL_cons (opens_int Try.underlying33) (opensL_cons opens_inss opensL_nil))
  refine h.map (fun p => ⟨p.1, p.2.1.1, p.2.1.2⟩) ?_
  rintro ⟨a, ⟨v, l⟩, u⟩ ⟨h1, ⟨h2, h3, h4⟩, _⟩
  exact ⟨rfl, ⟨h2, wf_u32 h1⟩, h3, h4⟩
theorem opens_blocks : Opens enc Try.prog W 58 (fun p : Value × List BlkD => [p.1]) (fun p => Blks W p.1 p.2 ∧ (∀ x ∈ p.2, BlkIn W x) ∧ p.2.length * 32 ≤ 140737488351232) := fun fuel cs d ps h hw => by
  obtain ⟨v, rfl, l, h1, h2, h3⟩ := opens_slice (enc := enc) (P := Try.prog) (W := W) Try.underlying58 (s := 2) (by kernel_rfl) (by omega) (fun _ _ => rfl) opens_block fuel cs d ps h hw
  refine ⟨(v, l), rfl, ⟨h1, fun x hx => (h2 x hx).1⟩, h2, ?_⟩
  have e : Try.prog.bytesOf 63 = 32 := by kernel_rfl
  rw [e] at h3
  unfold reachBytes at h3
  exact h3
theorem opens_cache : Opens enc Try.prog W 60 (fun p : Int × (Value × List BlkD) × Int × Int => [.int .i64 p.1, p.2.1.1, .int .i64 p.2.2.1, .int .i64 p.2.2.2]) (fun p => i64ok p.1 ∧ (Blks W p.2.1.1 p.2.1.2 ∧ (∀ x ∈ p.2.1.2, BlkIn W x) ∧ p.2.1.2.length * 32 ≤ 140737488351232) ∧ i64ok p.2.2.1 ∧ i64ok p.2.2.2) := by
  have h := opens_struct (enc := enc) (P := Try.prog) (W := W) (l := [(3, 1), (58, 1), (3, 1), (3, 1)]) Try.underlying60 (by kernel_rfl) (by kernel_rfl) (by kernel_rfl) (by kernel_rfl)
    (opensL_cons (opens_int Try.underlying3) (opensL_cons opens_blocks (opensL_cons (opens_int Try.underlying3) (opensL_cons (opens_int Try.underlying3) opensL_nil))))
  refine h.map (fun p => (p.1, p.2.1, p.2.2.1, p.2.2.2.1)) ?_
  rintro ⟨a, b, c, d, u⟩ ⟨h1, h2, h3, h4, _⟩
  exact ⟨rfl, wf_i64 h1, h2, wf_i64 h3, wf_i64 h4⟩
theorem opens_range : Opens enc Try.prog W 65 (fun p : Int × Int => [.int .u32 p.1, .int .u32 p.2]) (fun p => U32 p.1 ∧ U32 p.2) := by
  have h := opens_struct (enc := enc) (P := Try.prog) (W := W) (l := [(33, 1), (33, 1)]) Try.underlying65 (by kernel_rfl) (by kernel_rfl) (by kernel_rfl) (by kernel_rfl)
    (opensL_cons (opens_int Try.underlying33) (opensL_cons (opens_int Try.underlying33) opensL_nil))
  refine h.map (fun p => (p.1, p.2.1)) ?_
  rintro ⟨a, b, u⟩ ⟨h1, h2, _⟩
  exact ⟨rfl, wf_u32 h1, wf_u32 h2⟩
end
end Go.Proofs.Ytlfnddmncbkjaaa.RowB
