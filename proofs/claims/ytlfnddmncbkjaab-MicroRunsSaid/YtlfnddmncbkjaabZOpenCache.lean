/- A block, a cache, bytes from .. to ..: as an argument reads. -/
import Derived.Test.YtlfnddmncbkjaabZMB
namespace Go.Proofs.Ytlfnddmncbkjaab.RowB
set_option linter.unusedVariables false
set_option linter.unusedSimpArgs false
open Go.ChangeShapes Go.WideShapes Go.ChangeAt Go.RowKit Fb
section
variable {H : Type} {enc : TypeId × Value → H} {W : World}
theorem opens_inss : Opens enc Try.prog W 45 (fun p : Value × List InsD => [p.1]) (fun p => BlockAt W p.1 p.2 ∧ (∀ i ∈ p.2, i.Wf) ∧ p.2.length ≤ 3518437208883) := fun fuel cs d ps h hw => by
  obtain ⟨v, rfl, l, h1, h2, h3⟩ := opens_slice (enc := enc) (P := Try.prog) (W := W) Try.underlying45 (s := 5) (by kernel_rfl) (by omega) (fun _ _ => rfl) opens_ins fuel cs d ps h hw
  refine ⟨(v, l), rfl, h1, h2, ?_⟩
  have e : Try.prog.bytesOf 38 = 40 := by kernel_rfl
  rw [e] at h3
  unfold reachBytes at h3
  show l.length ≤ _
  omega
def BlkIn (W : World) (x : BlkD) : Prop := BlkOk W x ∧ (∀ i ∈ x.ins, i.Wf) ∧ x.ins.length ≤ 3518437208883
theorem opens_block : Opens enc Try.prog W 47 blist (BlkIn W) := by
  have h := opens_struct (enc := enc) (P := Try.prog) (W := W) (l := [(34, 1), (45, 1)]) Try.underlying47 (by kernel_rfl) (by kernel_rfl) (by kernel_rfl) (by kernel_rfl)
    (opensL_cons (opens_int Try.underlying34) (opensL_cons opens_inss opensL_nil))
  refine h.map (fun p => ⟨p.1, p.2.1.1, p.2.1.2⟩) ?_
  rintro ⟨a, ⟨v, l⟩, u⟩ ⟨h1, ⟨h2, h3, h4⟩, _⟩
  exact ⟨rfl, ⟨h2, wf_u32 h1⟩, h3, h4⟩
theorem opens_range : Opens enc Try.prog W 60 (fun p : Int × Int => [.int .u32 p.1, .int .u32 p.2]) (fun p => U32 p.1 ∧ U32 p.2) := by
  have h := opens_struct (enc := enc) (P := Try.prog) (W := W) (l := [(34, 1), (34, 1)]) Try.underlying60 (by kernel_rfl) (by kernel_rfl) (by kernel_rfl) (by kernel_rfl)
    (opensL_cons (opens_int Try.underlying34) (opensL_cons (opens_int Try.underlying34) opensL_nil))
  refine h.map (fun p => (p.1, p.2.1)) ?_
  rintro ⟨a, b, u⟩ ⟨h1, h2, _⟩
  exact ⟨rfl, wf_u32 h1, wf_u32 h2⟩
end
end Go.Proofs.Ytlfnddmncbkjaab.RowB
