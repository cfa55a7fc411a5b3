import Derived.Test.YtlfnddmncbkjaacZMB
set_option linter.unusedVariables false
set_option linter.unusedSimpArgs false
set_option maxRecDepth 100000
set_option maxHeartbeats 4000000
namespace Go.Proofs.Ytlfnddmncbkjaac.Fb
open Go.RowKit
def patch (m : List Int) (f : Int) (bs : List Int) : List Int := m.take f.toNat ++ bs ++ m.drop (f.toNat + bs.length)
def reset1 (p : Int × Int) (hs : List Hart) : List Hart := hs.set p.1.toNat { (hs.getD p.1.toNat hart0) with held := true, heldAt := p.2 }
def resets : List (Int × Int) → List Hart → List Hart
  | [], hs => hs
  | p :: r, hs => resets r (reset1 p hs)
def backOne (u : UndoD) (m : Mach) : Mach := ⟨patch m.mem u.frm u.bytes, resets u.lost (m.harts.set u.hart.toNat u.was)⟩
def backL (us : List UndoD) (m : Mach) : Mach := us.foldr backOne m
def inH (m : Mach) (k : Int) : Bool := decide (0 ≤ k) && decide (k < m.harts.length)
def fitsU (m : Mach) (u : UndoD) : Bool := u.lost.all (fun p => inH m p.1) && (inH m u.hart && u.was.ok && decide (u.frm + u.bytes.length ≤ m.mem.length))
def backS (m : Mach) (us : List UndoD) (steps : Int) : Mach × Int :=
  if wrong m [] = 0 then (if us.all (fitsU m) = true then (if steps < 0 ∨ (us.length : Int) < steps then (⟨[], []⟩, 3) else (backL (us.drop (us.length - steps.toNat)) m, 0)) else (⟨[], []⟩, 2)) else (⟨[], []⟩, 2)
theorem resets_append : ∀ (a b : List (Int × Int)) (hs : List Hart), resets (a ++ b) hs = resets b (resets a hs)
  | [], _, _ => rfl
  | p :: r, b, hs => resets_append r b (reset1 p hs)
theorem reset1_len (p : Int × Int) (hs : List Hart) : (reset1 p hs).length = hs.length := List.length_set
theorem resets_len : ∀ (a : List (Int × Int)) (hs : List Hart), (resets a hs).length = hs.length
  | [], _ => rfl
  | p :: r, hs => (resets_len r (reset1 p hs)).trans (reset1_len p hs)
theorem patch_len {m : List Int} {f : Int} {bs : List Int} (h0 : 0 ≤ f) (h : f + bs.length ≤ m.length) : (patch m f bs).length = m.length := by
  unfold patch
  simp only [List.length_append, List.length_take, List.length_drop]
  omega
structure UR (w : World) (v : Value) (us : List UndD) : Prop where
  row : Sl w v 41 us.length (us.flatMap ulist)
  wf : ∀ x ∈ us, x.d.was.Wf
  byt : ∀ x ∈ us, Sl w x.vb 1 x.d.bytes.length (x.d.bytes.map (Value.int .u8))
  los : ∀ x ∈ us, Sl w x.vl 2 x.d.lost.length (x.d.lost.flatMap llist)
  rng : ∀ x ∈ us, i64ok x.d.hart ∧ U32 x.d.frm ∧ Bytes x.d.bytes ∧ ∀ p ∈ x.d.lost, i64ok p.1 ∧ U32 p.2
theorem UR.below {w w' : World} {v : Value} {us : List UndD} (h : UR w v us) (hb : Below w.heap.size w w') : UR w' v us := ⟨h.row.below hb, h.wf, fun x hx => (h.byt x hx).below hb, fun x hx => (h.los x hx).below hb, h.rng⟩
theorem ulist_at {x : UndD} (wf : x.d.was.regs.length = 32) {w : World} {b o : Nat} (h : At w b o (ulist x)) : w.cell? ⟨b, o, none⟩ = some (.int .i64 x.d.hart) ∧ At w b (o + 1) (hlist x.d.was) ∧ w.cell? ⟨b, o + 38, none⟩ = some (.int .u32 x.d.frm) ∧ w.cell? ⟨b, o + 39, none⟩ = some x.vb ∧ w.cell? ⟨b, o + 40, none⟩ = some x.vl := by
  unfold ulist at h
  have h0 := h.get (j := 0) rfl
  have h1 : At w b (o + 1) (hlist x.d.was ++ [.int .u32 x.d.frm, x.vb, x.vl]) := fun j hj => by
    have := h (j + 1) (by simpa using hj)
    rw [show o + 1 + j = o + (j + 1) by omega, this]; rfl
  have h2 : At w b (o + 38) [.int .u32 x.d.frm, x.vb, x.vl] := by
    have := h1.append_right
    rw [hlist_len wf] at this
    exact this
  exact ⟨h0, h1.append_left, h2.get (j := 0) rfl, h2.get (j := 1) rfl, h2.get (j := 2) rfl⟩
theorem ulist_one {x : UndD} (hb : x.vb.oneCell' = true) (hl : x.vl.oneCell' = true) : ∀ u ∈ ulist x, u.oneCell' = true := by
  unfold ulist
  intro u hu
  simp only [List.mem_cons, List.mem_append, List.not_mem_nil, or_false] at hu
  rcases hu with rfl | hu | rfl | rfl | rfl
  · rfl
  · exact hlist_one x.d.was u (by simpa [hcells] using hu)
  · rfl
  · exact hb
  · exact hl
end Go.Proofs.Ytlfnddmncbkjaac.Fb
