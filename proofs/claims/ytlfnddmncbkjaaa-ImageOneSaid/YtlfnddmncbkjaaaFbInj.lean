/- Two machines with the same bytes are the same. No program in sight. -/
import Derived.Test.YtlfnddmncbkjaaaFbImage
namespace Go.Proofs.Ytlfnddmncbkjaaa.Fb
set_option linter.unusedVariables false
set_option linter.unusedSimpArgs false
open Go.RowKit

theorem quad_inj {x y : Int} (hx : U32 x) (hy : U32 y) (h : quad x = quad y) : x = y := by
  unfold U32 at hx hy
  simp only [quad, List.cons.injEq, and_true] at h
  omega
theorem quads_inj : ∀ {l l' : List Int}, (∀ x ∈ l, U32 x) → (∀ x ∈ l', U32 x) → l.flatMap quad = l'.flatMap quad → l = l'
  | [], [], _, _, _ => rfl
  | [], y :: r, _, _, h => by have := congrArg List.length h; rw [quads_len, quads_len] at this; simp at this
  | x :: r, [], _, _, h => by have := congrArg List.length h; rw [quads_len, quads_len] at this; simp at this
  | x :: r, y :: r', hx, hy, h => by
    rw [List.flatMap_cons, List.flatMap_cons] at h
    obtain ⟨h1, h2⟩ := List.append_inj h (by rw [quad_len, quad_len])
    rw [quad_inj (hx x (by simp)) (hy y (by simp)) h1, quads_inj (fun z hz => hx z (by simp [hz])) (fun z hz => hy z (by simp [hz])) h2]
theorem hwords_u {h : Hart} (w : h.Wf) (k : h.ok = true) : ∀ x ∈ hwords h, U32 x := by
  intro x hx
  simp only [hwords, List.mem_append, List.mem_cons, List.not_mem_nil, or_false] at hx
  have s := ok_state k
  have c := ok_cause k
  rcases hx with hx | rfl | rfl | rfl | rfl | rfl
  · exact w.regs x hx
  · exact w.pc
  · exact heldInt_u h
  · exact w.heldAt
  · unfold U32; omega
  · unfold U32; omega
theorem hbytes_inj {h k : Hart} (wh : h.Wf) (wk : k.Wf) (oh : h.ok = true) (ok : k.ok = true) (e : hbytes h = hbytes k) : h = k := by
  have e1 := quads_inj (hwords_u wh oh) (hwords_u wk ok) e
  obtain ⟨e2, e3⟩ := List.append_inj e1 (by rw [wh.len, wk.len])
  simp only [List.cons.injEq, and_true] at e3
  obtain ⟨e3, e4, e5, e6, e7⟩ := e3
  have e8 : h.held = k.held := by
    unfold Hart.heldInt at e4
    cases h1 : h.held <;> cases h2 : k.held <;> simp [h1, h2] at e4 <;> rfl
  cases h; cases k; simp_all
theorem hflats_inj : ∀ {l l' : List Hart}, (∀ h ∈ l, h.Wf ∧ h.ok = true) → (∀ h ∈ l', h.Wf ∧ h.ok = true) → l.length = l'.length → l.flatMap hbytes = l'.flatMap hbytes → l = l'
  | [], [], _, _, _, _ => rfl
  | [], y :: r, _, _, h, _ => by simp at h
  | x :: r, [], _, _, h, _ => by simp at h
  | x :: r, y :: r', hx, hy, hl, h => by
    rw [List.flatMap_cons, List.flatMap_cons] at h
    have a := hx x (by simp)
    have b := hy y (by simp)
    obtain ⟨h1, h2⟩ := List.append_inj h (by rw [hbytes_len a.1, hbytes_len b.1])
    rw [hbytes_inj a.1 b.1 a.2 b.2 h1, hflats_inj (fun z hz => hx z (by simp [hz])) (fun z hz => hy z (by simp [hz])) (by simpa using hl) h2]
theorem mbytes_inj {a b : Mach} (wa : a.Wf) (wb : b.Wf) (ka : wrong a [] = 0) (kb : wrong b [] = 0) (h : mbytes a = mbytes b) : a = b := by
  obtain ⟨a1, a2, a3⟩ := wrong_mem ka
  obtain ⟨b1, b2, b3⟩ := wrong_mem kb
  simp only [mbytes, List.append_assoc] at h
  obtain ⟨h1, h2⟩ := List.append_inj h (by rw [quad_len, quad_len])
  have e1 := quad_inj (by unfold U32; omega) (by unfold U32; omega) h1
  obtain ⟨h3, h4⟩ := List.append_inj h2 (by omega)
  obtain ⟨h5, h6⟩ := List.append_inj h4 (by rw [quad_len, quad_len])
  have e2 := quad_inj (by unfold U32; omega) (by unfold U32; omega) h5
  have e3 := hflats_inj (fun x hx => ⟨wa.harts x hx, wrong_harts ka x hx⟩) (fun x hx => ⟨wb.harts x hx, wrong_harts kb x hx⟩) (by omega) h6
  cases a; cases b; simp_all
theorem mbytes_pos {a : Mach} (wa : a.Wf) : 0 < (mbytes a).length := by rw [mbytes_len wa]; omega
end Go.Proofs.Ytlfnddmncbkjaaa.Fb
