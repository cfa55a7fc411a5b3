import Derived.Test.YtlfnddmncbkjaacZFbBack
set_option linter.unusedVariables false
set_option linter.unusedSimpArgs false
set_option maxRecDepth 100000
set_option maxHeartbeats 4000000
namespace Go.Proofs.Ytlfnddmncbkjaac.Fb
open Go.RowKit
def URng (d : UndoD) : Prop := i64ok d.hart ∧ U32 d.frm ∧ Bytes d.bytes ∧ ∀ p ∈ d.lost, i64ok p.1 ∧ U32 p.2
theorem lostN_rng {k : Nat} {was now : List Hart} (hw : ∀ j, U32 (was.getD j hart0).heldAt) : ∀ n, n ≤ 4 → ∀ p ∈ lostN k was now n, i64ok p.1 ∧ U32 p.2
  | 0, _ => fun p hp => by cases hp
  | n + 1, h => fun p hp => by
    rcases List.mem_append.1 hp with hp | hp
    · exact lostN_rng hw n om p hp
    · unfold lost1 at hp
      split at hp
      · rw [List.mem_singleton] at hp
        subst hp
        exact ⟨⟨by show -9223372036854775808 ≤ (n : Int); omega, by show (n : Int) ≤ 9223372036854775807; omega⟩, hw n⟩
      · cases hp
theorem undoOf_rng {k : Nat} {s : St} (g : s.Good) (hk : k < s.harts.length) (h4 : s.harts.length ≤ 4) : URng (undoOf k s) := by
  have hml := g.wf.mlen
  have hrg : Rng (stepC k s) := goS_rng _ (g.wf.hart k) _ hml
  have hdl : (stepC k s).m.length = s.mem.length := goS_ml _
  refine ⟨⟨by show -9223372036854775808 ≤ (k : Int); omega, by show (k : Int) ≤ 9223372036854775807; omega⟩, ?_, ?_, fun p hp => lostN_rng (fun j => (g.wf.hart j).heldAt) _ h4 p hp⟩
  · show U32 (if (stepC k s).fr < (stepC k s).tw then (stepC k s).fr else 0)
    split
    · unfold Rng at hrg
      rw [hdl] at hrg
      exact ⟨om, om⟩
    · exact ⟨by decide, by decide⟩
  · show Bytes (if _ then _ else _)
    split
    · exact fun x hx => g.wf.mem x (List.mem_of_mem_drop (List.mem_of_mem_take hx))
    · intro x hx; cases hx
theorem undoPick_rng {k : Nat} : ∀ (n : Nat) {s : St}, s.Good → k < s.harts.length → s.harts.length ≤ 4 → ∀ d ∈ undoPick k n s, URng d
  | 0, _, _, _, _ => fun d hd => by cases hd
  | n + 1, s, h, hk, h4 => by
    unfold undoPick
    split
    · rename_i hs
      intro d hd
      rcases List.mem_cons.1 hd with rfl | hd
      · exact undoOf_rng h hk h4
      · exact undoPick_rng n (goM_good h hs) (by rw [goM_len]; exact hk) (by rw [goM_len]; exact h4) d hd
    · intro d hd; cases hd
theorem undoPlay_rng : ∀ (l : List (Int × Int)) {s : St}, s.Good → (∀ p ∈ l, 0 ≤ p.1 ∧ p.1 < s.harts.length) → s.harts.length ≤ 4 → ∀ d ∈ undoPlay l s, URng d
  | [], _, _, _, _ => fun d hd => by cases hd
  | p :: r, s, h, hp, h4 => by
    intro d hd
    obtain ⟨h1, h2⟩ := hp p zH
    rcases List.mem_append.1 hd with hd | hd
    · exact undoPick_rng _ h om h4 d hd
    · exact undoPlay_rng r (pickM_good _ h) (fun q hq => by rw [pickM_len]; exact hp q (by simp [hq])) (by rw [pickM_len]; exact h4) d hd
theorem UR.of_up {B : Nat} {TD TY TL : TypeId} {w : World} {v : Value} {us : List UndD} (h : Up B TD TY TL w v us) (hr : ∀ d ∈ us.map (·.d), URng d) : UR w v us :=
  ⟨owns_sl h.own, h.wf, fun x hx => owns_sl (h.byt x hx), fun x hx => owns_sl (h.los x hx), fun x hx => hr _ (List.mem_map.2 ⟨x, hx, rfl⟩)⟩
theorem play_mach_wrong {m : Mach} {l : List (Int × Int)} (wf : m.Wf) (h : wrong m l = 0) : wrong (playM l (startM m)).mach [] = 0 := by
  obtain ⟨p1, p2, p3, p4, p5, p6⟩ := wrong_parts h
  have hg := playM_good l (startM_good wf h)
  have e1 : (playM l (startM m)).harts.length = m.harts.length := playM_len l _
  have e2 : (playM l (startM m)).mem.length = m.mem.length := playM_ml l _
  exact wrong_of (by show (playM l (startM m)).mem.length ≤ 4096; omega) (by show 1 ≤ (playM l (startM m)).harts.length; omega) (by show (playM l (startM m)).harts.length ≤ 4; omega) hg.ok zH (by intro p hp; cases hp)
theorem play_fits {m : Mach} {l : List (Int × Int)} (wf : m.Wf) (h : wrong m l = 0) : (undoPlay l (startM m)).all (fitsU (playM l (startM m)).mach) = true := by
  obtain ⟨p1, p2, p3, p4, p5, p6⟩ := wrong_parts h
  exact List.all_eq_true.2 (undoPlay_fits l (startM_good wf h) (fun p hp => ⟨(p6 p hp).1, (p6 p hp).2.1⟩) (playM_len l _) (playM_ml l _))
theorem play_steps {m : Mach} {l : List (Int × Int)} : (playM l (startM m)).steps = (undoPlay l (startM m)).length := by
  rw [undoPlay_steps]
  show 0 + _ = _
  omega
end Go.Proofs.Ytlfnddmncbkjaac.Fb
