import Derived.Test.YtlfnddmncbkjaacZMB
import Derived.Test.YtlfnddmncbkjaacZGB
set_option linter.unusedVariables false
set_option linter.unusedSimpArgs false
set_option maxRecDepth 100000
set_option maxHeartbeats 4000000
namespace Go.Proofs.Ytlfnddmncbkjaac.Fb
open Go.RowKit
theorem lay_take (l : List Int) (k : Nat) (x : Int) : ∀ n, (lay l k x n).take k = l.take k
  | 0 => rfl
  | n + 1 => by
    rw [lay, show ((k : Int) + (n : Nat)).toNat = k + n by omega, List.take_set_of_le om]
    exact lay_take l k x n
theorem lay_drop (l : List Int) (k : Nat) (x : Int) : ∀ n, (lay l k x n).drop (k + n) = l.drop (k + n)
  | 0 => rfl
  | n + 1 => by
    rw [lay, show ((k : Int) + (n : Nat)).toNat = k + n by omega, List.drop_set_of_lt om]
    have := congrArg (List.drop 1) (lay_drop l k x n)
    rw [List.drop_drop, List.drop_drop] at this
    exact this
theorem patch_back {m d : List Int} {f t : Nat} (h1 : d.take f = m.take f) (h2 : d.drop t = m.drop t) (h3 : f ≤ t) (h4 : t ≤ m.length) : patch d f ((m.drop f).take (t - f)) = m := by
  unfold patch
  have hl : ((m.drop f).take (t - f)).length = t - f := by rw [List.length_take, List.length_drop]; omega
  rw [Int.toNat_natCast, hl, show f + (t - f) = t by omega, h1, h2]
  have e : (m.drop f).drop (t - f) = m.drop t := by rw [List.drop_drop, show f + (t - f) = t by omega]
  rw [List.append_assoc, ← e, List.take_append_drop, List.take_append_drop]
theorem getD_set' (hs : List Hart) (j i : Nat) (v : Hart) (h : i < hs.length) : (hs.set j v).getD i hart0 = if j = i then v else hs.getD i hart0 := by
  rw [List.getD_eq_getElem?_getD, List.getD_eq_getElem?_getD, List.getElem?_set]
  by_cases e : j = i
  · subst e; rw [if_pos rfl, if_pos rfl, if_pos h]; rfl
  · rw [if_neg e, if_neg e]
theorem resets_get {k : Nat} {was now hs : List Hart} : ∀ (n : Nat), n ≤ hs.length → ∀ i, i < hs.length → (resets (lostN k was now n) hs).getD i hart0 = if i < n ∧ i ≠ k ∧ (was.getD i hart0).held = true ∧ (now.getD i hart0).held = false then { (hs.getD i hart0) with held := true, heldAt := (was.getD i hart0).heldAt } else hs.getD i hart0
  | 0, _, i, h => by rw [if_neg om]; rfl
  | n + 1, hn, i, h => by
    have ih := resets_get (k := k) (was := was) (now := now) (hs := hs) n om
    show (resets (lostN k was now n ++ lost1 k was now n) hs).getD i hart0 = _
    rw [resets_append]
    unfold lost1
    by_cases c : n ≠ k ∧ (was.getD n hart0).held = true ∧ (now.getD n hart0).held = false
    · rw [if_pos c]
      show (reset1 _ _).getD i hart0 = _
      unfold reset1
      rw [Int.toNat_natCast, getD_set' _ _ _ _ (by rw [resets_len]; exact h)]
      by_cases e : n = i
      · subst e
        rw [if_pos rfl, if_pos ⟨om, c⟩, ih n h, if_neg om]
      · rw [if_neg e, ih i h]
        by_cases c2 : i < n ∧ i ≠ k ∧ (was.getD i hart0).held = true ∧ (now.getD i hart0).held = false
        · rw [if_pos c2, if_pos ⟨om, c2.2⟩]
        · rw [if_neg c2, if_neg (fun c3 => c2 ⟨om, c3.2⟩)]
    · rw [if_neg c]
      show (resets (lostN k was now n) hs).getD i hart0 = _
      rw [ih i h]
      by_cases c2 : i < n ∧ i ≠ k ∧ (was.getD i hart0).held = true ∧ (now.getD i hart0).held = false
      · rw [if_pos c2, if_pos ⟨om, c2.2⟩]
      · rw [if_neg c2, if_neg (fun c3 => c2 ⟨by
          rcases Nat.lt_or_ge i n with h5 | h5
          · exact h5
          · obtain rfl : i = n := om
            exact absurd c3.2 c, c3.2⟩)]
theorem back_step {k : Nat} {s : St} (g : s.Good) (hk : k < s.harts.length) : backOne (undoOf k s) (goM k s).mach = s.mach := by
  have hml := g.wf.mlen
  have hrg : Rng (stepC k s) := goS_rng _ (g.wf.hart k) _ hml
  have hm8 : Mem8 s.mem (stepC k s) := goS_mem8 (g.wf.core k)
  have hdl : (stepC k s).m.length = s.mem.length := goS_ml _
  have e1 : patch (stepC k s).m (undoOf k s).frm (undoOf k s).bytes = s.mem := by
    show patch (stepC k s).m (if (stepC k s).fr < (stepC k s).tw then _ else _) (if (stepC k s).fr < (stepC k s).tw then _ else _) = _
    by_cases c : (stepC k s).fr < (stepC k s).tw
    · rw [if_pos c, if_pos c]
      have h3 : 0 ≤ (stepC k s).fr ∧ (stepC k s).tw ≤ s.mem.length := by
        unfold Rng at hrg
        rw [hdl] at hrg
        omega
      have h4 : (stepC k s).m.take (stepC k s).fr.toNat = s.mem.take (stepC k s).fr.toNat ∧ (stepC k s).m.drop (stepC k s).tw.toNat = s.mem.drop (stepC k s).tw.toNat := by
        rcases hm8 with h | ⟨op, a, x, g1, g2, g3, g4, g5⟩
        · rw [h]; exact ⟨rfl, rfl⟩
        · obtain ⟨t1, t2, t3⟩ := storeOk_range g1
          have et : (stepC k s).tw = a + msize op := by rw [g5]; omega
          obtain ⟨a, rfl⟩ := Int.eq_ofNat_of_zero_le g2
          rw [g3, g4, et]
          unfold mStore
          rw [if_pos g1]
          have e2 : ((a : Int) + msize op).toNat = a + (msize op).toNat := om
          rw [e2, Int.toNat_natCast]
          exact ⟨lay_take _ _ _ _, lay_drop _ _ _ _⟩
      have := patch_back h4.1 h4.2 om om
      rw [show ((stepC k s).tw - (stepC k s).fr).toNat = (stepC k s).tw.toNat - (stepC k s).fr.toNat by omega]
      rw [show (((stepC k s).fr.toNat : Nat) : Int) = (stepC k s).fr by omega] at this
      exact this
    · rw [if_neg c, if_neg c]
      have hm : (stepC k s).m = s.mem := by
        rcases hm8 with h | ⟨op, a, x, g1, g2, g3, g4, g5⟩
        · exact h
        · obtain ⟨t1, t2, t3⟩ := storeOk_range g1
          have et : (stepC k s).tw = a + msize op := by rw [g5]; omega
          omega
      rw [hm]
      unfold patch
      simp
  have e2 : resets (undoOf k s).lost ((goM k s).harts.set ((undoOf k s).hart).toNat (undoOf k s).was) = s.harts := by
    have eg : (goM k s).harts = loseTo k (stepC k s).fr (stepC k s).tw s.harts.length (s.harts.set k (stepC k s).h) := rfl
    have hl : ((goM k s).harts.set k (s.hart k)).length = s.harts.length := by rw [List.length_set, goM_len]
    show resets (lostN k s.harts (goM k s).harts s.harts.length) ((goM k s).harts.set (Int.toNat (k : Int)) (s.hart k)) = _
    rw [Int.toNat_natCast]
    apply List.ext_getElem
    · rw [resets_len, hl]
    · intro i h1 h2
      have hi : i < (goM k s).harts.length := by rw [goM_len]; exact h2
      have ew : s.harts.getD i hart0 = s.harts[i] := by rw [List.getD_eq_getElem?_getD, List.getElem?_eq_getElem h2]; rfl
      have en : (goM k s).harts.getD i hart0 = (goM k s).harts[i] := by rw [List.getD_eq_getElem?_getD, List.getElem?_eq_getElem hi]; rfl
      have er : ∀ (L : List Hart) (hL : i < L.length), L[i] = L.getD i hart0 := fun L hL => by rw [List.getD_eq_getElem?_getD, List.getElem?_eq_getElem hL]; rfl
      rw [er _ h1, resets_get s.harts.length (by rw [hl]; exact Nat.le_refl _) i (by rw [hl]; exact h2), getD_set' _ _ _ _ hi]
      rw [ew, en]
      by_cases e : k = i
      · subst e
        rw [if_neg zH, if_pos rfl]
        exact St.hart_at hk
      · have eh : (goM k s).harts[i] = lose (stepC k s).fr (stepC k s).tw s.harts[i] := by
          simp only [eg]
          rw [loseTo_get _ _ _ _ _ _ (by rw [List.length_set]; exact h2), if_pos ⟨h2, fun e2 => e e2.symm⟩, List.getElem_set, if_neg e]
        rw [eh, if_neg e]
        generalize s.harts[i] = x
        unfold lose
        by_cases c : (x.held && decide ((stepC k s).fr < (x.heldAt + 4) % 4294967296) && decide (x.heldAt < (stepC k s).tw)) = true
        · rw [if_pos c]
          have hh : x.held = true := by simp only [Bool.and_eq_true] at c; exact c.1.1
          rw [if_pos ⟨h2, fun e2 => e e2.symm, hh, rfl⟩]
          obtain ⟨a1, a2, a3, a4, a5, a6⟩ := x
          simp only at hh
          rw [hh]
        · rw [if_neg c, if_neg]
          rintro ⟨_, _, h5, h6⟩
          rw [h5] at h6; cases h6
  show (⟨patch (stepC k s).m _ _, resets _ ((goM k s).harts.set _ _)⟩ : Mach) = ⟨s.mem, s.harts⟩
  rw [e1, e2]
theorem back_pick {k : Nat} : ∀ (n : Nat) {s : St}, s.Good → k < s.harts.length → backL (undoPick k n s) (pickM k n s).mach = s.mach
  | 0, _, _, _ => rfl
  | n + 1, s, g, hk => by
    unfold undoPick pickM
    by_cases c : (s.hart k).state = 0
    · rw [if_pos c, if_pos c]
      show backOne _ (backL (undoPick k n (goM k s)) (pickM k n (goM k s)).mach) = _
      rw [back_pick n (goM_good g c) (by rw [goM_len]; exact hk)]
      exact back_step g hk
    · rw [if_neg c, if_neg c]; rfl
theorem backL_append (a b : List UndoD) (m : Mach) : backL (a ++ b) m = backL a (backL b m) := List.foldr_append
theorem back_play : ∀ (l : List (Int × Int)) {s : St}, s.Good → (∀ p ∈ l, 0 ≤ p.1 ∧ p.1 < s.harts.length) → backL (undoPlay l s) (playM l s).mach = s.mach
  | [], _, _, _ => rfl
  | p :: r, s, g, h => by
    obtain ⟨h1, h2⟩ := h p zH
    show backL (undoPick _ _ s ++ undoPlay r _) (playM r (pickM _ _ s)).mach = _
    rw [backL_append, back_play r (pickM_good _ g) (fun q hq => by rw [pickM_len]; exact h q (by simp [hq])), back_pick _ g om]
theorem undoOf_fits {k : Nat} {s : St} (g : s.Good) (hk : k < s.harts.length) {m : Mach} (e1 : m.harts.length = s.harts.length) (e2 : m.mem.length = s.mem.length) : fitsU m (undoOf k s) = true := by
  have hml := g.wf.mlen
  have hrg : Rng (stepC k s) := goS_rng _ (g.wf.hart k) _ hml
  have hdl : (stepC k s).m.length = s.mem.length := goS_ml _
  unfold fitsU
  simp only [Bool.and_eq_true, List.all_eq_true, decide_eq_true_eq]
  refine ⟨fun p hp => ?_, ⟨?_, g.hart k⟩, ?_⟩
  · have : ∀ n, n ≤ s.harts.length → ∀ p ∈ lostN k s.harts (goM k s).harts n, inH m p.1 = true := fun n => by
      induction n with
      | zero => intro _ p hp; cases hp
      | succ n ih =>
        intro hn p hp
        rcases List.mem_append.1 hp with hp | hp
        · exact ih om p hp
        · unfold lost1 at hp
          split at hp
          · rw [List.mem_singleton] at hp
            subst hp
            unfold inH
            simp only [Bool.and_eq_true, decide_eq_true_eq]
            omega
          · cases hp
    exact this _ (Nat.le_refl _) p hp
  · show inH m (k : Int) = true
    unfold inH
    simp only [Bool.and_eq_true, decide_eq_true_eq]
    omega
  · show (if (stepC k s).fr < (stepC k s).tw then (stepC k s).fr else 0) + ((if (stepC k s).fr < (stepC k s).tw then (s.mem.drop (stepC k s).fr.toNat).take ((stepC k s).tw - (stepC k s).fr).toNat else []).length : Nat) ≤ (m.mem.length : Int)
    by_cases c : (stepC k s).fr < (stepC k s).tw
    · rw [if_pos c, if_pos c, List.length_take, List.length_drop]
      unfold Rng at hrg
      rw [hdl] at hrg
      omega
    · rw [if_neg c, if_neg c]
      simp
theorem undoPick_fits {k : Nat} {m : Mach} : ∀ (n : Nat) {s : St}, s.Good → k < s.harts.length → m.harts.length = s.harts.length → m.mem.length = s.mem.length → ∀ u ∈ undoPick k n s, fitsU m u = true
  | 0, _, _, _, _, _ => fun u hu => by cases hu
  | n + 1, s, g, hk, e1, e2 => by
    unfold undoPick
    split
    · rename_i c
      intro u hu
      rcases List.mem_cons.1 hu with rfl | hu
      · exact undoOf_fits g hk e1 e2
      · exact undoPick_fits n (goM_good g c) (by rw [goM_len]; exact hk) (by rw [goM_len]; exact e1) (by rw [goM_ml]; exact e2) u hu
    · intro u hu; cases hu
theorem undoPlay_fits {m : Mach} : ∀ (l : List (Int × Int)) {s : St}, s.Good → (∀ p ∈ l, 0 ≤ p.1 ∧ p.1 < s.harts.length) → m.harts.length = s.harts.length → m.mem.length = s.mem.length → ∀ u ∈ undoPlay l s, fitsU m u = true
  | [], _, _, _, _, _ => fun u hu => by cases hu
  | p :: r, s, g, h, e1, e2 => by
    intro u hu
    obtain ⟨h1, h2⟩ := h p zH
    rcases List.mem_append.1 hu with hu | hu
    · exact undoPick_fits _ g om e1 e2 u hu
    · exact undoPlay_fits r (pickM_good _ g) (fun q hq => by rw [pickM_len]; exact h q (by simp [hq])) (by rw [pickM_len]; exact e1) (by rw [pickM_ml]; exact e2) u hu
theorem undoPick_steps {k : Nat} : ∀ (n : Nat) (s : St), (pickM k n s).steps = s.steps + (undoPick k n s).length
  | 0, _ => rfl
  | n + 1, s => by
    unfold undoPick pickM
    by_cases c : (s.hart k).state = 0
    · rw [if_pos c, if_pos c, undoPick_steps n (goM k s), List.length_cons]
      have : (goM k s).steps = s.steps + 1 := rfl
      omega
    · rw [if_neg c, if_neg c]; rfl
theorem undoPlay_steps : ∀ (l : List (Int × Int)) (s : St), (playM l s).steps = s.steps + (undoPlay l s).length
  | [], _ => rfl
  | p :: r, s => by
    show (playM r (pickM _ _ s)).steps = _ + (undoPick _ _ s ++ undoPlay r _).length
    rw [undoPlay_steps r, undoPick_steps, List.length_append]
    omega
theorem undoPick_succ (k n : Nat) (s : St) : undoPick k (n + 1) s = if (s.hart k).state = 0 then undoOf k s :: undoPick k n (goM k s) else [] := rfl
theorem pickM_succ (k n : Nat) (s : St) : pickM k (n + 1) s = if (s.hart k).state = 0 then pickM k n (goM k s) else s := rfl
theorem undoPick_add {k : Nat} : ∀ (a b : Nat) (s : St), undoPick k (a + b) s = undoPick k a s ++ undoPick k b (pickM k a s)
  | 0, b, s => by rw [Nat.zero_add]; rfl
  | a + 1, b, s => by
    rw [show a + 1 + b = (a + b) + 1 by omega, undoPick_succ, undoPick_succ, pickM_succ]
    by_cases c : (s.hart k).state = 0
    · rw [if_pos c, if_pos c, if_pos c, undoPick_add a b]; rfl
    · rw [if_neg c, if_neg c, if_neg c, undoPick_stop c]; rfl
theorem undoPick_short {k : Nat} : ∀ (n : Nat) (s : St), (undoPick k n s).length < n → ¬ ((pickM k n s).hart k).state = 0
  | 0, _, h => absurd h om
  | n + 1, s, h => by
    unfold undoPick at h
    unfold pickM
    by_cases c : (s.hart k).state = 0
    · rw [if_pos c] at h ⊢
      rw [List.length_cons] at h
      exact undoPick_short n (goM k s) om
    · rw [if_neg c]; exact c
def cutScr (steps : Nat) : List (Int × Int) → St → List (Int × Int)
  | [], _ => []
  | p :: r, s => if s.steps < steps then (p.1, min p.2 ((steps : Int) - s.steps)) :: cutScr steps r (pickM p.1.toNat (min p.2 ((steps : Int) - s.steps)).toNat s) else []
theorem back_cut (steps : Nat) : ∀ (l : List (Int × Int)) {s : St}, s.Good → (∀ p ∈ l, 0 ≤ p.1 ∧ p.1 < s.harts.length ∧ 0 ≤ p.2) → s.steps ≤ steps →
    backL ((undoPlay l s).drop (steps - s.steps)) (playM l s).mach = (playM (cutScr steps l s) s).mach
  | [], s, _, _, _ => by simp [undoPlay, playM, cutScr, backL]
  | p :: r, s, g, h, hs => by
    obtain ⟨h1, h2, h3⟩ := h p zH
    obtain ⟨k, N⟩ := p
    obtain ⟨k, rfl⟩ := Int.eq_ofNat_of_zero_le h1
    obtain ⟨N, rfl⟩ := Int.eq_ofNat_of_zero_le h3
    simp only at h1 h2 h3
    have hk : k < s.harts.length := om
    have hr : ∀ (n : Nat) q, q ∈ r → 0 ≤ q.1 ∧ q.1 < (pickM k n s).harts.length ∧ 0 ≤ q.2 := fun n q hq => by rw [pickM_len]; exact h q (by simp [hq])
    show backL ((undoPick (Int.toNat k) (Int.toNat N) s ++ undoPlay r (pickM (Int.toNat k) (Int.toNat N) s)).drop (steps - s.steps)) (playM r (pickM (Int.toNat k) (Int.toNat N) s)).mach = _
    rw [Int.toNat_natCast, Int.toNat_natCast]
    unfold cutScr
    by_cases c : s.steps < steps
    · rw [if_pos c]
      show _ = (playM (cutScr steps r (pickM (Int.toNat k) _ s)) (pickM (Int.toNat k) _ s)).mach
      rw [Int.toNat_natCast]
      have hst := undoPick_steps (k := k) N s
      have hln := undoPick_len (k := k) N s
      rcases Nat.lt_or_ge (steps - s.steps) N with c2 | c2
      · have em : (min ((N : Nat) : Int) ((steps : Int) - (s.steps : Nat))).toNat = steps - s.steps := om
        show _ = (playM (cutScr steps r (pickM k (min ((N : Nat) : Int) ((steps : Int) - (s.steps : Nat))).toNat s)) (pickM k (min ((N : Nat) : Int) ((steps : Int) - (s.steps : Nat))).toNat s)).mach
        rw [em]
        obtain ⟨q, hq⟩ : ∃ q, q = steps - s.steps := ⟨_, rfl⟩
        rw [← hq] at c2 ⊢
        have hadd := undoPick_add (k := k) q (N - q) s
        have hpad := pickM_add (k := k) q (N - q) s
        rw [show q + (N - q) = N by omega] at hadd hpad
        have hqs := undoPick_steps (k := k) q s
        have hql := undoPick_len (k := k) q s
        rcases Nat.lt_or_ge (undoPick k q s).length q with c3 | c3
        · have hne := undoPick_short q s c3
          rw [undoPick_stop hne, List.append_nil] at hadd
          rw [pickM_stop hne] at hpad
          rw [hpad, hadd]
          have e : (undoPick k q s ++ undoPlay r (pickM k q s)).drop q = (undoPlay r (pickM k q s)).drop (steps - (pickM k q s).steps) := by
            rw [List.drop_append, List.drop_eq_nil_of_le om, List.nil_append]
            congr 1
            omega
          rw [e]
          exact back_cut steps r (pickM_good _ g) (hr q) om
        · have hcn : ∀ r', cutScr steps r' (pickM k q s) = [] := fun r' => by
            cases r' with
            | nil => rfl
            | cons a b => unfold cutScr; rw [if_neg om]
          rw [hcn]
          show _ = (pickM k q s).mach
          rw [hadd, List.append_assoc, List.drop_append, List.drop_eq_nil_of_le om, List.nil_append, show q - (undoPick k q s).length = 0 by omega, List.drop_zero, backL_append]
          rw [back_play r (pickM_good _ g) (fun x hx => ⟨(hr N x hx).1, (hr N x hx).2.1⟩), hpad]
          exact back_pick _ (pickM_good _ g) (by rw [pickM_len]; exact hk)
      · have em : (min ((N : Nat) : Int) ((steps : Int) - (s.steps : Nat))).toNat = N := om
        show _ = (playM (cutScr steps r (pickM k (min ((N : Nat) : Int) ((steps : Int) - (s.steps : Nat))).toNat s)) (pickM k (min ((N : Nat) : Int) ((steps : Int) - (s.steps : Nat))).toNat s)).mach
        rw [em]
        have e : (undoPick k N s ++ undoPlay r (pickM k N s)).drop (steps - s.steps) = (undoPlay r (pickM k N s)).drop (steps - (pickM k N s).steps) := by
          rw [List.drop_append, List.drop_eq_nil_of_le om, List.nil_append]
          congr 1
          omega
        rw [e]
        exact back_cut steps r (pickM_good _ g) (hr N) om
    · rw [if_neg c]
      have e0 : steps - s.steps = 0 := om
      rw [e0, List.drop_zero, backL_append, back_play r (pickM_good _ g) (fun x hx => ⟨(hr N x hx).1, (hr N x hx).2.1⟩), back_pick _ g hk]
      rfl
end Go.Proofs.Ytlfnddmncbkjaac.Fb
