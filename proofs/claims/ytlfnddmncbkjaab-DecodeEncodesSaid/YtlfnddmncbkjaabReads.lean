/- What an argument of a given type reads as: its cells, by the type's shape. No program in sight. -/
import Derived.Test.YtlfnddmncbkjaabRow
import Derived.Test.YtlfnddmncbkjaabFbMachine
namespace Go.Proofs.Ytlfnddmncbkjaab.RowB
set_option linter.unusedVariables false
set_option linter.unusedSimpArgs false
open Go.ChangeShapes Go.WideShapes Go.ChangeAt Go.RowKit Fb
section
variable {H : Type} {enc : TypeId × Value → H} {P : Program} {W : World}

/-- whatever reads at this type has cells of this form -/
def Opens (enc : TypeId × Value → H) (P : Program) (W : World) (t : TypeId) {α : Type} (f : α → List Value) (ok : α → Prop) : Prop :=
  ∀ fuel cs d ps, DataW.trod enc P W 0 (fun _ => true) true fuel t cs = some (d, ps) → (d.weights P t).all (· ≤ reachBytes) = true → ∃ a, cs = f a ∧ ok a

theorem opens_int {t : TypeId} {k : IntKind} (ht : P.underlying t = some (.int k)) : Opens enc P W t (fun n => [Value.int k n]) (fun n => (Lit.int k n).wf = true) := fun fuel cs d ps h _ => by
  obtain ⟨n, h1, _, h3⟩ := DataW.trod_int ht h
  exact ⟨n, h1, h3⟩
theorem opens_bool {t : TypeId} (ht : P.underlying t = some .bool) : Opens enc P W t (fun b => [Value.bool b]) (fun _ => True) := fun fuel cs d ps h _ => by
  obtain ⟨b, h1, _⟩ := DataW.trod_bool ht h
  exact ⟨b, h1, trivial⟩

theorem weightsAll_get {e : TypeId} : ∀ {l : List (DataW H)}, (DataW.weightsAll P e l).all (· ≤ reachBytes) = true → ∀ d ∈ l, (d.weights P e).all (· ≤ reachBytes) = true
  | [], _, d, h => by cases h
  | x :: r, h, d, hd => by
    simp only [DataW.weightsAll, List.all_append, Bool.and_eq_true] at h
    rcases List.mem_cons.1 hd with rfl | hd
    · exact h.1
    · exact weightsAll_get h.2 d hd

/-- elements, one after the other -/
theorem opens_chunks {e : TypeId} {α : Type} {f : α → List Value} {ok : α → Prop} (he : Opens enc P W e f ok) (s fuel : Nat) :
    ∀ (n : Nat) (cs : List Value) (xs : List (DataW H × List MemPlace)), cs.length = n * s → xs.length = n →
      (∀ i, i < n → DataW.trod enc P W 0 (fun _ => true) true fuel e ((cs.drop (i * s)).take s) = xs[i]?) → (∀ d ∈ xs.map (·.1), (d.weights P e).all (· ≤ reachBytes) = true) →
      ∃ l : List α, cs = l.flatMap f ∧ l.length = n ∧ ∀ a ∈ l, ok a
  | 0, cs, xs, hc, hx, _, _ => ⟨[], by simpa using hc, rfl, by simp⟩
  | n + 1, cs, xs, hc, hx, h, hw => by
    match xs, hx with
    | x :: r, hx =>
      have h0 := h 0 (by omega)
      simp only [Nat.zero_mul, List.drop_zero, List.getElem?_cons_zero] at h0
      obtain ⟨a, ha, hok⟩ := he fuel _ x.1 x.2 h0 (hw _ (by simp))
      obtain ⟨l, hl, hn, hall⟩ := opens_chunks he s fuel n (cs.drop s) r (by rw [List.length_drop, hc, Nat.add_mul]; omega) (by simpa using hx)
        (fun i hi => by
          have := h (i + 1) (by omega)
          rw [List.getElem?_cons_succ] at this
          rw [← this, List.drop_drop, Nat.add_mul, Nat.one_mul, Nat.add_comm])
        (fun d hd => hw d (by simp only [List.map_cons, List.mem_cons]; exact .inr hd))
      refine ⟨a :: l, ?_, by simp [hn], ?_⟩
      · rw [List.flatMap_cons, ← ha, ← hl, List.take_append_drop]
      · intro b hb
        rcases List.mem_cons.1 hb with rfl | hb
        · exact hok
        · exact hall b hb
theorem opens_arr {t e : TypeId} {n s : Nat} {α : Type} {f : α → List Value} {ok : α → Prop} (ht : P.underlying t = some (.array n e)) (hs : P.cellsOf e = s) (hts : P.cellsOf t = n * s) (he : Opens enc P W e f ok) :
    Opens enc P W t (fun l : List α => l.flatMap f) (fun l => l.length = n ∧ ∀ a ∈ l, ok a) := fun fuel cs d ps h hw => by
  obtain ⟨xs, m, rfl, hx, hc, hn, hall⟩ := DataW.trod_array ht h
  simp only [Prod.mk.injEq] at hx
  obtain ⟨rfl, rfl⟩ := hx
  simp only [DataW.weights, ht] at hw
  rw [hs] at hall
  obtain ⟨l, h1, h2, h3⟩ := opens_chunks he s m n cs xs (by rw [hc, hts]) hn hall (weightsAll_get hw)
  exact ⟨l, h1, h2, h3⟩
theorem cells_get {a : Addr} {n : Nat} {cs : List Value} (h : W.cells? 0 a n = some cs) : cs.length = n ∧ ∀ j (hj : j < cs.length), W.cell? (a.add j) = some cs[j] := by
  unfold World.cells? at h
  rw [if_pos (Nat.zero_le _)] at h
  have hl := mapM_some_length h
  rw [List.length_range] at hl
  refine ⟨hl, fun j hj => ?_⟩
  have := mapM_some_get h j j (by rw [List.getElem?_range]; omega)
  rw [this, List.getElem?_eq_getElem hj]
theorem flatMap_get {α : Type} (f : α → List Value) (s : Nat) : ∀ (l : List α), (∀ x ∈ l, (f x).length = s) → ∀ i (hi : i < l.length) r, r < s → (l.flatMap f)[i * s + r]? = (f l[i])[r]?
  | [], _, i, hi, _, _ => by simp at hi
  | x :: l, h, 0, _, r, hr => by
    rw [List.flatMap_cons, Nat.zero_mul, Nat.zero_add, List.getElem?_append_left (by rw [h x (by simp)]; exact hr)]
    rfl
  | x :: l, h, i + 1, hi, r, hr => by
    have h1 := h x (by simp)
    rw [List.flatMap_cons, List.getElem?_append_right (by rw [h1, Nat.add_mul]; omega), h1, show (i + 1) * s + r - s = i * s + r from by rw [Nat.add_mul]; omega]
    exact flatMap_get f s l (fun y hy => h y (by simp [hy])) i (by simpa using hi) r hr
theorem opens_slice {t e : TypeId} {s : Nat} {α : Type} {f : α → List Value} {ok : α → Prop} (ht : P.underlying t = some (.slice e)) (hs : P.cellsOf e = s) (hpos : 0 < s) (hlen : ∀ a, ok a → (f a).length = s) (he : Opens enc P W e f ok) :
    Opens enc P W t (fun v => [v]) (fun v => ∃ l : List α, Sl W v s l.length (l.flatMap f) ∧ (∀ a ∈ l, ok a) ∧ l.length * P.bytesOf e ≤ reachBytes) := fun fuel cs d ps h hw => by
  rcases DataW.trod_slice ht h with ⟨rfl, _⟩ | ⟨a, len, cap, elems, rest, n, rfl, rfl, hx, _, hl, hm, hel, hall, _, _⟩
  · exact ⟨_, rfl, [], Sl.nil _ _, by simp, by simp⟩
  simp only [Prod.mk.injEq] at hx
  obtain ⟨rfl, _⟩ := hx
  simp only [DataW.weights, ht, List.all_cons, List.all_append, Bool.and_eq_true, decide_eq_true_eq, List.length_map] at hw
  obtain ⟨hw1, hw2, _⟩ := hw
  rw [hs] at hall
  have key : ∀ i, i < len → ∃ x cs', W.cells? 0 (a.add (i * s)) s = some cs' ∧ cs' = f x ∧ ok x := by
    intro i hi
    have h1 := hall i hi
    rw [List.getElem?_eq_getElem (by omega)] at h1
    obtain ⟨cs', hc, hd⟩ := Option.bind_eq_some_iff.1 h1
    obtain ⟨x, hx1, hx2⟩ := he n cs' elems[i].1 elems[i].2 hd (weightsAll_get hw2 _ (List.mem_map_of_mem (List.getElem_mem (by omega))))
    exact ⟨x, cs', hc, hx1, hx2⟩
  have build : ∀ m, m ≤ len → ∃ l : List α, l.length = m ∧ (∀ a ∈ l, ok a) ∧ ∀ i (hi : i < l.length), W.cells? 0 (a.add (i * s)) s = some (f l[i]) := by
    intro m
    induction m with
    | zero => intro _; exact ⟨[], rfl, by simp, fun i hi => by simp at hi⟩
    | succ m ih =>
      intro hm2
      obtain ⟨l, h1, h2, h3⟩ := ih (by omega)
      obtain ⟨x, cs', hc, rfl, hx⟩ := key m (by omega)
      refine ⟨l ++ [x], by simp [h1], ?_, ?_⟩
      · intro b hb
        rcases List.mem_append.1 hb with hb | hb
        · exact h2 b hb
        · rw [List.mem_singleton] at hb; subst hb; exact hx
      · intro i hi
        by_cases e : i < l.length
        · rw [List.getElem_append_left e]; exact h3 i e
        · have : i = m := by simp at hi; omega
          subst this
          rw [hc]
          simp [← h1]
  obtain ⟨l, h1, h2, h3⟩ := build len (Nat.le_refl _)
  refine ⟨_, rfl, l, ⟨flatMap_length f s (fun x hx => hlen x (h2 x hx)), some a, cap, by rw [h1], by omega, hm, by simp, ?_⟩, h2, ?_⟩
  · intro a' ha' hne
    cases ha'
    have hl0 : 0 < l.length := by
      rcases Nat.eq_zero_or_pos l.length with h0 | h0
      · rw [List.eq_nil_of_length_eq_zero h0] at hne; simp at hne
      · exact h0
    have hfl := fun i (hi : i < l.length) => hlen l[i] (h2 _ (List.getElem_mem hi))
    have hspot : a.spot = none := by
      have h0 := (cells_get (h3 0 hl0)).2 0 (by rw [hfl 0 hl0]; exact hpos)
      have e0 : (a.add (0 * s)).add 0 = a := by rw [Nat.zero_mul]; rfl
      rw [e0] at h0
      unfold World.cell? at h0
      split at h0
      · split at h0
        · cases h0
        · rename_i hs2; cases hsp : a.spot with
          | none => rfl
          | some q => rw [hsp] at hs2; simp at hs2
      · cases h0
    refine ⟨hspot, fun j hj => ?_⟩
    rw [flatMap_length f s (fun x hx => hlen x (h2 x hx))] at hj
    have hq : j / s < l.length := Nat.div_lt_of_lt_mul (by rw [Nat.mul_comm]; exact hj)
    have hr : j % s < s := Nat.mod_lt _ hpos
    have h4 := (cells_get (h3 (j / s) hq)).2 (j % s) (by rw [hfl _ hq]; exact hr)
    rw [addr_add a hspot, addr_add _ rfl] at h4
    simp only at h4
    have ej : j / s * s + j % s = j := by rw [Nat.mul_comm]; exact Nat.div_add_mod j s
    rw [Nat.add_assoc, ej] at h4
    rw [h4]
    congr 1
    have h5 := flatMap_get f s l (fun x hx => hlen x (h2 x hx)) (j / s) hq (j % s) hr
    simp only [ej] at h5
    rw [List.getElem?_eq_getElem (by rw [flatMap_length f s (fun x hx => hlen x (h2 x hx))]; exact hj), List.getElem?_eq_getElem (by rw [hfl _ hq]; exact hr)] at h5
    exact (Option.some.inj h5).symm
  · rw [h1, ← hel]
    exact Nat.le_trans (Nat.mul_le_mul_right _ (Nat.le_add_right _ _)) hw1
/-- fields, one behind the other: their types and sizes -/
def OpensL (enc : TypeId × Value → H) (P : Program) (W : World) (l : List (TypeId × Nat)) {α : Type} (f : α → List Value) (ok : α → Prop) : Prop :=
  ∀ n cs (xs : List (DataW H × List MemPlace)), cs.length = (l.map (·.2)).sum → xs.length = l.length →
    (∀ j (hj : j < l.length), DataW.trod enc P W 0 (fun _ => true) true n l[j].1 ((cs.drop ((l.take j).map (·.2)).sum).take l[j].2) = xs[j]?) →
    (DataW.weightsEach P (l.map (·.1)) (xs.map (·.1))).all (· ≤ reachBytes) = true → ∃ a, cs = f a ∧ ok a
theorem opensL_nil : OpensL enc P W [] (fun _ : Unit => []) (fun _ => True) := fun n cs xs hc _ _ _ => ⟨(), List.eq_nil_of_length_eq_zero (by simpa using hc), trivial⟩
theorem opensL_cons {t : TypeId} {s : Nat} {l : List (TypeId × Nat)} {α β : Type} {f : α → List Value} {g : β → List Value} {ok : α → Prop} {ok2 : β → Prop} (h1 : Opens enc P W t f ok) (h2 : OpensL enc P W l g ok2) :
    OpensL enc P W ((t, s) :: l) (fun p : α × β => f p.1 ++ g p.2) (fun p => ok p.1 ∧ ok2 p.2) := fun n cs xs hc hx h hw => by
  match xs, hx with
  | x :: r, hx =>
    simp only [List.map_cons, List.sum_cons] at hc
    simp only [List.map_cons, DataW.weightsEach, List.all_append, Bool.and_eq_true] at hw
    have h0 := h 0 (by simp)
    simp only [List.getElem_cons_zero, List.take_zero, List.map_nil, List.sum_nil, List.drop_zero, List.getElem?_cons_zero] at h0
    obtain ⟨a, ha, hok⟩ := h1 n _ x.1 x.2 h0 hw.1
    obtain ⟨b, hb, hok2⟩ := h2 n (cs.drop s) r (by rw [List.length_drop]; omega) (by simpa using hx)
      (fun j hj => by
        have := h (j + 1) (by simpa using hj)
        simp only [List.getElem_cons_succ, List.take_succ_cons, List.map_cons, List.sum_cons, List.getElem?_cons_succ] at this
        rw [← this, List.drop_drop])
      hw.2
    exact ⟨(a, b), by show cs = f a ++ g b; rw [← ha, ← hb, List.take_append_drop], hok, hok2⟩
theorem opens_struct {t : TypeId} {fs : Array Field} {l : List (TypeId × Nat)} {α : Type} {f : α → List Value} {ok : α → Prop} (ht : P.underlying t = some (.struct fs)) (hl : fs.toList.map (·.type) = l.map (·.1))
    (hz : l.all (fun x => P.cellsOf x.1 == x.2) = true) (ho : fs.toList.map (·.offset) = (List.range l.length).map (fun j => ((l.take j).map (·.2)).sum)) (hc : P.cellsOf t = (l.map (·.2)).sum) (h : OpensL enc P W l f ok) : Opens enc P W t f ok := fun fuel cs d ps ht2 hw => by
  obtain ⟨xs, n, rfl, hx, hcs, hlen, hall⟩ := DataW.trod_struct ht ht2
  simp only [Prod.mk.injEq] at hx
  obtain ⟨rfl, rfl⟩ := hx
  simp only [DataW.weights, ht] at hw
  have hll : fs.size = l.length := by have := congrArg List.length hl; simpa using this
  refine h n cs xs (by rw [hcs, hc]) (by rw [hlen, hll]) (fun j hj => ?_) (by rw [← hl]; exact hw)
  have hj2 : j < fs.size := by omega
  have h1 := hall j fs[j] (Array.getElem?_eq_getElem hj2)
  have e1 : fs[j].type = l[j].1 := by
    have := congrArg (·[j]?) hl
    simpa [hj, hj2] using this
  have e2 : fs[j].offset = ((l.take j).map (·.2)).sum := by
    have := congrArg (·[j]?) ho
    simpa [hj, hj2] using this
  have e3 : P.cellsOf l[j].1 = l[j].2 := by
    have := List.all_eq_true.1 hz l[j] (List.getElem_mem hj)
    simpa using this
  rw [e1, e2, e3] at h1
  exact h1
theorem Opens.map {t : TypeId} {α β : Type} {f : α → List Value} {ok : α → Prop} {g : β → List Value} {ok2 : β → Prop} (h : Opens enc P W t f ok) (m : α → β) (hm : ∀ a, ok a → g (m a) = f a ∧ ok2 (m a)) : Opens enc P W t g ok2 := fun fuel cs d ps ht hw => by
  obtain ⟨a, rfl, ha⟩ := h fuel cs d ps ht hw
  exact ⟨m a, (hm a ha).1.symm, (hm a ha).2⟩
/-- an argument that is a struct -/
theorem Opens.arg {t : TypeId} {fs : Array Field} {α : Type} {f : α → List Value} {ok : α → Prop} (h : Opens enc P W t f ok) (ht : P.underlying t = some (.struct fs)) {base : Nat} {v : Value} {d : DataW H} {ps : List MemPlace}
    (hok : Value.okWide P W .any base t v) (h2 : DataW.Trod enc P W 0 (fun _ => true) true t v d ps) (hw : (d.weights P t).all (· ≤ reachBytes) = true) : ∃ a, v = .agg (f a).toArray ∧ ok a := by
  obtain ⟨cs, rfl, _⟩ := okWide_struct ht hok
  obtain ⟨fuel, hf⟩ := h2
  obtain ⟨a, ha, hk⟩ := h fuel _ d ps hf hw
  refine ⟨a, ?_, hk⟩
  rw [← ha]
  rfl
/-- an argument that is a slice -/
theorem Opens.argSlice {t e : TypeId} {α : Type} {ok : α → Prop} {g : α → Value} (h : Opens enc P W t (fun a => [g a]) ok) (ht : P.underlying t = some (.slice e)) {base : Nat} {v : Value} {d : DataW H} {ps : List MemPlace}
    (hok : Value.okWide P W .any base t v) (h2 : DataW.Trod enc P W 0 (fun _ => true) true t v d ps) (hw : (d.weights P t).all (· ≤ reachBytes) = true) : ∃ a, v = g a ∧ ok a := by
  obtain ⟨a0, len, cap, rfl⟩ := okWide_slice ht hok
  obtain ⟨fuel, hf⟩ := h2
  obtain ⟨a, ha, hk⟩ := h fuel _ d ps hf hw
  refine ⟨a, ?_, hk⟩
  simpa [Value.cells] using ha
end
end Go.Proofs.Ytlfnddmncbkjaab.RowB
