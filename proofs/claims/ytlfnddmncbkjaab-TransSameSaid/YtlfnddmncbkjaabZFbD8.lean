import Derived.Test.YtlfnddmncbkjaabZZS
import Derived.Test.YtlfnddmncbkjaabZFbRun7d
set_option linter.unusedVariables false
set_option linter.unusedSimpArgs false
set_option maxRecDepth 100000
set_option maxHeartbeats 4000000
namespace Go.Proofs.Ytlfnddmncbkjaab.Fb
open Go.RowKit
structure D8 (rp : Nat) (TO TS : TypeId) (w : World) (d : RunD) (vm vo vs : Value) : Prop where
  wf : d.h.Wf
  bytes : Bytes d.m
  at_ : At w rp 0 (didl d vm vo vs)
  frz : ∀ o, w.frozen? ⟨rp, o, none⟩ = false
  mem : Ints .u8 w vm d.m
  out : w.ownsRow (rp + 1) TO 1 vo d.out.length (d.out.map (Value.int .u32))
  sto : w.ownsRow (rp + 1) TS 2 vs d.stores.length (d.stores.flatMap rg)
  mlt : d.m ≠ [] → ∀ q, vm.ownBlock = some q → q < w.heap.size ∧ q ≠ rp ∧ vo.ownBlock ≠ some q ∧ vs.ownBlock ≠ some q
  apart : ∀ q, vo.ownBlock = some q → vs.ownBlock ≠ some q
section
variable {rp : Nat} {TO TS : TypeId} {w w' w2 w3 : World} {d d' : RunD} {vm vo vs vm' v' : Value}
theorem didl_len (h : d.h.regs.length = 32) : (didl d vm vo vs).length = 41 := by simp [didl, hlist_len h]
theorem didl_hart (h : d.h.regs.length = 32) {j : Nat} (hj : j < 37) : (didl d vm vo vs)[j]? = (hlist d.h)[j]? := by
  unfold didl
  rw [List.getElem?_append_left (by rw [hlist_len h]; exact hj)]
theorem didl_tail (h : d.h.regs.length = 32) (j : Nat) : (didl d vm vo vs)[37 + j]? = ([vm, vo, .int .i64 d.steps, vs] : List Value)[j]? := by
  unfold didl
  rw [List.getElem?_append_right (by rw [hlist_len h]; omega), hlist_len h, Nat.add_sub_cancel_left]
theorem didl_setTail (h : d.h.regs.length = 32) {j : Nat} {v : Value} {d' : RunD} {vm' vo' vs' : Value} (hh : d'.h = d.h) (e : ([vm', vo', .int .i64 d'.steps, vs'] : List Value) = ([vm, vo, .int .i64 d.steps, vs] : List Value).set j v) :
    (didl d vm vo vs).set (37 + j) v = didl d' vm' vo' vs' := by
  unfold didl
  rw [List.set_append_right _ _ (by rw [hlist_len h]; omega), hlist_len h, Nat.add_sub_cancel_left, hh, e]
theorem D8.lt (h : D8 rp TO TS w d vm vo vs) : rp < w.heap.size := by
  have h1 := h.at_ 0 (by rw [didl_len h.wf.len]; omega)
  exact lt_of_cell h1
theorem D8.below (h : D8 rp TO TS w d vm vo vs) (hb : Below w.heap.size w w') : D8 rp TO TS w' d vm vo vs :=
  ⟨h.wf, h.bytes, h.at_.below hb, fun o => (hb.frozen (p := ⟨rp, o, none⟩) h.lt).trans (h.frz o), h.mem.below hb, owns_below h.out hb, owns_below h.sto hb, fun hn q e => by have := h.mlt hn q e; exact ⟨Nat.lt_of_lt_of_le this.1 hb.size, this.2⟩, h.apart⟩
theorem D8.steps (h : D8 rp TO TS w d vm vo vs) (n : Int) : D8 rp TO TS (w.setCell ⟨rp, 39, none⟩ (.int .i64 n)) { d with steps := n } vm vo vs ∧ G7 rp w vo vs (w.setCell ⟨rp, 39, none⟩ (.int .i64 n)) vo vs := by
  refine ⟨⟨h.wf, h.bytes, ?_, fun o => (World.frozen?_setCell _ _ _ _).trans (h.frz o), r7ints_keep h.mem (fun hn q e => Below.heap_setCell _ _ _ _ (by show q ≠ rp; exact (h.mlt hn q e).2.1)), ownsRow_setCell_below h.out (a := ⟨rp, 39, none⟩) (Nat.lt_succ_self rp) _, ownsRow_setCell_below h.sto (a := ⟨rp, 39, none⟩) (Nat.lt_succ_self rp) _, fun hn q e => by have := h.mlt hn q e; exact ⟨by simpa using this.1, this.2⟩, h.apart⟩, G7.set 39 _⟩
  have := h.at_.set 39 (by rw [didl_len h.wf.len]; omega) (.int .i64 n)
  rw [Nat.zero_add, didl_setTail (j := 2) (d' := { d with steps := n }) (vm' := vm) (vo' := vo) (vs' := vs) h.wf.len rfl rfl] at this
  exact this
theorem D8.hart (h : D8 rp TO TS w d vm vo vs) (x : Hart) (wx : x.Wf) : D8 rp TO TS (w.setCells rp 0 (hlist x)) { d with h := x } vm vo vs ∧ G7 rp w vo vs (w.setCells rp 0 (hlist x)) vo vs := by
  have hk : ∀ k, k ≠ rp → (w.setCells rp 0 (hlist x)).heap[k]? = w.heap[k]? := fun k hk => heap_setCells hk _ _ _
  have hth : w.there rp 0 (hlist x).length := fun j hj => by
    have h1 := h.at_ j (by rw [didl_len h.wf.len]; rw [hlist_len wx.len] at hj; omega)
    exact ⟨by rw [h1]; rfl, h.frz _⟩
  have hz : (w.setCells rp 0 (hlist x)).heap.size = w.heap.size := by simp [size_setCells]
  have hB := below_setCells (B := rp) (Nat.le_refl rp) (hlist x) 0 w (Below.refl rp w)
  refine ⟨⟨wx, h.bytes, ?_, fun o => by rw [World.frozen?_setCells]; exact h.frz o, r7ints_keep h.mem (fun hn q e => hk q (h.mlt hn q e).2.1), owns_block h.out (fun g e => hk g (by have := (h.out.lt g e).1; omega)), owns_block h.sto (fun g e => hk g (by have := (h.sto.lt g e).1; omega)), fun hn q e => by rw [hz]; exact h.mlt hn q e, h.apart⟩, ⟨hB.os, hB.tape, hB.output, by rw [hz]; exact Nat.le_refl _, fun k _ h1 _ _ => hk k h1, fun _ e => .inl e, fun _ e => .inl e⟩⟩
  show At _ rp 0 (hlist x ++ [vm, vo, .int .i64 d.steps, vs])
  refine At.append (at_set_all hth) ?_
  intro j hj
  have h2 := h.at_.append_right j hj
  rw [hlist_len wx.len]
  rw [hlist_len h.wf.len] at h2
  refine (World.cell?_setCells_out _ _ _ _ _ (fun _ _ => by simp [hlist_len wx.len])).trans h2
theorem D8.bytes_ (h : D8 rp TO TS w d vm vo vs) {m' : List Int} (hm : Ints .u8 w vm' m') (hf : m' ≠ [] → ∀ q, vm'.ownBlock = some q → q < w.heap.size ∧ q ≠ rp ∧ vo.ownBlock ≠ some q ∧ vs.ownBlock ≠ some q) (hby : Bytes m') :
    D8 rp TO TS (w.setCell ⟨rp, 37, none⟩ vm') { d with m := m' } vm' vo vs ∧ G7 rp w vo vs (w.setCell ⟨rp, 37, none⟩ vm') vo vs := by
  refine ⟨⟨h.wf, hby, ?_, fun o => (World.frozen?_setCell _ _ _ _).trans (h.frz o), r7ints_keep hm (fun hn q e => Below.heap_setCell _ _ _ _ (by show q ≠ rp; exact (hf hn q e).2.1)), ownsRow_setCell_below h.out (a := ⟨rp, 37, none⟩) (Nat.lt_succ_self rp) _, ownsRow_setCell_below h.sto (a := ⟨rp, 37, none⟩) (Nat.lt_succ_self rp) _, fun hn q e => by have := hf hn q e; exact ⟨by simpa using this.1, this.2⟩, h.apart⟩, G7.set 37 _⟩
  have := h.at_.set 37 (by rw [didl_len h.wf.len]; omega) vm'
  rw [Nat.zero_add, didl_setTail (j := 0) (d' := { d with m := m' }) (vm' := vm') (vo' := vo) (vs' := vs) h.wf.len rfl rfl] at this
  exact this
theorem D8.out_ (h : D8 rp TO TS w d vm vo vs) {xs : List Int} (hown : w3.ownsRow (rp + 1) TO 1 v' (d.out.length + xs.length) (d.out.map (Value.int .u32) ++ xs.map (Value.int .u32))) (hg : w.grownBy w3 vo.ownBlock) (hk : ∀ k, v'.ownBlock = some k → vo.ownBlock = some k ∨ w.heap.size ≤ k) :
    D8 rp TO TS (w3.setCell ⟨rp, 38, none⟩ v') { d with out := d.out ++ xs } vm v' vs ∧ G7 rp w vo vs (w3.setCell ⟨rp, 38, none⟩ v') v' vs := by
  have hrp : vo.ownBlock ≠ some rp := fun e => by have := (h.out.lt rp e).1; omega
  have e2 : ∀ k, k < w.heap.size → vo.ownBlock ≠ some k → w3.heap[k]? = w.heap[k]? := fun k hk1 hk2 => hg.block k hk1 (fun e => hk2 e.symm)
  have hat : At w3 rp 0 (didl d vm vo vs) := fun j hj => (World.cell?_of_block (e2 rp h.lt hrp)).trans (h.at_ j hj)
  have hmem : Ints .u8 w3 vm d.m := r7ints_keep h.mem (fun hn q e => by have hq := h.mlt hn q e; exact e2 q hq.1 hq.2.2.1)
  have hsto : w3.ownsRow (rp + 1) TS 2 vs d.stores.length (d.stores.flatMap rg) := owns_block h.sto (fun g e => e2 g (h.sto.lt g e).2 (fun e4 => h.apart g e4 e))
  refine ⟨⟨h.wf, h.bytes, ?_, fun o => (World.frozen?_setCell _ _ _ _).trans ((World.frozen?_of_block (e2 rp h.lt hrp)).trans (h.frz o)), ?_, ?_, ?_, fun hn q e => ?_, fun q e e3 => ?_⟩, ?_⟩
  · have := hat.set 38 (by rw [didl_len h.wf.len]; omega) v'
    rw [Nat.zero_add, didl_setTail (j := 1) (d' := { d with out := d.out ++ xs }) (vm' := vm) (vo' := v') (vs' := vs) h.wf.len rfl rfl] at this
    exact this
  · exact r7ints_keep hmem (fun hn q e => Below.heap_setCell _ _ _ _ (by show q ≠ rp; exact (h.mlt hn q e).2.1))
  · have := ownsRow_setCell_below hown (a := ⟨rp, 38, none⟩) (Nat.lt_succ_self rp) v'
    simpa using this
  · exact ownsRow_setCell_below hsto (a := ⟨rp, 38, none⟩) (Nat.lt_succ_self rp) v'
  · have hq := h.mlt hn q e
    refine ⟨by have := hg.size; simp; omega, hq.2.1, fun e3 => ?_, hq.2.2.2⟩
    rcases hk q e3 with e4 | e4
    · exact hq.2.2.1 e4
    · omega
  · rcases hk q e with e4 | e4
    · exact h.apart q e4 e3
    · have := (h.sto.lt q e3).2; omega
  · refine ⟨hg.os, hg.tape, hg.output, ?_, fun k hk1 hk2 hk3 hk4 => ?_, fun q e => hk q e, fun q e => .inl e⟩
    · have := hg.size; simp; omega
    · rw [Below.heap_setCell _ _ _ _ (by show k ≠ rp; exact hk2)]
      exact e2 k hk1 hk3
theorem D8.sto_ (h : D8 rp TO TS w d vm vo vs) {p : Int × Int} (hb : Below w.heap.size w w2) (hown : w3.ownsRow (rp + 1) TS 2 v' (d.stores.length + 1) (d.stores.flatMap rg ++ rg p)) (hg : w2.grownBy w3 vs.ownBlock) (hk : ∀ k, v'.ownBlock = some k → vs.ownBlock = some k ∨ w2.heap.size ≤ k) :
    D8 rp TO TS (w3.setCell ⟨rp, 40, none⟩ v') { d with stores := d.stores ++ [p] } vm vo v' ∧ G7 rp w vo vs (w3.setCell ⟨rp, 40, none⟩ v') vo v' := by
  have h2 := h.below hb
  have hrp : vs.ownBlock ≠ some rp := fun e => by have := (h2.sto.lt rp e).1; omega
  have e2 : ∀ k, k < w2.heap.size → vs.ownBlock ≠ some k → w3.heap[k]? = w2.heap[k]? := fun k hk1 hk2 => hg.block k hk1 (fun e => hk2 e.symm)
  have hat : At w3 rp 0 (didl d vm vo vs) := fun j hj => (World.cell?_of_block (e2 rp h2.lt hrp)).trans (h2.at_ j hj)
  have hmem : Ints .u8 w3 vm d.m := r7ints_keep h2.mem (fun hn q e => by have hq := h2.mlt hn q e; exact e2 q hq.1 hq.2.2.2)
  have hout : w3.ownsRow (rp + 1) TO 1 vo d.out.length (d.out.map (Value.int .u32)) := owns_block h2.out (fun g e => e2 g (h2.out.lt g e).2 (h2.apart g e))
  refine ⟨⟨h.wf, h.bytes, ?_, fun o => (World.frozen?_setCell _ _ _ _).trans ((World.frozen?_of_block (e2 rp h2.lt hrp)).trans (h2.frz o)), ?_, ?_, ?_, fun hn q e => ?_, fun q e e3 => ?_⟩, ?_⟩
  · have := hat.set 40 (by rw [didl_len h.wf.len]; omega) v'
    rw [Nat.zero_add, didl_setTail (j := 3) (d' := { d with stores := d.stores ++ [p] }) (vm' := vm) (vo' := vo) (vs' := v') h.wf.len rfl rfl] at this
    exact this
  · exact r7ints_keep hmem (fun hn q e => Below.heap_setCell _ _ _ _ (by show q ≠ rp; exact (h2.mlt hn q e).2.1))
  · exact ownsRow_setCell_below hout (a := ⟨rp, 40, none⟩) (Nat.lt_succ_self rp) v'
  · have := ownsRow_setCell_below hown (a := ⟨rp, 40, none⟩) (Nat.lt_succ_self rp) v'
    simpa using this
  · have hq := h2.mlt hn q e
    refine ⟨by have := hg.size; simp; omega, hq.2.1, hq.2.2.1, fun e3 => ?_⟩
    rcases hk q e3 with e4 | e4
    · exact hq.2.2.2 e4
    · omega
  · rcases hk q e3 with e4 | e4
    · exact h2.apart q e e4
    · have := (h2.out.lt q e).2; omega
  · refine ⟨hg.os.trans hb.os, hg.tape.trans hb.tape, hg.output.trans hb.output, ?_, fun k hk1 hk2 hk3 hk4 => ?_, fun q e => .inl e, fun q e => ?_⟩
    · have := hb.size; have := hg.size; simp; omega
    · rw [Below.heap_setCell _ _ _ _ (by show k ≠ rp; exact hk2), e2 k (by have := hb.size; omega) hk4]
      exact hb.block k hk1
    · rcases hk q e with e4 | e4
      · exact .inl e4
      · exact .inr (Nat.le_trans hb.size e4)
theorem d8_all (h : D8 rp TO TS w d vm vo vs) : (didl d vm vo vs).toArray.all (·.oneCell') = true := by
  obtain ⟨a1, c1, e1, -⟩ := h.mem.open
  obtain ⟨a2, c2, e2⟩ := owns_slice h.out
  obtain ⟨a3, c3, e3⟩ := owns_slice h.sto
  rw [Array.all_eq_true']
  intro v hv
  have hv' : v ∈ didl d vm vo vs := by simpa using hv
  rcases List.mem_append.1 hv' with h1 | h1
  · exact hlist_one d.h v (by simpa [hcells] using h1)
  · simp only [List.mem_cons, List.not_mem_nil, or_false] at h1
    rcases h1 with rfl | rfl | rfl | rfl
    · rw [e1]; rfl
    · rw [e2]; rfl
    · rfl
    · rw [e3]; rfl
theorem d8_shown {R : Nat} {TD : TypeId} (h : D8 rp TO TS w d vm vo vs) (hR : R < rp) (hz : w.heap[R]? = some (.cells (didl0 hart0 (.slice none 0 0)).toArray TD (0, 0))) (us : List Value) :
    Ints .u8 (w.setCells R 0 us) vm d.m ∧ Ints .u32 (w.setCells R 0 us) vo d.out ∧ Sl (w.setCells R 0 us) vs 2 d.stores.length (d.stores.flatMap rg) := by
  refine ⟨r7ints_keep h.mem (fun hn q e => heap_setCells (fun e2 => ?_) _ _ _), ?_, ?_⟩
  · subst e2; exact bytes_not h.mem hn e hz
  · exact owns_sl (r7owns_sets (show R < rp + 1 by omega) us 0 w h.out)
  · exact owns_sl (r7owns_sets (show R < rp + 1 by omega) us 0 w h.sto)
end
end Go.Proofs.Ytlfnddmncbkjaab.Fb
