import Derived.Test.YtlfnddmncbkjaaaZWBack1
import Derived.Test.YtlfnddmncbkjaaaZWBack2
import Derived.Test.YtlfnddmncbkjaaaZWBegin
import Derived.Test.YtlfnddmncbkjaaaZWMachMay
import Derived.Test.YtlfnddmncbkjaaaZMB
set_option linter.unusedVariables false
set_option linter.unusedSimpArgs false
set_option maxRecDepth 100000
set_option maxHeartbeats 4000000
namespace Go.Proofs.Ytlfnddmncbkjaaa.W
open Go.RowKit Go.Shelf Fb
attribute [local go_sem] Oper.semAt_some
structure BI (B nb bh hc Bs : Nat) (vm : Value) (w0 W : World) (m mc : Mach) : Prop where
  c0 : W.cell? ⟨nb, 0, none⟩ = some vm
  c1 : W.cell? ⟨nb, 1, none⟩ = some (.slice (some ⟨bh, 0, none⟩) mc.harts.length hc)
  harts : At W bh 0 (mc.harts.flatMap hlist)
  hfz : ∀ o, W.frozen? ⟨bh, o, none⟩ = false
  bytes : Ints .u8 W vm mc.mem
  mfz : mc.mem ≠ [] → ∀ q, vm.ownBlock = some q → (B ≤ q ∧ q ≠ nb ∧ q ≠ bh ∧ q ≠ Bs) ∧ ∀ o, W.frozen? ⟨q, o, none⟩ = false
  geo : B ≤ bh ∧ B ≤ nb ∧ nb ≠ bh ∧ Bs ≠ bh ∧ Bs ≠ nb
  hlt : bh < W.heap.size
  len1 : mc.harts.length = m.harts.length ∧ 1 ≤ m.harts.length ∧ m.harts.length ≤ 4
  len2 : mc.mem.length = m.mem.length ∧ m.mem.length ≤ 4096
  wf : mc.Wf
  hcap : mc.harts.length ≤ hc ∧ hc ≤ maxLen
  bel : Below B w0 W
theorem BI.keep {B nb bh hc Bs : Nat} {vm : Value} {w0 W C : World} {m mc : Mach} (h : BI B nb bh hc Bs vm w0 W m mc) (hk : ∀ q, (q = nb ∨ q = bh ∨ (mc.mem ≠ [] ∧ vm.ownBlock = some q)) → C.heap[q]? = W.heap[q]?) (hs : W.heap.size ≤ C.heap.size) (hb : Below B w0 C) : BI B nb bh hc Bs vm w0 C m mc :=
  ⟨(cell_block (hk nb (.inl rfl)) _).trans h.c0, (cell_block (hk nb (.inl rfl)) _).trans h.c1, fun j hj => (cell_block (hk bh (.inr (.inl rfl))) _).trans (h.harts j hj), fun o => (frozen_block (hk bh (.inr (.inl rfl))) o).trans (h.hfz o), ints_move h.bytes (fun hne q e => hk q (.inr (.inr ⟨hne, e⟩))),
    fun hne q e => ⟨(h.mfz hne q e).1, fun o => (frozen_block (hk q (.inr (.inr ⟨hne, e⟩))) o).trans ((h.mfz hne q e).2 o)⟩, h.geo, Nat.lt_of_lt_of_le h.hlt hs, h.len1, h.len2, h.wf, h.hcap, hb⟩
theorem BI.ne {B nb bh hc Bs : Nat} {vm : Value} {w0 W : World} {m mc : Mach} (h : BI B nb bh hc Bs vm w0 W m mc) : mc.harts.flatMap hlist ≠ [] := by
  have h1 := h.len1
  cases e : mc.harts with
  | nil => rw [e] at h1; simp at h1; omega
  | cons x r =>
    intro e2
    have := congrArg List.length e2
    rw [List.flatMap_cons, List.length_append, hlist_length (h.wf.harts x (by rw [e]; simp))] at this
    simp at this
theorem BI.own {B nb bh hc Bs B' : Nat} {vm : Value} {w0 A C : World} {m mc : Mach} {row : Option Nat} (h : BI B nb bh hc Bs vm w0 A m mc) (hB : B ≤ B') (hg : A.grownBy C row) (hr : ∀ r, row = some r → B' ≤ r ∧ ∃ o : Obj, A.heap[r]? = some o ∧ o.isCells = false) : BI B nb bh hc Bs vm w0 C m mc := by
  have hr2 := fun r e => (hr r e).2
  refine h.keep (fun q hq => ?_) hg.size (h.bel.grown hg (by have := h.hlt; have := h.geo; omega) (fun k e => Nat.le_trans hB (hr k e).1))
  rcases hq with rfl | rfl | ⟨hne, e⟩
  · exact heap_kept h.c0 hg hr2
  · exact heap_kept (h.harts 0 (List.length_pos_iff.2 h.ne)) hg hr2
  · obtain ⟨ao, cap, rfl, _, _, _, ho⟩ := h.bytes.open
    obtain ⟨b, off, rfl, _, hx⟩ := ho hne
    cases e
    exact heap_kept (hx 0 (List.length_pos_iff.2 hne)) hg hr2
theorem cell_setCells_out {b o : Nat} : ∀ (vs : List Value) (i : Nat), (o < i ∨ i + vs.length ≤ o) → ∀ (W : World), (W.setCells b i vs).cell? ⟨b, o, none⟩ = W.cell? ⟨b, o, none⟩
  | [], _, _, _ => rfl
  | v :: r, i, h, W => by
    rw [List.length_cons] at h
    show ((W.setCell ⟨b, i, none⟩ v).setCells b (i + 1) r).cell? _ = _
    rw [cell_setCells_out r (i + 1) (by omega) _]
    exact World.cell?_setCell_other _ _ _ _ (by intro e; injection e with _ e2; omega)
theorem BI.hartTo {B nb bh hc Bs : Nat} {vm : Value} {w0 W C : World} {m mc : Mach} (h : BI B nb bh hc Bs vm w0 W m mc) {k : Nat} {x : Hart} (hx : x.Wf) (hk : ∀ q, q ≠ bh → C.heap[q]? = W.heap[q]?) (hs : C.heap.size = W.heap.size) (hat : At C bh (k * 37) (hlist x)) (hc' : ∀ o, (o < k * 37 ∨ k * 37 + 37 ≤ o) → C.cell? ⟨bh, o, none⟩ = W.cell? ⟨bh, o, none⟩) (hf : ∀ o, C.frozen? ⟨bh, o, none⟩ = false) (hb : Below B w0 C) :
    BI B nb bh hc Bs vm w0 C m { mc with harts := mc.harts.set k x } := by
  obtain ⟨g1, g2, g3, g4, g5⟩ := h.geo
  have hnb := hk nb g3
  refine ⟨(cell_block hnb _).trans h.c0, by show _ = some (Value.slice _ (mc.harts.set k x).length hc); rw [List.length_set]; exact (cell_block hnb _).trans h.c1, at_harts_set h.harts (fun y hy => hlist_length (h.wf.harts y hy)) (hlist_length hx) hat hc', hf, ints_move h.bytes (fun hne q e => hk q (h.mfz hne q e).1.2.2.1),
    fun hne q e => ⟨(h.mfz hne q e).1, fun o => (frozen_block (hk q (h.mfz hne q e).1.2.2.1) o).trans ((h.mfz hne q e).2 o)⟩, h.geo, by rw [hs]; exact h.hlt, by show (mc.harts.set k x).length = _ ∧ _; rw [List.length_set]; exact h.len1, h.len2, ⟨h.wf.mem, fun y hy => ?_⟩, by show (mc.harts.set k x).length ≤ _ ∧ _; rw [List.length_set]; exact h.hcap, hb⟩
  rcases List.mem_or_eq_of_mem_set hy with hy | rfl
  · exact h.wf.harts y hy
  · exact hx
theorem BI.hart {B nb bh hc Bs : Nat} {vm : Value} {w0 W : World} {m mc : Mach} (h : BI B nb bh hc Bs vm w0 W m mc) {k : Nat} {x : Hart} (hx : x.Wf) (hk : k < mc.harts.length) :
    BI B nb bh hc Bs vm w0 (W.setCells bh (k * 37) (hcells x).toList) m { mc with harts := mc.harts.set k x } ∧ W.there bh (k * 37) (hcells x).size := by
  have hat0 := at_hart h.harts (fun y hy => hlist_length (h.wf.harts y hy)) hk
  have hl : (hlist mc.harts[k]).length = 37 := hlist_length (h.wf.harts _ (List.getElem_mem hk))
  have hth : W.there bh (k * 37) 37 := there_at hat0 hl h.hfz
  have h37 : (hcells x).toList.length = 37 := by simp [hcells, hlist_length hx]
  have hz : (hcells x).size = 37 := hcells_size hx
  refine ⟨h.hartTo hx (fun q hq => heap_setCells hq _ _ _) (size_setCells _ _ _ _) ?_ (fun o ho => ?_) (fun o => by rw [World.frozen?_setCells]; exact h.hfz o) (below_setCells h.geo.1 _ _ _ h.bel), by rw [hz]; exact hth⟩
  · have := at_set_all (w := W) (b := bh) (o := k * 37) (vs := (hcells x).toList) (by rw [h37]; exact hth)
    simpa [hcells] using this
  · exact cell_setCells_out (hcells x).toList _ (by rw [h37]; exact ho) W
theorem BI.reset {B nb bh hc Bs : Nat} {vm : Value} {w0 W : World} {m mc : Mach} (h : BI B nb bh hc Bs vm w0 W m mc) {k : Nat} {a : Int} (ha : U32 a) (hk : k < mc.harts.length) :
    BI B nb bh hc Bs vm w0 ((W.setCell ⟨bh, k * 37 + 33, none⟩ (.bool true)).setCell ⟨bh, k * 37 + 34, none⟩ (.int .u32 a)) m { mc with harts := reset1 ((k : Int), a) mc.harts } := by
  have hat0 := at_hart h.harts (fun y hy => hlist_length (h.wf.harts y hy)) hk
  have wf := h.wf.harts _ (List.getElem_mem hk)
  have hl : (hlist mc.harts[k]).length = 37 := hlist_length wf
  have e : reset1 ((k : Int), a) mc.harts = mc.harts.set k { mc.harts[k] with held := true, heldAt := a } := by
    unfold reset1
    simp only [Int.toNat_natCast]
    rw [List.getD_eq_getElem?_getD, List.getElem?_eq_getElem hk]
    rfl
  rw [e]
  refine h.hartTo ⟨wf.len, wf.regs, wf.pc, ha, wf.state, wf.cause⟩ (fun q hq => (Below.heap_setCell _ _ _ _ (by show q ≠ bh; exact hq)).trans (Below.heap_setCell _ _ _ _ (by show q ≠ bh; exact hq))) (by simp [World.setCell]) ?_ (fun o ho => ?_) (fun o => (World.frozen?_setCell _ _ _ _).trans ((World.frozen?_setCell _ _ _ _).trans (h.hfz o))) ((h.bel.setCell (p := ⟨bh, k * 37 + 33, none⟩) h.geo.1 _).setCell (p := ⟨bh, k * 37 + 34, none⟩) h.geo.1 _)
  · have h1 := (hat0.set 33 (by omega) (.bool true)).set 34 (by rw [List.length_set]; omega) (.int .u32 a)
    rw [← hlist_setHeld wf.len, ← hlist_setHeldAt (h := { mc.harts[k] with held := true }) wf.len] at h1
    exact h1
  · exact (World.cell?_setCell_other _ _ _ _ (by intro e; injection e with _ e2; omega)).trans (World.cell?_setCell_other _ _ _ _ (by intro e; injection e with _ e2; omega))
theorem BI.copy {B nb bh hc Bs mb off cap : Nat} {w0 W : World} {m mc : Mach} (h : BI B nb bh hc Bs (.slice (some ⟨mb, off, none⟩) mc.mem.length cap) w0 W m mc) {f : Int} {bs : List Int} (h0 : 0 ≤ f) (hf : f + bs.length ≤ mc.mem.length) (hbs : Bytes bs) (hne : bs ≠ []) :
    BI B nb bh hc Bs (.slice (some ⟨mb, off, none⟩) mc.mem.length cap) w0 (W.setCells mb (off + f.toNat) (bs.map (Value.int .u8))) m { mc with mem := patch mc.mem f bs } ∧ (∀ j, j < bs.length → (W.cell? ⟨mb, off + f.toNat + j, none⟩).isSome = true) ∧ ∀ o, W.frozen? ⟨mb, o, none⟩ = false := by
  have hl : 0 < bs.length := List.length_pos_iff.2 hne
  have hm : mc.mem ≠ [] := by intro e; rw [e] at hf; simp at hf; omega
  obtain ⟨⟨q1, q2, q3, q4⟩, q5⟩ := h.mfz hm mb rfl
  obtain ⟨n1, ao, c', e1, n2, n3, n4, n5⟩ := h.bytes
  injection e1 with e2 e3 e4
  subst e2 e4
  have hat := (n5 _ rfl (by intro e; exact hm (List.map_eq_nil_iff.1 e))).2
  simp only at hat
  have hpl := patch_len h0 hf
  obtain ⟨k, rfl⟩ := Int.eq_ofNat_of_zero_le h0
  have hk : k + bs.length ≤ mc.mem.length := by omega
  rw [Int.toNat_natCast]
  have hcl : ∀ j, j < bs.length → (W.cell? ⟨mb, off + k + j, none⟩).isSome = true := fun j hj => by
    rw [Nat.add_assoc, hat (k + j) (by rw [List.length_map]; omega)]; rfl
  have hth : W.there mb (off + k) (bs.map (Value.int .u8)).length := fun j hj => ⟨hcl j (by rw [List.length_map] at hj; exact hj), q5 _⟩
  have hout : ∀ o, (o < off + k ∨ off + k + bs.length ≤ o) → (W.setCells mb (off + k) (bs.map (Value.int .u8))).cell? ⟨mb, o, none⟩ = W.cell? ⟨mb, o, none⟩ := fun o ho => cell_setCells_out _ _ (by rw [List.length_map]; exact ho) W
  have hmid : At (W.setCells mb (off + k) (bs.map (Value.int .u8))) mb (off + k) (bs.map (Value.int .u8)) := at_set_all hth
  have hbk : ∀ q, q ≠ mb → (W.setCells mb (off + k) (bs.map (Value.int .u8))).heap[q]? = W.heap[q]? := fun q hq => heap_setCells hq _ _ _
  have hnew : At (W.setCells mb (off + k) (bs.map (Value.int .u8))) mb off ((patch mc.mem (k : Int) bs).map (Value.int .u8)) := by
    unfold patch
    rw [Int.toNat_natCast, List.map_append, List.map_append]
    have htk : (mc.mem.take k).length = k := by rw [List.length_take]; omega
    refine At.append (At.append (fun j hj => ?_) ?_) (fun j hj => ?_)
    · rw [List.length_map, htk] at hj
      rw [hout _ (by omega), hat j (by rw [List.length_map]; omega)]
      simp
    · rw [List.length_map, htk]; exact hmid
    · rw [List.length_append, List.length_map, List.length_map, htk]
      rw [List.length_map, List.length_drop] at hj
      rw [hout _ (by omega), show off + (k + bs.length) + j = off + (k + bs.length + j) by omega, hat _ (by rw [List.length_map]; omega)]
      simp
  refine ⟨⟨(cell_block (hbk nb (Ne.symm q2)) _).trans h.c0, (cell_block (hbk nb (Ne.symm q2)) _).trans h.c1, fun j hj => (cell_block (hbk bh (Ne.symm q3)) _).trans (h.harts j hj), fun o => (frozen_block (hbk bh (Ne.symm q3)) o).trans (h.hfz o), ?_, fun _ q e => ?_, h.geo, by rw [size_setCells]; exact h.hlt, h.len1, ⟨hpl.trans h.len2.1, h.len2.2⟩, ⟨?_, h.wf.harts⟩, h.hcap, below_setCells q1 _ _ _ h.bel⟩, hcl, q5⟩
  · refine ⟨by simp, _, cap, by rw [hpl], by rw [hpl]; exact n2, n3, (by intro e; cases e), fun a ha _ => ?_⟩
    cases ha
    exact ⟨rfl, hnew⟩
  · obtain rfl : mb = q := by cases e; rfl
    exact ⟨⟨q1, q2, q3, q4⟩, fun o => by rw [World.frozen?_setCells]; exact q5 o⟩
  · intro x hx
    unfold patch at hx
    rcases List.mem_append.1 hx with hx | hx
    · rcases List.mem_append.1 hx with hx | hx
      · exact h.wf.mem x (List.mem_of_mem_take hx)
      · exact hbs x hx
    · exact h.wf.mem x (List.mem_of_mem_drop hx)
end Go.Proofs.Ytlfnddmncbkjaaa.W
