import Derived.Test.YtlfnddmncbkjaacZGD
import Derived.Test.YtlfnddmncbkjaacZWPlay
set_option linter.unusedVariables false
set_option linter.unusedSimpArgs false
set_option maxRecDepth 100000
set_option maxHeartbeats 4000000
namespace Go.Proofs.Ytlfnddmncbkjaac.W
open Go.RowKit Fb
theorem ucell_of {w : World} {b o : Nat} {cs : Array Value} {t : TypeId} {v : Value} (h : w.heap[b]? = some (.cells cs t (0, 0))) (hv : cs[o]? = some v) : w.cell? ⟨b, o, none⟩ = some v := by
  unfold World.cell?; rw [h]; simpa using hv
theorem frz_of {w : World} {b : Nat} {cs : Array Value} {t : TypeId} (h : w.heap[b]? = some (.cells cs t (0, 0))) (o : Nat) : w.frozen? ⟨b, o, none⟩ = false := by simp [World.frozen?, h]
theorem heap_fill2 {w : World} {b : Nat} {x y : Value} {t : TypeId} (h : w.heap[b]? = some (.cells #[x, y] t (0, 0))) (u v : Value) : ((w.setCell ⟨b, 0, none⟩ u).setCell ⟨b, 1, none⟩ v).heap[b]? = some (.cells #[u, v] t (0, 0)) := by
  simp [World.setCell, Array.getElem?_modify, h]
theorem Picks.one {w : World} {b : Nat} {k n : Int} (h : At w b 0 [.int .i64 k, .int .i64 n]) : Picks w (.slice (some ⟨b, 0, none⟩) 1 1) [(k, n)] := Sl.mk (n := 1) h rfl (Nat.le_refl _) zN
theorem wpList_buildSlice1 {P : Program} {ops : Array Oper} {rest : List Oper} {o : Oper} {a : Act} {w : World} {Q : Exit → Act → World → Prop} (hgd : o.guard = none) (t : TypeId) (x : Operand)
    (ho : o.op = .buildSlice t 1 #[(0, x)]) (v : Value) (hx : a.eval x = v) (w' : World) (y : Value)
    (hr : (Instr.buildSlice t 1 #[(0, v)]).run P w = .ok y w') (h : wpList P ops Q rest (a.put o.dst y) w') : wpList P ops Q (o :: rest) a w :=
  wpList_plain hgd fun K hK => by
    unfold Oper.wp execOp
    simp only [ho, Sem.run_bind, Sem.run_pure, Result.andThen_ok, List.map_toArray, List.map_cons, List.map_nil, hx, hr]
    exact hK _ _ h
structure DN (B nb bh hc : Nat) (vm v : Value) (us : List UndD) (w0 wr : World) (s : St) (l : List UndoD) : Prop where
  blk : wr.heap[nb]? = some (.cells #[vm, .slice (some ⟨bh, 0, none⟩) s.harts.length hc] 25 (0, 0))
  bytes : Ints .u8 wr vm s.mem
  harts : At wr bh 0 (s.harts.flatMap hlist)
  hlt : bh < wr.heap.size
  hcap : s.harts.length ≤ hc ∧ hc ≤ maxLen
  am : s.mem ≠ [] → ∀ q, vm.ownBlock = some q → q ≠ nb ∧ v.ownBlock ≠ some q
  ah : bh ≠ nb ∧ v.ownBlock ≠ some bh
  up : Up B 93 5 95 wr v us
  eq : us.map (·.d) = l
  good : s.Good
  bel : Below B w0 wr
  nbb : B ≤ nb
theorem DN.below {B nb bh hc : Nat} {vm v : Value} {us : List UndD} {w0 wr w' : World} {s : St} {l : List UndoD} (h : DN B nb bh hc vm v us w0 wr s l) (hB : B ≤ wr.heap.size) (hb : Below wr.heap.size wr w') : DN B nb bh hc vm v us w0 w' s l :=
  ⟨(hb.block nb (heap_lt h.blk)).trans h.blk, h.bytes.below hb, h.harts.below hb, Nat.lt_of_lt_of_le h.hlt hb.size, h.hcap, h.am, h.ah, h.up.below hb, h.eq, h.good, h.bel.trans (hb.mono hB), h.nbb⟩
theorem DN.mach {B nb bh hc : Nat} {vm v : Value} {us : List UndD} {w0 wr : World} {s : St} {l : List UndoD} (h : DN B nb bh hc vm v us w0 wr s l) : MachAt wr vm (.slice (some ⟨bh, 0, none⟩) s.harts.length hc) s.mach := by
  refine ⟨h.bytes, Sl.mk h.harts ?_ h.hcap.1 h.hcap.2⟩
  have : ∀ l : List Hart, (∀ x ∈ l, x.Wf) → (l.flatMap hlist).length = l.length * 37 := fun l => by
    induction l with
    | nil => intro _; rfl
    | cons x r ih =>
      intro hx
      rw [List.flatMap_cons, List.length_append, hlist_length (hx x zH), ih (fun y hy => hx y yQ), List.length_cons]
      omega
  exact this s.harts h.good.wf.harts
theorem mach_open {w : World} {vm : Value} {bh hc n : Nat} {m : Mach} (h : MachAt w vm (.slice (some ⟨bh, 0, none⟩) n hc) m) (hn : 1 ≤ m.harts.length) (wf : ∀ x ∈ m.harts, x.Wf) : Ints .u8 w vm m.mem ∧ At w bh 0 (m.harts.flatMap hlist) ∧ n = m.harts.length ∧ n ≤ hc ∧ hc ≤ maxLen ∧ bh < w.heap.size := by
  obtain ⟨h1, h2, ao, cap, h3, h4, h5, h6, h7⟩ := h
  injection h3 with e1 e2 e3
  subst e1
  have hne : m.harts.flatMap hlist ≠ [] := by
    intro e
    have := congrArg List.length e
    rw [h2] at this
    simp at this
    omega
  have hat := (h7 _ rfl hne).2
  exact ⟨h1, hat, e2, om, om, lt_of_cell (hat 0 (List.length_pos_iff.2 hne))⟩
theorem DN.step {B nb bh hc bh' hc' k : Nat} {vm v vm' v' : Value} {us : List UndD} {w0 wr w1 w2 : World} {s : St} {l : List UndoD} {x : UndD} (h : DN B nb bh hc vm v us w0 wr s l) (hB : B ≤ wr.heap.size) (hb : Below wr.heap.size wr w1) (hst : (s.hart k).state = 0) (h1l : 1 ≤ s.harts.length)
    (hd : x.d = undoOf k s) (hby : w1.ownsRow B 5 1 x.vb x.d.bytes.length (x.d.bytes.map (Value.int .u8))) (hlo : w1.ownsRow B 95 2 x.vl x.d.lost.length (x.d.lost.flatMap llist))
    (hm : MachAt w1 vm' (.slice (some ⟨bh', 0, none⟩) (goM k s).harts.length hc') (goM k s).mach) (fm : (goM k s).mem ≠ [] → ∀ q, vm'.ownBlock = some q → wr.heap.size ≤ q) (fh : wr.heap.size ≤ bh')
    (hown : w2.ownsRow B 93 41 v' (us.length + 1) (us.flatMap ulist ++ ulist x)) (hg : w1.grownBy w2 v.ownBlock) (hn : ∀ q, v'.ownBlock = some q → v.ownBlock = some q ∨ w1.heap.size ≤ q) :
    DN B nb bh' hc' vm' v' (us ++ [x]) w0 ((w2.setCell ⟨nb, 0, none⟩ vm').setCell ⟨nb, 1, none⟩ (.slice (some ⟨bh', 0, none⟩) (goM k s).harts.length hc')) (goM k s) (l ++ [undoOf k s]) := by
  have hnl := heap_lt h.blk
  have hs1 := hb.size
  have hs2 := hg.size
  have hvl : ∀ q, v.ownBlock = some q → q < wr.heap.size ∧ q ≠ nb := fun q e => by
    refine ⟨(h.up.own.lt q e).2, fun e2 => ?_⟩
    obtain ⟨cs, f, h3⟩ := own_ty h.up.own e
    rw [e2, h.blk] at h3; cases h3
  have hgo : (goM k s).Good := goM_good h.good hst
  obtain ⟨m1, m2, -, m4, m5, m6⟩ := mach_open hm (by show 1 ≤ (goM k s).harts.length; rw [goM_len]; exact h1l) hgo.wf.harts
  have hbk : ∀ q, q ≠ nb → ((w2.setCell ⟨nb, 0, none⟩ vm').setCell ⟨nb, 1, none⟩ (.slice (some ⟨bh', 0, none⟩) (goM k s).harts.length hc')).heap[q]? = w2.heap[q]? := fun q hq => (Below.heap_setCell _ _ _ _ yN).trans (Below.heap_setCell _ _ _ _ yN)
  have e2 : w2.heap[nb]? = some (.cells #[vm, .slice (some ⟨bh, 0, none⟩) s.harts.length hc] 25 (0, 0)) := (hg.block nb om (fun e => (hvl nb e.symm).2 rfl)).trans ((hb.block nb hnl).trans h.blk)
  have hk2 : ∀ q, wr.heap.size ≤ q → q < w1.heap.size → ((w2.setCell ⟨nb, 0, none⟩ vm').setCell ⟨nb, 1, none⟩ (.slice (some ⟨bh', 0, none⟩) (goM k s).harts.length hc')).heap[q]? = w1.heap[q]? := fun q h1 h2 => (hbk q om).trans (hg.block q h2 (fun e => by have := (hvl q e.symm).1; omega))
  have hup := Up.snoc (x := x) (by decide : 93 ≠ 5) (by decide : 93 ≠ 95) (h.up.below hb) (by rw [hd]; exact h.good.wf.hart k) hby hlo hown hg
  refine ⟨heap_fill2 e2 _ _, ints_move m1 (fun hne q e => hk2 q (fm hne q e) (ints_lt m1 hne e)), fun j hj => (cell_block (hk2 bh' fh m6) _).trans (m2 j hj), ?_, ⟨m4, m5⟩, fun hne q e => ⟨by have := fm hne q e; omega, fun e3 => ?_⟩, ⟨om, fun e3 => ?_⟩, hup.keep (fun q h1 h2 h3 => hbk q (fun e => ?_)), ?_, hgo, ?_, h.nbb⟩
  · simp only [World.setCell, Array.size_modify]; omega
  · have q1 := fm hne q e
    rcases hn q e3 with h5 | h5
    · have := (hvl q h5).1; omega
    · have := ints_lt m1 hne e
      omega
  · rcases hn bh' e3 with h5 | h5
    · have := (hvl bh' h5).1; omega
    · omega
  · obtain ⟨cs, f, h3⟩ := h3
    rw [e, e2] at h3
    rcases h3 with h3 | h3 | h3 <;> cases h3
  · rw [List.map_append, h.eq, List.map_singleton, hd]
  · exact (((h.bel.trans (hb.mono hB)).grown hg om (fun q e => (h.up.own.lt q e).1)).setCell (p := ⟨nb, 0, none⟩) h.nbb _).setCell (p := ⟨nb, 1, none⟩) h.nbb _
end Go.Proofs.Ytlfnddmncbkjaac.W
