import Derived.Test.YtlfnddmncbkjaacZGD
import Derived.Test.YtlfnddmncbkjaacZWPlay
set_option linter.unusedVariables false
set_option linter.unusedSimpArgs false
set_option maxRecDepth 100000
set_option maxHeartbeats 4000000
namespace Go.Proofs.Ytlfnddmncbkjaac.W
open Go.RowKit Fb
theorem ucell_of {w : World} {b o : Nat} {cs : Array Value} {t : TypeId} {v : Value} (h : w.heap[b]? = some (.cells cs t (0, 0))) (hv : cs[o]? = some v) : w.cell? ⟨b, o, none⟩ = some v := by
  unfold World.cell?; rw [h]; simpa using hv
theorem frz_of {w : World} {b : Nat} {cs : Array Value} {t : TypeId} (h : w.heap[b]? = some (.cells cs t (0, 0))) (o : Nat) : w.frozen? ⟨b, o, none⟩ = false := by simp [World.frozen?, h]
theorem heap_fill2 {w : World} {b : Nat} {x y : Value} {t : TypeId} (h : w.heap[b]? = some (.cells #[x, y] t (0, 0))) (u v : Value) : ((w.setCell ⟨b, 0, none⟩ u).setCell ⟨b, 1, none⟩ v).heap[b]? = some (.cells #[u, v] t (0, 0)) := by
  simp [World.setCell, Array.getElem?_modify, h]
theorem Picks.one {w : World} {b : Nat} {k n : Int} (h : At w b 0 [.int .i64 k, .int .i64 n]) : Picks w (.slice (some ⟨b, 0, none⟩) 1 1) [(k, n)] := Sl.mk (n := 1) h rfl (Nat.le_refl _) (by decide)
theorem wpList_buildSlice1 {P : Program} {ops : Array Oper} {rest : List Oper} {o : Oper} {a : Act} {w : World} {Q : Exit → Act → World → Prop} (hgd : o.guard = none) (t : TypeId) (x : Operand)
    (ho : o.op = .buildSlice t 1 #[(0, x)]) (v : Value) (hx : a.eval x = v) (w' : World) (y : Value)
    (hr : (Instr.buildSlice t 1 #[(0, v)]).run P w = .ok y w') (h : wpList P ops Q rest (a.put o.dst y) w') : wpList P ops Q (o :: rest) a w :=
  wpList_plain hgd fun K hK => by
    unfold Oper.wp execOp
    simp only [ho, Sem.run_bind, Sem.run_pure, Result.andThen_ok, List.map_toArray, List.map_cons, List.map_nil, hx, hr]
    exact hK _ _ h
theorem field_mach (a b c d : Value) (w : World) : (Instr.field 29 (.agg #[a, b, c, d]) 0).run Try.prog w = .ok (.agg #[a, b]) w := by kernel_rfl
theorem sl_cut2 {w : World} {ab : Option Addr} {c c' : Nat} {l : List Int} (h : Sl w (.slice ab l.length c) 1 l.length (l.map (Value.int .u8))) {f t : Nat} (h1 : f < t) (h2 : t ≤ l.length) (h3 : t - f ≤ c') (h4 : c' ≤ maxLen) :
    Sl w (.slice (ab.map (fun x => x.add f)) (t - f) c') 1 ((l.drop f).take (t - f)).length (((l.drop f).take (t - f)).map (Value.int .u8)) := by
  obtain ⟨a1, a2, cap, e, a3, a4, a5, a6⟩ := sl_cut3 h (Nat.le_of_lt h1) h2
  have hlen : ((l.drop f).take (t - f)).length = t - f := by rw [List.length_take, List.length_drop]; omega
  injection e with e1 e2 e3
  refine ⟨a1, a2, c', by rw [e1, hlen], by omega, h4, fun e => ?_, a6⟩
  have := a5 e
  omega
theorem goM_alone (k : Nat) (s : St) : (goM k (startM s.mach)).mach = (goM k s).mach ∧ (goM k (startM s.mach)).harts = (goM k s).harts := by
  have e : s = (startM s.mach).pre s.out s.steps := by
    unfold St.pre startM St.mach
    simp
  have h := goM_pre k s.out s.steps (startM s.mach)
  rw [← e] at h
  rw [h]
  exact ⟨rfl, rfl⟩
theorem play_one {s : St} (h : s.Good) {k : Nat} (hk : k < s.harts.length) (h4 : s.harts.length ≤ 4) (hst : (s.hart k).state = 0) : wrong s.mach [((k : Int), 1)] = 0 ∧ (playM [((k : Int), 1)] (startM s.mach)).mach = (goM k s).mach ∧ (playM [((k : Int), 1)] (startM s.mach)).harts.length = s.harts.length := by
  have e : playM [((k : Int), 1)] (startM s.mach) = goM k (startM s.mach) := by
    show pickM (Int.toNat (k : Int)) (Int.toNat 1) (startM s.mach) = _
    rw [Int.toNat_natCast]
    show (if ((startM s.mach).hart k).state = 0 then goM k (startM s.mach) else _) = _
    exact if_pos hst
  refine ⟨wrong_of h.wf.mlen (by show 1 ≤ s.harts.length; omega) h4 h.ok (by simp) (fun p hp => ?_), by rw [e]; exact (goM_alone k s).1, by rw [e, goM_len]; rfl⟩
  rw [List.mem_singleton] at hp
  subst hp
  show (0 : Int) ≤ k ∧ (k : Int) < (s.harts.length : Nat) ∧ (0 : Int) ≤ 1 ∧ (1 : Int) ≤ 400
  omega
structure DN (B nb bh hc : Nat) (vm v : Value) (us : List UndD) (w0 wr : World) (s : St) (l : List UndoD) : Prop where
  blk : wr.heap[nb]? = some (.cells #[vm, .slice (some ⟨bh, 0, none⟩) s.harts.length hc] 25 (0, 0))
  bytes : Ints .u8 wr vm s.mem
  harts : At wr bh 0 (s.harts.flatMap hlist)
  hlt : bh < wr.heap.size
  hcap : s.harts.length ≤ hc ∧ hc ≤ maxLen
  am : s.mem ≠ [] → ∀ q, vm.ownBlock = some q → q ≠ nb ∧ v.ownBlock ≠ some q
  ah : bh ≠ nb ∧ v.ownBlock ≠ some bh
  up : Up B 93 5 95 wr v us
  eq : us.map (·.d) = l
  good : s.Good
  bel : Below B w0 wr
  nbb : B ≤ nb
theorem DN.below {B nb bh hc : Nat} {vm v : Value} {us : List UndD} {w0 wr w' : World} {s : St} {l : List UndoD} (h : DN B nb bh hc vm v us w0 wr s l) (hB : B ≤ wr.heap.size) (hb : Below wr.heap.size wr w') : DN B nb bh hc vm v us w0 w' s l :=
  ⟨(hb.block nb (heap_lt h.blk)).trans h.blk, h.bytes.below hb, h.harts.below hb, Nat.lt_of_lt_of_le h.hlt hb.size, h.hcap, h.am, h.ah, h.up.below hb, h.eq, h.good, h.bel.trans (hb.mono hB), h.nbb⟩
theorem DN.mach {B nb bh hc : Nat} {vm v : Value} {us : List UndD} {w0 wr : World} {s : St} {l : List UndoD} (h : DN B nb bh hc vm v us w0 wr s l) : MachAt wr vm (.slice (some ⟨bh, 0, none⟩) s.harts.length hc) s.mach := by
  refine ⟨h.bytes, Sl.mk h.harts ?_ h.hcap.1 h.hcap.2⟩
  have : ∀ l : List Hart, (∀ x ∈ l, x.Wf) → (l.flatMap hlist).length = l.length * 37 := fun l => by
    induction l with
    | nil => intro _; rfl
    | cons x r ih =>
      intro hx
      rw [List.flatMap_cons, List.length_append, hlist_length (hx x (by simp)), ih (fun y hy => hx y (by simp [hy])), List.length_cons]
      omega
  exact this s.harts h.good.wf.harts
theorem mach_open {w : World} {vm : Value} {bh hc n : Nat} {m : Mach} (h : MachAt w vm (.slice (some ⟨bh, 0, none⟩) n hc) m) (hn : 1 ≤ m.harts.length) (wf : ∀ x ∈ m.harts, x.Wf) : Ints .u8 w vm m.mem ∧ At w bh 0 (m.harts.flatMap hlist) ∧ n = m.harts.length ∧ n ≤ hc ∧ hc ≤ maxLen ∧ bh < w.heap.size := by
  obtain ⟨h1, h2, ao, cap, h3, h4, h5, h6, h7⟩ := h
  injection h3 with e1 e2 e3
  subst e1
  have hne : m.harts.flatMap hlist ≠ [] := by
    intro e
    have := congrArg List.length e
    rw [h2] at this
    simp at this
    omega
  have hat := (h7 _ rfl hne).2
  exact ⟨h1, hat, e2, by omega, by omega, lt_of_cell (hat 0 (List.length_pos_iff.2 hne))⟩
theorem DN.step {B nb bh hc bh' hc' k : Nat} {vm v vm' v' : Value} {us : List UndD} {w0 wr w1 w2 : World} {s : St} {l : List UndoD} {x : UndD} (h : DN B nb bh hc vm v us w0 wr s l) (hB : B ≤ wr.heap.size) (hb : Below wr.heap.size wr w1) (hst : (s.hart k).state = 0) (h1l : 1 ≤ s.harts.length)
    (hd : x.d = undoOf k s) (hby : w1.ownsRow B 5 1 x.vb x.d.bytes.length (x.d.bytes.map (Value.int .u8))) (hlo : w1.ownsRow B 95 2 x.vl x.d.lost.length (x.d.lost.flatMap llist))
    (hm : MachAt w1 vm' (.slice (some ⟨bh', 0, none⟩) (goM k s).harts.length hc') (goM k s).mach) (fm : (goM k s).mem ≠ [] → ∀ q, vm'.ownBlock = some q → wr.heap.size ≤ q) (fh : wr.heap.size ≤ bh')
    (hown : w2.ownsRow B 93 41 v' (us.length + 1) (us.flatMap ulist ++ ulist x)) (hg : w1.grownBy w2 v.ownBlock) (hn : ∀ q, v'.ownBlock = some q → v.ownBlock = some q ∨ w1.heap.size ≤ q) :
    DN B nb bh' hc' vm' v' (us ++ [x]) w0 ((w2.setCell ⟨nb, 0, none⟩ vm').setCell ⟨nb, 1, none⟩ (.slice (some ⟨bh', 0, none⟩) (goM k s).harts.length hc')) (goM k s) (l ++ [undoOf k s]) := by
  have hnl := heap_lt h.blk
  have hs1 := hb.size
  have hs2 := hg.size
  have hvl : ∀ q, v.ownBlock = some q → q < wr.heap.size ∧ q ≠ nb := fun q e => by
    refine ⟨(h.up.own.lt q e).2, fun e2 => ?_⟩
    obtain ⟨cs, f, h3⟩ := own_ty h.up.own e
    rw [e2, h.blk] at h3; cases h3
  have hgo : (goM k s).Good := goM_good h.good hst
  obtain ⟨m1, m2, -, m4, m5, m6⟩ := mach_open hm (by show 1 ≤ (goM k s).harts.length; rw [goM_len]; exact h1l) hgo.wf.harts
  have hbk : ∀ q, q ≠ nb → ((w2.setCell ⟨nb, 0, none⟩ vm').setCell ⟨nb, 1, none⟩ (.slice (some ⟨bh', 0, none⟩) (goM k s).harts.length hc')).heap[q]? = w2.heap[q]? := fun q hq => (Below.heap_setCell _ _ _ _ (by show q ≠ nb; exact hq)).trans (Below.heap_setCell _ _ _ _ (by show q ≠ nb; exact hq))
  have e2 : w2.heap[nb]? = some (.cells #[vm, .slice (some ⟨bh, 0, none⟩) s.harts.length hc] 25 (0, 0)) := (hg.block nb (by omega) (fun e => (hvl nb e.symm).2 rfl)).trans ((hb.block nb hnl).trans h.blk)
  have hk2 : ∀ q, wr.heap.size ≤ q → q < w1.heap.size → ((w2.setCell ⟨nb, 0, none⟩ vm').setCell ⟨nb, 1, none⟩ (.slice (some ⟨bh', 0, none⟩) (goM k s).harts.length hc')).heap[q]? = w1.heap[q]? := fun q h1 h2 => (hbk q (by omega)).trans (hg.block q h2 (fun e => by have := (hvl q e.symm).1; omega))
  have hup := Up.snoc (x := x) (by decide : 93 ≠ 5) (by decide : 93 ≠ 95) (h.up.below hb) (by rw [hd]; exact h.good.wf.hart k) hby hlo hown hg
  refine ⟨heap_fill2 e2 _ _, ints_move m1 (fun hne q e => hk2 q (fm hne q e) (ints_lt m1 hne e)), fun j hj => (cell_block (hk2 bh' fh m6) _).trans (m2 j hj), ?_, ⟨m4, m5⟩, fun hne q e => ⟨by have := fm hne q e; omega, fun e3 => ?_⟩, ⟨by omega, fun e3 => ?_⟩, hup.keep (fun q h1 h2 h3 => hbk q (fun e => ?_)), ?_, hgo, ?_, h.nbb⟩
  · simp only [World.setCell, Array.size_modify]; omega
  · have q1 := fm hne q e
    rcases hn q e3 with h5 | h5
    · have := (hvl q h5).1; omega
    · have := ints_lt m1 hne e
      omega
  · rcases hn bh' e3 with h5 | h5
    · have := (hvl bh' h5).1; omega
    · omega
  · obtain ⟨cs, f, h3⟩ := h3
    rw [e, e2] at h3
    rcases h3 with h3 | h3 | h3 <;> cases h3
  · rw [List.map_append, h.eq, List.map_singleton, hd]
  · exact (((h.bel.trans (hb.mono hB)).grown hg (by omega) (fun q e => (h.up.own.lt q e).1)).setCell (p := ⟨nb, 0, none⟩) h.nbb _).setCell (p := ⟨nb, 1, none⟩) h.nbb _
theorem undoPlay_len12 : ∀ (l : List (Int × Int)) (s : St), (∀ p ∈ l, p.2 ≤ 400) → (undoPlay l s).length ≤ 400 * l.length
  | [], _, _ => Nat.le_refl _
  | p :: r, s, h => by
    unfold undoPlay
    have h1 := undoPlay_len12 r (pickM p.1.toNat p.2.toNat s) (fun q hq => h q (by simp [hq]))
    have h2 := undoPick_len (k := p.1.toNat) p.2.toNat s
    have h3 := h p (by simp)
    rw [List.length_append, List.length_cons]
    omega
theorem undos12_any (vm0 vh0 vs : Value) (m : Mach) (wf : m.Wf) (l : List (Int × Int)) (w : World) (hm : MachAt w vm0 vh0 m) (hs : Picks w vs l) (hq : wrong m l = 0) :
    Calls Try.prog 16 #[.agg #[vm0, vh0], vs] w fun e w' => (∃ v us, e = .returned v ∧ Up w.heap.size 93 5 95 w' v us ∧ us.map (·.d) = undoPlay l (startM m)) ∧ Below w.heap.size w w' := by
  obtain ⟨aom, capm, rfl, hcm, hmm, _, _⟩ := hm.1.open
  obtain ⟨aoh, caph, rfl, hch, hmh, _, _⟩ := hm.2.open (fun h hh => hlist_length (wf.harts h hh)) (by omega)
  obtain ⟨aos, caps, rfl, hcs, hms, _, hos⟩ := hs.open (fun _ _ => rfl) (by omega)
  unfold maxLen at hmm hmh hms
  obtain ⟨w1, hw1⟩ : ∃ w1, w1 = w.alloc (.cells #[.slice aom m.mem.length capm, .slice aoh m.harts.length caph] 25) := ⟨_, rfl⟩
  have hb1 : Below w.heap.size w w1 := by rw [hw1]; exact Fb.blw
  have hs1 : w1.heap.size = w.heap.size + 1 := by rw [hw1]; simp
  have c0 : w1.cell? ⟨w.heap.size, 0, none⟩ = some (.slice aom m.mem.length capm) := by rw [hw1]; go_cell
  have c1 : w1.cell? ⟨w.heap.size, 1, none⟩ = some (.slice aoh m.harts.length caph) := by rw [hw1]; go_cell
  obtain ⟨p1, p2, p3, p4, p5, p6⟩ := wrong_parts hq
  have HP6 := Lib.hid p6
  have HG := Lib.hid (startM_good wf hq)
  have h0 : wrong m [] = 0 := wrong_of p1 p2 p3 p4 (by simp) (by intro p hp; cases hp)
  have HP0 := Lib.hid (play_own _ _ (.slice none 0 0) m wf [] w1 (hm.below hb1) (Sl.nil _ _) h0)
  have HOS := Lib.hid hos
  have HW1 := Lib.hid hw1
  have HB1 := Lib.hid hb1
  obtain ⟨uF, huF⟩ : ∃ s, s = undoPlay l (startM m) := ⟨_, rfl⟩
  rw [← huF]
  have HUF := Lib.hid huF
  clear hm hs hos hq p4 p6 h0 hw1 hb1 huF
  go_enter Try.func16, Try.ntmps16
  go_upto_region 2 with (fail)
  rw [← HW1.out]
  go_wp2_with fail
  refine HP0.out.mono ?_
  rintro e w2 ⟨⟨vm, vh, vo, rfl, hsh, hfm, bh, hc, rfl, hfh⟩, hb2⟩
  have hs2 := hb2.size
  obtain ⟨am, cm, hvm, -⟩ := hsh.mach.1.open
  have hmo := mach_open hsh.mach (by show 1 ≤ m.harts.length; exact p2) (by show ∀ x ∈ m.harts, x.Wf; exact wf.harts)
  obtain ⟨nb, hnb⟩ : ∃ x, x = w2.heap.size := ⟨_, rfl⟩
  obtain ⟨w3, hw3⟩ : ∃ x, x = w2.alloc (.cells #[vm, .slice (some ⟨bh, 0, none⟩) (playM [] (startM m)).harts.length hc] 25) := ⟨_, rfl⟩
  have hb3 : Below w2.heap.size w2 w3 := by rw [hw3]; exact Below.alloc (Below.refl _ _) (Nat.le_refl _) _
  have hs3 : w3.heap.size = w2.heap.size + 1 := by rw [hw3]; simp
  have HDN : Hid (DN w.heap.size nb bh hc vm (.slice none 0 0) [] w w3 (startM m) []) := Lib.hid ⟨by
      rw [hnb, hw3]
      exact heap_alloc_new _ _, hmo.1.below hb3, hmo.2.1.below hb3, by have := hmo.2.2.2.2.2; omega, ⟨hmo.2.2.2.1, hmo.2.2.2.2.1⟩, fun hne q e => ⟨by have := ints_lt hmo.1 hne e; omega, by intro e2; cases e2⟩, ⟨by have := hmo.2.2.2.2.2; omega, by intro e2; cases e2⟩, Up.nil _, rfl, HG.out, HB1.out.trans ((hb2.mono (by omega)).trans (hb3.mono (by omega))), by omega⟩
  have HNB : Hid (nb < w3.heap.size ∧ w.heap.size ≤ w3.heap.size) := Lib.hid ⟨by omega, by omega⟩
  have HW3 := Lib.hid hw3
  rw [hvm] at hw3
  subst hvm
  clear c0 c1 HP0 hsh hfm hmo hb2 hb3 hw3
  have hfld := field_mach (.slice am (playM [] (startM m)).mach.mem.length cm) (.slice (some ⟨bh, 0, none⟩) (playM [] (startM m)).harts.length hc) vo (.int .i64 (playM [] (startM m)).steps) w2
  go_upto_region 3 with (fail)
  rw [← HW3.out, ← hnb]
  clear hnb hs3 hs2 hs1
  go_wp2_with fail
  go_loopw [7, 5] (fun i t5 wr => ∃ n : Nat, i = .int .i64 n ∧ n ≤ l.length ∧ w3.heap.size ≤ wr.heap.size ∧ ∃ (bh hc : Nat) (vm : Value) (us : List UndD), Hid (DN w.heap.size nb bh hc vm t5 us w wr (playM (l.take n) (startM m)) (undoPlay (l.take n) (startM m)))) (fun i _ _ => l.length - (intOf i).toNat)
  case atStart => exact ⟨0, rfl, by omega, Nat.le_refl _, bh, hc, _, [], Lib.hid HDN.out⟩
  case round =>
    obtain ⟨n, rfl, hn, hsz, bh, hc, vm, us, HR⟩ := hrel
    have HL0 : Hid ((playM (l.take n) (startM m)).harts.length = m.harts.length) := Lib.hid (playM_len _ _)
    by_cases hlt : n < l.length
    · obtain ⟨wo, rfl⟩ : ∃ wo : World, wo = wr := ⟨_, rfl⟩
      obtain ⟨b, off, rfl, hbl, hel⟩ := HOS.out (by intro e; rw [e] at hlt; simp at hlt)
      have HPK : Hid (∀ W, Below w.heap.size w W → W.cell? ⟨b, off + n * 2, none⟩ = some (.int .i64 l[n].1) ∧ W.cell? ⟨b, off + n * 2 + 1, none⟩ = some (.int .i64 l[n].2)) := Lib.hid (fun W hW => by
        have hat := (hel n hlt).of_lt hW hbl
        have d0 := hat.get (j := 0) (v := .int .i64 l[n].1) rfl
        have d1 := hat.get (j := 1) (v := .int .i64 l[n].2) rfl
        simp only [Nat.add_zero] at d0
        exact ⟨d0, d1⟩)
      have HNX : Hid (playM (l.take (n + 1)) (startM m) = pickM l[n].1.toNat l[n].2.toNat (playM (l.take n) (startM m)) ∧ undoPlay (l.take (n + 1)) (startM m) = undoPlay (l.take n) (startM m) ++ undoPick l[n].1.toNat l[n].2.toNat (playM (l.take n) (startM m))) := Lib.hid (by
        rw [List.take_succ_eq_append_getElem hlt, playM_append, undoPlay_append]
        exact ⟨rfl, by show _ ++ (undoPick _ _ _ ++ []) = _; rw [List.append_nil]⟩)
      have HUL : Hid (us.length ≤ 400 * n) := Lib.hid (by
        have := undoPlay_len12 (l.take n) (startM m) (fun p hp => (HP6.out p (List.mem_of_mem_take hp)).2.2.2)
        rw [List.length_take, Nat.min_eq_left hn, ← HR.out.eq, List.length_map] at this
        exact this)
      obtain ⟨q1, q2, q3, q4⟩ := HP6.out _ (List.getElem_mem hlt)
      obtain ⟨s0, hs0⟩ : ∃ s, s = playM (l.take n) (startM m) := ⟨_, rfl⟩
      obtain ⟨sn, hsn⟩ : ∃ s, s = playM (l.take (n + 1)) (startM m) := ⟨_, rfl⟩
      obtain ⟨l0, hl0⟩ : ∃ s, s = undoPlay (l.take n) (startM m) := ⟨_, rfl⟩
      obtain ⟨ln, hln⟩ : ∃ s, s = undoPlay (l.take (n + 1)) (startM m) := ⟨_, rfl⟩
      rw [← hs0] at HR HL0 HNX
      rw [← hsn] at HNX
      rw [← hl0] at HR HNX
      rw [← hln] at HNX
      have HSN := Lib.hid hsn
      have HLN := Lib.hid hln
      clear hel hs0 hsn hl0 hln
      obtain ⟨x, hx⟩ : ∃ x, x = l[n].1 := ⟨_, rfl⟩
      obtain ⟨y, hy⟩ : ∃ y, y = l[n].2 := ⟨_, rfl⟩
      rw [← hx] at HNX q1 q2
      rw [← hy] at HNX q3 q4
      simp only [← hx, ← hy] at HPK
      clear hx hy
      obtain ⟨k, rfl⟩ := Int.eq_ofNat_of_zero_le q1
      obtain ⟨N, rfl⟩ := Int.eq_ofNat_of_zero_le q3
      rw [Int.toNat_natCast, Int.toNat_natCast] at HNX
      have hk : k < m.harts.length := by omega
      have hN : N ≤ 400 := by omega
      clear q1 q2 q3 q4
      obtain ⟨d0, -⟩ := HPK.out wo HR.out.bel
      go_wp2_with fail
      clear d0
      go_loopw [9, 5] (fun i t5 wx => ∃ j : Nat, i = .int .i64 j ∧ j ≤ N ∧ w3.heap.size ≤ wx.heap.size ∧ ∃ (bh hc : Nat) (vm : Value) (us : List UndD) (s1 : St) (l1 : List UndoD), Hid (DN w.heap.size nb bh hc vm t5 us w wx s1 l1 ∧ s1.harts.length = m.harts.length ∧ us.length ≤ 400 * n + j ∧ pickM k N s0 = pickM k (N - j) s1 ∧ l1 ++ undoPick k (N - j) s1 = l0 ++ undoPick k N s0)) (fun i _ _ => N - (intOf i).toNat)
      case atStart => exact ⟨0, rfl, by omega, hsz, bh, hc, vm, us, s0, l0, Lib.hid ⟨HR.out, HL0.out, HUL.out, rfl, rfl⟩⟩
      case round =>
        obtain ⟨j, rfl, hj, hsx, bh, hc, vm, us, s1, l1, HI⟩ := hrel
        obtain ⟨i1, i2, i3, i4, i5⟩ := HI.out
        obtain ⟨-, d1⟩ := HPK.out wr i1.bel
        have wfh := i1.good.wf.hart k
        have hph := at_hart i1.harts (fun x hx => hlist_length (i1.good.wf.harts x hx)) (k := k) (by omega)
        rw [← St.hart_at (by omega)] at hph
        have g35 := hph.get (hlist_state wfh)
        have c1 : wr.cell? ⟨nb, 1, none⟩ = some (.slice (some ⟨bh, 0, none⟩) m.harts.length hc) := by rw [← i2]; exact ucell_of i1.blk rfl
        obtain ⟨st, hst⟩ : ∃ x, x = (s1.hart k).state := ⟨_, rfl⟩
        rw [← hst] at g35
        have HST := Lib.hid hst
        have HPH := Lib.hid hph
        clear hst hph
        have i0 : (0 : Int) ≤ (k : Int) := by omega
        have i1' : (k : Int) < (m.harts.length : Int) := by omega
        by_cases hgo : j < N ∧ st = 0
        · obtain ⟨hjN, rfl⟩ := hgo
          have HD := Lib.hid i1
          have hnbl := heap_lt i1.blk
          have hml := i1.good.wf.mlen
          have hszh : (Try.prog.info? 67).map (·.size) = some (hcells (s1.hart k)).size := by rw [hcells_size wfh]; kernel_rfl
          have hat : At wr bh (k * 37) (hcells (s1.hart k)).toList := by simpa [hcells] using HPH.out
          obtain ⟨ul, hul⟩ : ∃ ul, ul = (Value.int .i64 k :: (hlist (s1.hart k) ++ [.int .u32 0, .slice none 0 0, .slice none 0 0])).toArray := ⟨_, rfl⟩
          have hul41 : ul.size = 41 := by rw [hul]; simp [hlist_len wfh.len]
          have HBD := Lib.hid (fun W => build_undo k (s1.hart k) wfh.len W)
          rw [← hul] at HBD
          have hszu : (Try.prog.info? 93).map (·.size) = some ul.size := by rw [hul41]; kernel_rfl
          have hone : ∀ u ∈ ul.toList, u.oneCell' = true := by
            rw [hul]
            intro u hu
            simp only [List.toList_toArray, List.mem_cons, List.mem_append, List.not_mem_nil, or_false] at hu
            rcases hu with rfl | hu | rfl | rfl | rfl
            · rfl
            · exact hlist_one (s1.hart k) u (by simpa [hcells] using hu)
            all_goals rfl
          obtain ⟨w6, hw6⟩ : ∃ w6, w6 = wr.alloc (.cells ul 93) := ⟨_, rfl⟩
          have hb6 : Below wr.heap.size wr w6 := by rw [hw6]; exact Below.alloc (Below.refl _ _) (Nat.le_refl _) _
          have hs6 : wr.heap.size + 1 ≤ w6.heap.size ∧ w6.heap.size ≤ wr.heap.size + 1 := by rw [hw6]; simp
          obtain ⟨hs6, hs6'⟩ := hs6
          have HU6 : Hid (UBx 93 wr.heap.size k (s1.hart k) (.int .u32 0) (.slice none 0 0) (.slice none 0 0) w6) := Lib.hid ⟨wfh.len, by rw [hw6, ← hul]; exact heap_alloc_new _ _⟩
          have HB6 := Lib.hid hb6
          have HW6 := Lib.hid hw6
          have hWB : w.heap.size ≤ wr.heap.size := i1.bel.size
          clear hw6 hul i1
          go_upto_region 11 with (first | (refine wpList_load_at rfl 67 _ rfl bh (k * 37) rfl (hcells (s1.hart k)) _ hat Try.underlying67 rfl hszh ?_) | (refine wpList_buildV rfl 93 _ rfl #[(0, .int .i64 k), (1, .agg (hcells (s1.hart k)))] (by first | rfl | (simp [Act.eval, Act.put]; done)) _ (HBD.out _) ?_) | (refine wpList_store_new rfl 93 _ _ rfl wr _ ul rfl rfl rfl hszu (by rw [hul41]; rfl) hone ?_))
          rw [← HW6.out]
          obtain ⟨dS, hdS⟩ : ∃ d, d = stepC k s1 := ⟨_, rfl⟩
          have HWD : Hid dS.Wf := Lib.hid (by rw [hdS]; exact goS_wf (HD.out.good.wf.core k) (by simp))
          have HRG : Hid (Rng dS) := Lib.hid (by rw [hdS]; exact goS_rng _ wfh _ (by omega))
          have HST4 := Lib.hid (fun W v hv => step4_any (s1.hart k) wfh v s1.mem W hv HD.out.good.wf.mem (by omega))
          simp only [show goS (⟨s1.hart k, s1.mem, [], 0, 0⟩ : CoreD) = stepC k s1 from rfl, ← hdS] at HST4
          have HDML : Hid (dS.m.length = s1.mem.length) := Lib.hid (by rw [hdS]; exact goS_ml _)
          have HDS := Lib.hid hdS
          have HH6 : Hid (At w6 bh (k * 37) (hlist (s1.hart k))) := Lib.hid (HPH.out.below hb6)
          have HY6 : Hid (Ints .u8 w6 vm s1.mem) := Lib.hid (HD.out.bytes.below hb6)
          have n0 : w6.cell? ⟨nb, 0, none⟩ = some vm := (hb6.cell (p := ⟨nb, 0, none⟩) hnbl).trans (ucell_of HD.out.blk rfl)
          have n1 : w6.cell? ⟨nb, 1, none⟩ = some (.slice (some ⟨bh, 0, none⟩) m.harts.length hc) := (hb6.cell (p := ⟨nb, 1, none⟩) hnbl).trans c1
          obtain ⟨am, cm, hvm, hcm1, hcm2, -⟩ := HD.out.bytes.open
          have hszh' : (hlist (s1.hart k)).length = 37 := hlist_length wfh
          have hnb6 : nb < w6.heap.size := by omega
          subst hvm
          clear hdS g35 d1 c1 hszu hone hat hb6 hszh
          simp only [Act.put]
          go_cut [11] from 53 to 60 (fun t11 wx => ∃ (bd : Nat) (d' : DidD), t11 = .pointer (some ⟨bd, 0, none⟩) ∧ w6.heap.size ≤ bd ∧ Hid (Below w6.heap.size w6 wx ∧ DidOf wx d' dS ∧ At wx bd 0 (dlist d')))
          case first =>
            refine wp_region_held_drew (S := fun W => Below w6.heap.size w6 W ∧ W.cell? ⟨nb, 0, none⟩ = some (.slice am s1.mem.length cm)) (by kernel_rfl) ⟨Below.drew (Below.refl _ _), n0⟩ (fun hHeld => ?_)
            refine wpAnyH_take (i := 0) (v := .pointer (some ⟨nb, 1, none⟩)) rfl (by kernel_rfl) (by kernel_rfl) (by kernel_rfl) (fun _ _ _ h => h) (Or.inl ⟨by rfl, ?_⟩) (by assumption) ?_
            · (try simp only [List.getElem_toArray, List.getElem_cons_zero, List.getElem_cons_succ]); intro w hSw; (try dsimp only at hSw); go_simp
            try simp only [List.getElem_toArray, List.getElem_cons_zero, List.getElem_cons_succ, Act.put, List.setIfInBounds_toArray, List.set_cons_zero, List.set_cons_succ]
            refine wpAnyH_take (i := 1) (v := .slice (some ⟨bh, 0, none⟩) m.harts.length hc) rfl (by kernel_rfl) (by kernel_rfl) (by kernel_rfl) (fun _ _ _ h => h) (Or.inl ⟨by rfl, ?_⟩) (by assumption) ?_
            · (try simp only [List.getElem_toArray, List.getElem_cons_zero, List.getElem_cons_succ]); intro w hSw; (try dsimp only at hSw); have n1' := (hSw.1.cell (p := ⟨nb, 1, none⟩) hnb6).trans n1; go_simp
            try simp only [List.getElem_toArray, List.getElem_cons_zero, List.getElem_cons_succ, Act.put, List.setIfInBounds_toArray, List.set_cons_zero, List.set_cons_succ]
            refine wpAnyH_take (i := 2) (v := .int .i64 k) rfl (by kernel_rfl) (by kernel_rfl) (by kernel_rfl) (fun _ _ _ h => h) (Or.inl ⟨by rfl, ?_⟩) (by assumption) ?_
            · (try simp only [List.getElem_toArray, List.getElem_cons_zero, List.getElem_cons_succ]); intro w hSw; (try dsimp only at hSw); go_simp
            try simp only [List.getElem_toArray, List.getElem_cons_zero, List.getElem_cons_succ, Act.put, List.setIfInBounds_toArray, List.set_cons_zero, List.set_cons_succ]
            refine wpAnyH_take (i := 3) (v := .pointer (some ⟨bh, k * 37, none⟩)) rfl (by kernel_rfl) (by kernel_rfl) (by kernel_rfl) (fun _ _ _ h => h) (Or.inl ⟨by rfl, ?_⟩) (by assumption) ?_
            · (try simp only [List.getElem_toArray, List.getElem_cons_zero, List.getElem_cons_succ]); intro w hSw; (try dsimp only at hSw); go_simp
            try simp only [List.getElem_toArray, List.getElem_cons_zero, List.getElem_cons_succ, Act.put, List.setIfInBounds_toArray, List.set_cons_zero, List.set_cons_succ]
            refine wpAnyH_take (i := 4) (v := .agg (hlist (s1.hart k)).toArray) rfl (by kernel_rfl) (by kernel_rfl) (by kernel_rfl) (fun _ _ _ h => h) (yieldsIf_load_mid (by rfl) 67 _ rfl bh (k * 37) rfl (hlist (s1.hart k)) _ (fun w' hw j v hv => by have hj := (List.getElem?_eq_some_iff.1 hv).1; rw [(HH6.out.below hw.1) j hj, ← hv, List.getElem?_eq_getElem hj]) Try.underlying67 rfl (by rw [hszh']; kernel_rfl)) (by assumption) ?_
            try simp only [List.getElem_toArray, List.getElem_cons_zero, List.getElem_cons_succ, Act.put, List.setIfInBounds_toArray, List.set_cons_zero, List.set_cons_succ]
            refine wpAnyH_take (i := 5) (v := .pointer (some ⟨nb, 0, none⟩)) rfl (by kernel_rfl) (by kernel_rfl) (by kernel_rfl) (fun _ _ _ h => h) (Or.inl ⟨by rfl, ?_⟩) (by assumption) ?_
            · (try simp only [List.getElem_toArray, List.getElem_cons_zero, List.getElem_cons_succ]); intro w hSw; (try dsimp only at hSw); go_simp
            try simp only [List.getElem_toArray, List.getElem_cons_zero, List.getElem_cons_succ, Act.put, List.setIfInBounds_toArray, List.set_cons_zero, List.set_cons_succ]
            refine wpAnyH_take (i := 6) (v := .slice am s1.mem.length cm) rfl (by kernel_rfl) (by kernel_rfl) (by kernel_rfl) (fun _ _ _ h => h) (Or.inl ⟨by rfl, ?_⟩) (by assumption) ?_
            · (try simp only [List.getElem_toArray, List.getElem_cons_zero, List.getElem_cons_succ]); intro w hSw; (try dsimp only at hSw); go_simp
            try simp only [List.getElem_toArray, List.getElem_cons_zero, List.getElem_cons_succ, Act.put, List.setIfInBounds_toArray, List.set_cons_zero, List.set_cons_succ]
            refine wpAnyH_ready (rs := [7, 8]) (by kernel_rfl) (by simp) ?_
            refine AllReadyH.cons rfl (fun K hK => ?_) (AllReadyH.cons rfl (fun K hK => ?_) AllReadyH.nil)
            · go_simp
              refine (HST4.out _ _ (HY6.out.below (Below.drew (Below.refl _ _)))).mono ?_
              rintro e w7 ⟨d', rfl, hD, hdm, hdo, hb7⟩
              have hB7 : Below w6.heap.size w6 w7 := (Below.drew (Below.refl _ _)).trans hb7
              have hok := hD.ok HWD.out
              refine hK.out _ _ ⟨hB7, (hB7.cell (lt_of_cell n0)).trans n0⟩ (fun hHeld2 => ?_)
              clear hK K
              refine wpAnyH_ready (rs := [8]) (by kernel_rfl) (by simp) ?_
              refine AllReadyH.cons rfl (fun K hK => ?_) AllReadyH.nil
              go_simp
              have hs7 := hB7.size
              refine hK.out _ _ ⟨hB7.alloc hs7 _, ((hB7.alloc hs7 _).cell (lt_of_cell n0)).trans n0⟩ (fun hHeld3 => ?_)
              clear hK K
              have hth : (w7.alloc (.cells (dcells did0) 88)).there w7.heap.size 0 41 := there_blk (heap_alloc_new _ _) rfl
              have hB8 : Below w6.heap.size w6 (w7.alloc (.cells (dcells did0) 88)) := hB7.alloc hs7 _
              have hD8 : DidOf (w7.alloc (.cells (dcells did0) 88)) d' dS := hD.below (Below.alloc (Below.refl _ _) (Nat.le_refl _) _)
              have hnm : dS.m ≠ [] → ∀ g, d'.vm.ownBlock = some g → g < w7.heap.size := fun hne g hg => ints_lt hD.m hne hg
              have hno : dS.out ≠ [] → ∀ g, d'.vo.ownBlock = some g → g < w7.heap.size := fun hne g hg => ints_lt hD.o hne hg
              refine wpAnyH_ready (rs := [9]) (by kernel_rfl) (by simp) ?_
              refine AllReadyH.cons rfl (fun K hK => ?_) AllReadyH.nil
              rw [if_pos (by rfl)]
              refine wp_store_mid 88 _ _ rfl w7.heap.size 0 (dcells d') rfl rfl (by rw [dcells_size hok]; exact hth) (by rw [dcells_size hok]; kernel_rfl) (dlist_all hok) ?_
              simp only [Act.put, List.setIfInBounds_toArray, List.set_cons_zero, List.set_cons_succ]
              have hfin := hD8.lay hok (bd := w7.heap.size) (fun hne g hg => by have := hnm hne g hg; omega) (fun hne g hg => by have := hno hne g hg; omega) hth
              have hB9 := below_setCells (b := w7.heap.size) (by omega) (dcells d').toList 0 _ hB8
              refine hK.out _ _ ⟨hB9, (hB9.cell (lt_of_cell n0)).trans n0⟩ (fun hHeld4 => ?_)
              clear hK K
              refine wpAnyH_done (by kernel_rfl) ?_ _
              go_wp2_with fail
              go_meet
              case rel => exact ⟨w7.heap.size, d', rfl, by omega, Lib.hid ⟨hB9, hfin.1, hfin.2⟩⟩
            · go_simp
              refine hK.out _ _ ⟨(Below.drew (Below.refl _ _)).alloc (Nat.le_refl _) _, (((Below.drew (Below.refl _ _)).alloc (Nat.le_refl _) _).cell (lt_of_cell n0)).trans n0⟩ (fun hHeld2 => ?_)
              clear hK K
              refine wpAnyH_ready (rs := [7]) (by kernel_rfl) (by simp) ?_
              refine AllReadyH.cons rfl (fun K hK => ?_) AllReadyH.nil
              go_simp
              refine (HST4.out _ _ (HY6.out.below ((Below.drew (Below.refl _ _)).alloc (Nat.le_refl _) _))).mono ?_
              rintro e w7 ⟨d', rfl, hD, hdm, hdo, hb7⟩
              have hB8 : Below w6.heap.size w6 w7 := ((Below.drew (Below.refl _ _)).alloc (Nat.le_refl _) _).trans (hb7.mono (by show _ ≤ (World.alloc _ _).heap.size; simp))
              have hok := hD.ok HWD.out
              have hth : w7.there w6.heap.size 0 41 := there_blk ((hb7.block w6.heap.size (by show _ < (World.alloc _ _).heap.size; simp)).trans (heap_alloc_new w6.drew (.cells (dcells did0) 88))) rfl
              have hsa : w6.heap.size + 1 ≤ w7.heap.size := by have := hb7.size; simpa using this
              have hnm : dS.m ≠ [] → ∀ g, d'.vm.ownBlock = some g → g ≠ w6.heap.size := fun hne g hg => by
                rcases hdm with e | e
                · rw [e] at hg
                  have := ints_lt HY6.out (by intro e2; exact hne (List.eq_nil_of_length_eq_zero (by rw [HDML.out, e2]; rfl))) hg
                  omega
                · have := e g hg; simp at this; omega
              have hno : dS.out ≠ [] → ∀ g, d'.vo.ownBlock = some g → g ≠ w6.heap.size := fun hne g hg => by have := hdo g hg; simp at this; omega
              refine hK.out _ _ ⟨hB8, (hB8.cell (lt_of_cell n0)).trans n0⟩ (fun hHeld3 => ?_)
              clear hK K
              refine wpAnyH_ready (rs := [9]) (by kernel_rfl) (by simp) ?_
              refine AllReadyH.cons rfl (fun K hK => ?_) AllReadyH.nil
              rw [if_pos (by rfl)]
              refine wp_store_mid 88 _ _ rfl w6.heap.size 0 (dcells d') rfl rfl (by rw [dcells_size hok]; exact hth) (by rw [dcells_size hok]; kernel_rfl) (dlist_all hok) ?_
              simp only [Act.put, List.setIfInBounds_toArray, List.set_cons_zero, List.set_cons_succ]
              have hfin := hD.lay hok (bd := w6.heap.size) (fun hne g hg => by have := hnm hne g hg; omega) (fun hne g hg => by have := hno hne g hg; omega) hth
              have hB9 := below_setCells (b := w6.heap.size) (by omega) (dcells d').toList 0 _ hB8
              refine hK.out _ _ ⟨hB9, (hB9.cell (lt_of_cell n0)).trans n0⟩ (fun hHeld4 => ?_)
              clear hK K
              refine wpAnyH_done (by kernel_rfl) ?_ _
              go_wp2_with fail
              go_meet
              case rel => exact ⟨w6.heap.size, d', rfl, by omega, Lib.hid ⟨hB9, hfin.1, hfin.2⟩⟩
          case rest =>
            obtain ⟨wd, rfl⟩ : ∃ x : World, x = wc := ⟨_, rfl⟩
            obtain ⟨bd, d', rfl, hbd, HC⟩ := hcut
            have hdt := (HC.out.2.1.ok HWD.out).len
            have hsc := HC.out.1.size
            have hbdl : bd < wd.heap.size := lt_of_cell (HC.out.2.2.get (dlist_t hdt 0))
            have t2 : wd.cell? ⟨bd, 39, none⟩ = some (.int .u32 dS.fr) := by rw [← HC.out.2.1.fr]; simpa using HC.out.2.2.get (dlist_t hdt 2)
            have t3 : wd.cell? ⟨bd, 40, none⟩ = some (.int .i64 (dS.tw - dS.fr)) := by rw [← HC.out.2.1.many]; simpa using HC.out.2.2.get (dlist_t hdt 3)
            obtain ⟨f, hf⟩ : ∃ x, x = dS.fr := ⟨_, rfl⟩
            obtain ⟨mn, hmn⟩ : ∃ x, x = dS.tw - dS.fr := ⟨_, rfl⟩
            rw [← hf] at t2
            rw [← hmn] at t3
            have hrg : (f = 0 ∧ mn = 0) ∨ (0 ≤ f ∧ 0 < mn ∧ f + mn ≤ s1.mem.length) := by
              have := HRG.out
              unfold Rng at this
              rw [HDML.out] at this
              omega
            obtain ⟨fx, hfx⟩ : ∃ x : Int, x = if dS.fr < dS.tw then dS.fr else 0 := ⟨_, rfl⟩
            obtain ⟨bs, hbs⟩ : ∃ x : List Int, x = if dS.fr < dS.tw then (s1.mem.drop dS.fr.toNat).take (dS.tw - dS.fr).toNat else [] := ⟨_, rfl⟩
            have HF := Lib.hid (And.intro hf hmn)
            have HFX := Lib.hid hfx
            have HBS := Lib.hid hbs
            have hub : UBx 93 wr.heap.size k (s1.hart k) (.int .u32 0) (.slice none 0 0) (.slice none 0 0) wd := HU6.out.keep (HC.out.1.block _ (by omega))
            have u38 := hub.get 0 _ rfl
            have u39 := hub.get 1 _ rfl
            have fu38 := hub.frz 38
            have fu39 := hub.frz 39
            have HUB := Lib.hid hub
            have m0 := (HC.out.1.cell (p := ⟨nb, 0, none⟩) hnb6).trans n0
            have m1 := (HC.out.1.cell (p := ⟨nb, 1, none⟩) hnb6).trans n1
            have HYC := Lib.hid (HY6.out.below HC.out.1)
            obtain ⟨iu, hiu, hu0, hu1, hu2⟩ := info_parts info_u8p
            clear hf hmn hfx hbs hub n0 n1
            go_upto_if 63 with (fail)
            go_cut [] from 63 to 82 (fun wx => ∃ (vb : Value), Hid (Fr (fun q => q = wr.heap.size) wd wx ∧ UBx 93 wr.heap.size k (s1.hart k) (.int .u32 fx) vb (.slice none 0 0) wx ∧ wx.ownsRow (wr.heap.size + 1) 5 1 vb bs.length (bs.map (Value.int .u8))))
            case first =>
              by_cases hp : 0 < mn
              · have x1 : 0 ≤ f := by omega
                have x3 : f + mn ≤ s1.mem.length := by omega
                have x6 : f % 4294967296 = f := by omega
                have x2 : f ≤ f + mn := by omega
                have x4 : f + mn ≤ (cm : Int) := by omega
                have x5 : 0 ≤ f + mn := by omega
                have y1 : IntKind.i64.wrap f = f := by simp (disch := omega) only [IntWalk.i64_in]
                have y2 : IntKind.i64.wrap (f + mn) = f + mn := by simp (disch := omega) only [IntWalk.i64_in]
                have y3 : max (f + mn) 0 = f + mn := by omega
                have y4 : ¬ cm = f.toNat := by omega
                have HY4 := Lib.hid y4
                clear y4
                obtain ⟨w13, hw13⟩ : ∃ x, x = wd.setCell ⟨wr.heap.size, 38, none⟩ (.int .u32 f) := ⟨_, rfl⟩
                have hF13 : Fr (fun q => q = wr.heap.size) wd w13 := by rw [hw13]; exact (Fr.refl _ _).setCell _ _ rfl
                have hs13 := hF13.size
                have hu13 : UBx 93 wr.heap.size k (s1.hart k) (.int .u32 f) (.slice none 0 0) (.slice none 0 0) w13 := by rw [hw13]; exact HUB.out.set 0 (.int .u32 f) rfl
                have v39 := hu13.get 1 _ rfl
                have fv39 := hu13.frz 39
                have k0 := (cell_block (hF13.block nb (by omega) (by show ¬ nb = wr.heap.size; omega)) 0).trans m0
                have k2 := (cell_block (hF13.block bd (by omega) (by show ¬ bd = wr.heap.size; omega)) 39).trans t2
                have k3 := (cell_block (hF13.block bd (by omega) (by show ¬ bd = wr.heap.size; omega)) 40).trans t3
                have hY13 : Ints .u8 w13 (.slice am s1.mem.length cm) s1.mem := ints_move HYC.out (fun hne q e => hF13.block q (ints_lt HYC.out hne e) (fun e2 => by
                  have := ints_lt HD.out.bytes hne e
                  have e2 : q = wr.heap.size := e2
                  omega))
                have hbl : bs.length ≤ 4096 := by rw [HBS.out]; split <;> simp <;> omega
                have hsl : ∀ c', (f + mn).toNat - f.toNat ≤ c' → c' ≤ maxLen → Sl w13.drew (.slice (if cm = f.toNat then am else Option.map (fun x => x.add f.toNat) am) ((f + mn).toNat - f.toNat) c') 1 bs.length (bs.map (Value.int .u8)) := fun c' h1 h2 => by
                  rw [if_neg HY4.out]
                  have h3 := sl_cut2 (show Sl w13 (.slice am s1.mem.length cm) 1 s1.mem.length (s1.mem.map (Value.int .u8)) from hY13) (f := f.toNat) (t := (f + mn).toNat) (by omega) (by omega) h1 h2
                  rw [HBS.out, if_pos (by have := HF.out.1; have := HF.out.2; omega), ← HF.out.2, ← HF.out.1, show mn.toNat = (f + mn).toNat - f.toNat by omega]
                  exact h3.below (Below.drew (Below.refl _ _))
                have HSL := Lib.hid hsl
                have HU13 := Lib.hid hu13
                have HF13 := Lib.hid hF13
                have HW13 := Lib.hid hw13
                have hcl : (f + mn).toNat - f.toNat ≤ cm - f.toNat ∧ cm - f.toNat ≤ maxLen := by omega
                have HCL := Lib.hid hcl
                have HBL := Lib.hid hbl
                clear hsl hu13 hF13 hw13 hY13 hcl hbl
                go_upto_region 14 with (fail)
                rw [← HW13.out]
                clear u38 u39 fu38 fu39 m0 m1 t2 t3
                have HK := Lib.hid (And.intro k0 (And.intro k2 k3))
                have HKL : Hid (nb < w13.heap.size ∧ bd < w13.heap.size ∧ wr.heap.size < w13.heap.size ∧ nb ≠ wr.heap.size ∧ bd ≠ wr.heap.size) := Lib.hid (by have := HF13.out.size; omega)
                refine wp_region_held_drew (S := fun W => W.cell? ⟨nb, 0, none⟩ = some (.slice am s1.mem.length cm) ∧ W.cell? ⟨bd, 39, none⟩ = some (.int .u32 f) ∧ W.cell? ⟨bd, 40, none⟩ = some (.int .i64 mn)) (by kernel_rfl) HK.out (fun hHeld => ?_)
                refine wpAnyH_take (i := 0) (v := .pointer (some ⟨wr.heap.size, 39, none⟩)) rfl (by kernel_rfl) (by kernel_rfl) (by kernel_rfl) (fun _ _ _ h => h) (Or.inl ⟨by rfl, ?_⟩) (by assumption) ?_
                · (try simp only [List.getElem_toArray, List.getElem_cons_zero, List.getElem_cons_succ]); intro w hSw; (try dsimp only at hSw); go_simp
                try simp only [List.getElem_toArray, List.getElem_cons_zero, List.getElem_cons_succ, Act.put, List.setIfInBounds_toArray, List.set_cons_zero, List.set_cons_succ]
                refine wpAnyH_take (i := 2) (v := .pointer (some ⟨nb, 0, none⟩)) rfl (by kernel_rfl) (by kernel_rfl) (by kernel_rfl) (fun _ _ _ h => h) (Or.inl ⟨by rfl, ?_⟩) (by assumption) ?_
                · (try simp only [List.getElem_toArray, List.getElem_cons_zero, List.getElem_cons_succ]); intro w hSw; (try dsimp only at hSw); go_simp
                try simp only [List.getElem_toArray, List.getElem_cons_zero, List.getElem_cons_succ, Act.put, List.setIfInBounds_toArray, List.set_cons_zero, List.set_cons_succ]
                refine wpAnyH_take (i := 3) (v := .slice am s1.mem.length cm) rfl (by kernel_rfl) (by kernel_rfl) (by kernel_rfl) (fun _ _ _ h => h) (Or.inl ⟨by rfl, ?_⟩) (by assumption) ?_
                · (try simp only [List.getElem_toArray, List.getElem_cons_zero, List.getElem_cons_succ]); intro w hSw; (try dsimp only at hSw); go_simp
                try simp only [List.getElem_toArray, List.getElem_cons_zero, List.getElem_cons_succ, Act.put, List.setIfInBounds_toArray, List.set_cons_zero, List.set_cons_succ]
                refine wpAnyH_take (i := 4) (v := .pointer (some ⟨bd, 39, none⟩)) rfl (by kernel_rfl) (by kernel_rfl) (by kernel_rfl) (fun _ _ _ h => h) (Or.inl ⟨by rfl, ?_⟩) (by assumption) ?_
                · (try simp only [List.getElem_toArray, List.getElem_cons_zero, List.getElem_cons_succ]); intro w hSw; (try dsimp only at hSw); go_simp
                try simp only [List.getElem_toArray, List.getElem_cons_zero, List.getElem_cons_succ, Act.put, List.setIfInBounds_toArray, List.set_cons_zero, List.set_cons_succ]
                refine wpAnyH_take (i := 5) (v := .int .u32 f) rfl (by kernel_rfl) (by kernel_rfl) (by kernel_rfl) (fun _ _ _ h => h) (Or.inl ⟨by rfl, ?_⟩) (by assumption) ?_
                · (try simp only [List.getElem_toArray, List.getElem_cons_zero, List.getElem_cons_succ]); intro w hSw; (try dsimp only at hSw); go_simp
                try simp only [List.getElem_toArray, List.getElem_cons_zero, List.getElem_cons_succ, Act.put, List.setIfInBounds_toArray, List.set_cons_zero, List.set_cons_succ]
                refine wpAnyH_take (i := 6) (v := .int .i64 f) rfl (by kernel_rfl) (by kernel_rfl) (by kernel_rfl) (fun _ _ _ h => h) (Or.inl ⟨by rfl, ?_⟩) (by assumption) ?_
                · (try simp only [List.getElem_toArray, List.getElem_cons_zero, List.getElem_cons_succ]); intro w hSw; (try dsimp only at hSw); go_simp
                try simp only [List.getElem_toArray, List.getElem_cons_zero, List.getElem_cons_succ, Act.put, List.setIfInBounds_toArray, List.set_cons_zero, List.set_cons_succ]
                refine wpAnyH_take (i := 7) (v := .pointer (some ⟨bd, 39, none⟩)) rfl (by kernel_rfl) (by kernel_rfl) (by kernel_rfl) (fun _ _ _ h => h) (Or.inl ⟨by rfl, ?_⟩) (by assumption) ?_
                · (try simp only [List.getElem_toArray, List.getElem_cons_zero, List.getElem_cons_succ]); intro w hSw; (try dsimp only at hSw); go_simp
                try simp only [List.getElem_toArray, List.getElem_cons_zero, List.getElem_cons_succ, Act.put, List.setIfInBounds_toArray, List.set_cons_zero, List.set_cons_succ]
                refine wpAnyH_take (i := 8) (v := .int .u32 f) rfl (by kernel_rfl) (by kernel_rfl) (by kernel_rfl) (fun _ _ _ h => h) (Or.inl ⟨by rfl, ?_⟩) (by assumption) ?_
                · (try simp only [List.getElem_toArray, List.getElem_cons_zero, List.getElem_cons_succ]); intro w hSw; (try dsimp only at hSw); go_simp
                try simp only [List.getElem_toArray, List.getElem_cons_zero, List.getElem_cons_succ, Act.put, List.setIfInBounds_toArray, List.set_cons_zero, List.set_cons_succ]
                refine wpAnyH_take (i := 9) (v := .int .i64 f) rfl (by kernel_rfl) (by kernel_rfl) (by kernel_rfl) (fun _ _ _ h => h) (Or.inl ⟨by rfl, ?_⟩) (by assumption) ?_
                · (try simp only [List.getElem_toArray, List.getElem_cons_zero, List.getElem_cons_succ]); intro w hSw; (try dsimp only at hSw); go_simp
                try simp only [List.getElem_toArray, List.getElem_cons_zero, List.getElem_cons_succ, Act.put, List.setIfInBounds_toArray, List.set_cons_zero, List.set_cons_succ]
                refine wpAnyH_take (i := 10) (v := .pointer (some ⟨bd, 40, none⟩)) rfl (by kernel_rfl) (by kernel_rfl) (by kernel_rfl) (fun _ _ _ h => h) (Or.inl ⟨by rfl, ?_⟩) (by assumption) ?_
                · (try simp only [List.getElem_toArray, List.getElem_cons_zero, List.getElem_cons_succ]); intro w hSw; (try dsimp only at hSw); go_simp
                try simp only [List.getElem_toArray, List.getElem_cons_zero, List.getElem_cons_succ, Act.put, List.setIfInBounds_toArray, List.set_cons_zero, List.set_cons_succ]
                refine wpAnyH_take (i := 11) (v := .int .i64 mn) rfl (by kernel_rfl) (by kernel_rfl) (by kernel_rfl) (fun _ _ _ h => h) (Or.inl ⟨by rfl, ?_⟩) (by assumption) ?_
                · (try simp only [List.getElem_toArray, List.getElem_cons_zero, List.getElem_cons_succ]); intro w hSw; (try dsimp only at hSw); go_simp
                try simp only [List.getElem_toArray, List.getElem_cons_zero, List.getElem_cons_succ, Act.put, List.setIfInBounds_toArray, List.set_cons_zero, List.set_cons_succ]
                refine wpAnyH_take (i := 12) (v := .int .i64 (f + mn)) rfl (by kernel_rfl) (by kernel_rfl) (by kernel_rfl) (fun _ _ _ h => h) (Or.inl ⟨by rfl, ?_⟩) (by assumption) ?_
                · (try simp only [List.getElem_toArray, List.getElem_cons_zero, List.getElem_cons_succ]); intro w hSw; (try dsimp only at hSw); go_simp
                try simp only [List.getElem_toArray, List.getElem_cons_zero, List.getElem_cons_succ, Act.put, List.setIfInBounds_toArray, List.set_cons_zero, List.set_cons_succ]
                refine wpAnyH_take (i := 13) (v := .slice (if cm = f.toNat then am else Option.map (fun x => x.add f.toNat) am) ((f + mn).toNat - f.toNat) (cm - f.toNat)) rfl (by kernel_rfl) (by kernel_rfl) (by kernel_rfl) (fun _ _ _ h => h) (Or.inl ⟨by rfl, ?_⟩) (by assumption) ?_
                · (try simp only [List.getElem_toArray, List.getElem_cons_zero, List.getElem_cons_succ]); intro w hSw; (try dsimp only at hSw); go_simp
                try simp only [List.getElem_toArray, List.getElem_cons_zero, List.getElem_cons_succ, Act.put, List.setIfInBounds_toArray, List.set_cons_zero, List.set_cons_succ]
                clear k0 k2 k3
                refine wpAnyH_ready (rs := [1]) (by kernel_rfl) (by simp) ?_
                refine AllReadyH.cons rfl (fun K hK => ?_) AllReadyH.nil
                go_simp
                refine hK.out _ _ HK.out (fun hHeld2 => ?_)
                clear hK K
                refine wpAnyH_ready (rs := [14]) (by kernel_rfl) (by simp) ?_
                refine AllReadyH.cons rfl (fun K hK => ?_) AllReadyH.nil
                refine step_append_any (by rfl) _ _ _ (by rfl) (wr.heap.size + 1) 5 iu _ 1 1 Try.underlying22 hiu hu0 hu1 hu2 (by rfl) (by omega) (.slice none 0 0) 0 [] (by rfl) (World.ownsRow_nil _ _ _ _)
                  (.slice (if cm = f.toNat then am else Option.map (fun x => x.add f.toNat) am) ((f + mn).toNat - f.toNat) (cm - f.toNat)) bs.length (bs.map (Value.int .u8)) (by rfl) (HSL.out _ HCL.out.1 HCL.out.2) (u8_one _) (by have := HBL.out; omega) (by have := HBL.out; unfold maxLen; omega) (by have := HKL.out; show _ ≤ w13.heap.size; omega) ?_
                intro v3 w14 hown3 hgrow
                obtain ⟨ao3, cp3, rfl⟩ := owns_slice hown3
                have hu14 := HU13.out.keep (hgrow.block wr.heap.size (by have := HKL.out; show _ < w13.heap.size; omega) (by intro e; cases e))
                have z39 := hu14.get 1 _ rfl
                have fz39 := hu14.frz 39
                have HO3 := Lib.hid hown3
                have HG3 := Lib.hid hgrow
                have HU14 := Lib.hid hu14
                have HK14 : Hid (w14.cell? ⟨nb, 0, none⟩ = some (.slice am s1.mem.length cm) ∧ w14.cell? ⟨bd, 39, none⟩ = some (.int .u32 f) ∧ w14.cell? ⟨bd, 40, none⟩ = some (.int .i64 mn)) := Lib.hid ⟨(hgrow.cell_far ⟨nb, 0, none⟩ (by have := HKL.out; show nb < w13.heap.size; omega) (by intro e; cases e)).trans HK.out.1, (hgrow.cell_far ⟨bd, 39, none⟩ (by have := HKL.out; show bd < w13.heap.size; omega) (by intro e; cases e)).trans HK.out.2.1, (hgrow.cell_far ⟨bd, 40, none⟩ (by have := HKL.out; show bd < w13.heap.size; omega) (by intro e; cases e)).trans HK.out.2.2⟩
                clear hown3 hgrow hu14
                refine hK.out _ _ HK14.out (fun hHeld3 => ?_)
                clear hK K
                refine wpAnyH_take (i := 15) (v := .pointer (some ⟨wr.heap.size, 39, none⟩)) rfl (by kernel_rfl) (by kernel_rfl) (by kernel_rfl) (fun _ _ _ h => h) (Or.inl ⟨by rfl, ?_⟩) (by assumption) ?_
                · (try simp only [List.getElem_toArray, List.getElem_cons_zero, List.getElem_cons_succ]); intro w hSw; (try dsimp only at hSw); go_simp
                try simp only [List.getElem_toArray, List.getElem_cons_zero, List.getElem_cons_succ, Act.put, List.setIfInBounds_toArray, List.set_cons_zero, List.set_cons_succ]
                refine wpAnyH_ready (rs := [16]) (by kernel_rfl) (by simp) ?_
                refine AllReadyH.cons rfl (fun K hK => ?_) AllReadyH.nil
                go_simp
                have hne := HKL.out
                refine hK.out _ _ ⟨(World.cell?_setCell_other _ _ _ _ (by intro e; injection e with e1 e2; omega)).trans HK14.out.1, (World.cell?_setCell_other _ _ _ _ (by intro e; injection e with e1 e2; omega)).trans HK14.out.2.1, (World.cell?_setCell_other _ _ _ _ (by intro e; injection e with e1 e2; omega)).trans HK14.out.2.2⟩ (fun hHeld4 => ?_)
                clear hK K
                refine wpAnyH_done (by kernel_rfl) ?_ _
                go_wp2_with fail
                go_meet
                case rel =>
                  refine ⟨.slice ao3 bs.length cp3, Lib.hid ⟨((HF13.out.drew.trans (S' := fun _ => False) (Fr.of_grown (S := fun _ => False) HG3.out (by intro j e; cases e)) (fun _ _ h => h.elim)).setCell _ _ rfl), ?_, ?_⟩⟩
                  · have := HU14.out.set 1 (.slice ao3 bs.length cp3) rfl
                    rw [HFX.out, if_pos (by have := HF.out.1; have := HF.out.2; omega), ← HF.out.1]
                    exact this
                  · have h3 := HO3.out
                    rw [Nat.zero_add, List.nil_append] at h3
                    refine owns_block h3 (fun g hg => Below.heap_setCell _ _ _ _ ?_)
                    have := (h3.lt g hg).1
                    show g ≠ wr.heap.size
                    omega
              · have hp2 := Lib.hid hp
                go_wp2_with fail
                go_meet
                case rel =>
                  refine ⟨.slice none 0 0, Lib.hid ⟨Fr.refl _ _, ?_, ?_⟩⟩
                  · rw [HFX.out, if_neg (by have := hp2.out; have := HF.out.1; have := HF.out.2; omega)]
                    exact HUB.out
                  · rw [HBS.out, if_neg (by have := hp2.out; have := HF.out.1; have := HF.out.2; omega)]
                    exact World.ownsRow_nil _ _ _ _
            case rest =>
              obtain ⟨wx, rfl⟩ : ∃ x : World, x = wc := ⟨_, rfl⟩
              obtain ⟨vb, HX⟩ := hcut
              clear u38 u39 fu38 fu39 t2 t3
              have hsx2 := HX.out.1.size
              have HB3 : Hid (Below wr.heap.size wr wd) := Lib.hid (HB6.out.trans (HC.out.1.mono (by omega)))
              have HBX : Hid (Below wr.heap.size wr wx) := Lib.hid (HB3.out.trans (HX.out.1.below (B := wr.heap.size) (fun q hq (e : q = wr.heap.size) => by omega) (by omega)))
              have j0 := (HX.out.1.block nb (by omega) (by show ¬ nb = wr.heap.size; omega)) 
              have z0 := (cell_block j0 0).trans m0
              have z1 := (cell_block j0 1).trans m1
              obtain ⟨w14, hw14⟩ : ∃ x, x = wx.alloc (.cells #[.int .i64 k, .int .i64 1] 37) := ⟨_, rfl⟩
              have hb14 : Below wx.heap.size wx w14 := by rw [hw14]; exact Below.alloc (Below.refl _ _) (Nat.le_refl _) _
              have hs14 : wx.heap.size < w14.heap.size := by rw [hw14]; simp
              have HB14 := Lib.hid (HBX.out.trans (hb14.mono (by omega)))
              obtain ⟨hpo1, hpo2, hpo3⟩ := play_one HD.out.good (k := k) (by omega) (by omega) HST.out.symm
              obtain ⟨s8, hs8⟩ : ∃ x, x = goM k s1 := ⟨_, rfl⟩
              have HS8 := Lib.hid hs8
              have HL8 : Hid (s8.harts.length = m.harts.length) := Lib.hid (by rw [hs8, goM_len]; exact i2)
              have HG8 : Hid s8.Good := Lib.hid (by rw [hs8]; exact goM_good HD.out.good HST.out.symm)
              rw [← hs8] at hpo2
              have HPL := Lib.hid (play_own (.slice am s1.mem.length cm) (.slice (some ⟨bh, 0, none⟩) m.harts.length hc) (.slice (some ⟨wx.heap.size, 0, none⟩) 1 1) s1.mach ⟨HD.out.good.wf.mem, HD.out.good.wf.harts⟩ [((k : Int), 1)] w14 (by have := HD.out.mach.below HB14.out; rw [i2] at this; exact this) (Picks.one (by rw [hw14]; exact at_alloc wx [.int .i64 k, .int .i64 1] _ _)) hpo1)
              have HLP : Hid ((playM [((k : Int), 1)] (startM s1.mach)).harts.length = m.harts.length) := Lib.hid (by rw [hpo3, i2])
              have HPM := Lib.hid hpo2
              have HW14 := Lib.hid hw14
              have y0 := (hb14.cell (p := ⟨nb, 0, none⟩) (lt_of_cell z0)).trans z0
              have y1 := (hb14.cell (p := ⟨nb, 1, none⟩) (lt_of_cell z1)).trans z1
              have hnx2 : nb < wr.heap.size := hnbl
              clear hpo1 hpo2 hpo3 hs8 hw14 hb14 m0 m1 j0
              go_wp2_with fail
              rw [← HW14.out]
              refine HPL.out.mono ?_
              rintro e w15 ⟨⟨vm', vh', vo', rfl, hsh, hfm, bh', hc', hvh, hfh⟩, hb15⟩
              rw [HLP.out] at hvh
              subst hvh
              have hmq : MachAt w15 vm' (.slice (some ⟨bh', 0, none⟩) m.harts.length hc') s8.mach := by have := hsh.mach; rw [show (playM [((k : Int), 1)] (startM s1.mach)).mach = s8.mach from HPM.out] at this; exact this
              have hfm' : s8.mem ≠ [] → ∀ q, vm'.ownBlock = some q → wr.heap.size < q := fun hne q e => by
                have := hfm (by have e2 := congrArg Mach.mem HPM.out; rw [show (playM [((k : Int), 1)] (startM s1.mach)).mem = s8.mem from e2]; exact hne) q e
                omega
              obtain ⟨am', cm', hvm', -⟩ := hmq.1.open
              obtain ⟨m1, m2, -, m4, m5, m6⟩ := mach_open hmq (by show 1 ≤ s8.harts.length; rw [HL8.out]; omega) HG8.out.wf.harts
              have hs15 := hb15.size
              obtain ⟨nx, hnx⟩ : ∃ x, x = w15.heap.size := ⟨_, rfl⟩
              obtain ⟨w16, hw16⟩ : ∃ x, x = w15.alloc (.cells #[vm', .slice (some ⟨bh', 0, none⟩) m.harts.length hc'] 25) := ⟨_, rfl⟩
              have hb16 : Below w15.heap.size w15 w16 := by rw [hw16]; exact Below.alloc (Below.refl _ _) (Nat.le_refl _) _
              have hs16 : w15.heap.size < w16.heap.size := by rw [hw16]; simp
              have HNX : Hid (w16.heap[nx]? = some (.cells #[vm', .slice (some ⟨bh', 0, none⟩) m.harts.length hc'] 25 (0, 0))) := Lib.hid (by rw [hw16, hnx]; exact heap_alloc_new _ _)
              have hb1516 : Below wx.heap.size wx w16 := (((show Below wx.heap.size wx w14 from by rw [HW14.out]; exact Below.alloc (Below.refl _ _) (Nat.le_refl _) _).trans (hb15.mono (by omega))).trans (hb16.mono (by omega)))
              have HM16 := Lib.hid (hmq.below hb16)
              have HB16 := Lib.hid (HBX.out.trans (hb1516.mono (by omega)))
              have HU16 : Hid (UBx 93 wr.heap.size k (s1.hart k) (.int .u32 fx) vb (.slice none 0 0) w16) := Lib.hid (HX.out.2.1.keep (hb1516.block _ (by omega)))
              have HY16 := Lib.hid (owns_below HX.out.2.2 hb1516)
              have HAT16 : Hid (At w16 bh' 0 (s8.harts.flatMap hlist)) := Lib.hid (m2.below hb16)
              have HNB16 : Hid (w16.heap[nb]? = some (.cells #[.slice am s1.mem.length cm, .slice (some ⟨bh, 0, none⟩) m.harts.length hc] 25 (0, 0))) := Lib.hid (by
                have := HD.out.blk
                rw [i2] at this
                exact (HB16.out.block nb hnx2).trans this)
              have HHB16 : Hid (At w16 bh 0 (s1.harts.flatMap hlist)) := Lib.hid (HD.out.harts.below HB16.out)
              have HFM := Lib.hid hfm'
              have HGE : Hid (wr.heap.size < bh' ∧ wr.heap.size < nx ∧ bh < wr.heap.size ∧ nx < w16.heap.size ∧ bh' < w16.heap.size) := Lib.hid (by have := HD.out.hlt; omega)
              have HW16 := Lib.hid hw16
              rw [hvm'] at hw16
              have hfld := field_mach vm' (.slice (some ⟨bh', 0, none⟩) m.harts.length hc') vo' (.int .i64 (playM [((k : Int), 1)] (startM s1.mach)).steps) w15
              have hsz16 : w3.heap.size ≤ w16.heap.size ∧ wr.heap.size < w16.heap.size := by omega
              subst hvm'
              clear y0 y1 z0 z1 hsh hfm hfm' hmq m1 m2 m4 m6 hb15 hb16 hb1516 hw16 HPL HPM
              go_upto_region 16 with (fail)
              rw [← HW16.out, ← hnx]
              clear hfld hnx hs15 hs16
              go_wp2_with fail
              obtain ⟨wR, rfl⟩ : ∃ x : World, x = wr := ⟨_, rfl⟩
              go_loopw [13] (fun i wl => ∃ n3 : Nat, i = .int .i64 n3 ∧ n3 ≤ m.harts.length ∧ w16.heap.size ≤ wl.heap.size ∧ ∃ vl, Hid (Fr (fun q => q = wR.heap.size) w16 wl ∧ UBx 93 wR.heap.size k (s1.hart k) (.int .u32 fx) vb vl wl ∧ wl.ownsRow w16.heap.size 95 2 vl (lostN k s1.harts s8.harts n3).length ((lostN k s1.harts s8.harts n3).flatMap llist))) (fun i _ => m.harts.length - (intOf i).toNat)
              case atStart => exact ⟨0, rfl, by omega, Nat.le_refl _, _, Lib.hid ⟨Fr.refl _ _, HU16.out, World.ownsRow_nil _ _ _ _⟩⟩
              case round =>
                obtain ⟨n3, rfl, hn3, hsr, vl, HI3⟩ := hrel
                have hge := HGE.out
                have hk16 : ∀ q, q < w16.heap.size → q ≠ wR.heap.size → wr.heap[q]? = w16.heap[q]? := fun q h1 h2 => HI3.out.1.block q h1 h2
                have c1 := (cell_block (hk16 nb (by omega) (by omega)) 1).trans (ucell_of HNB16.out rfl)
                have x1 := (cell_block (hk16 nx hge.2.2.2.1 (by omega)) 1).trans (ucell_of HNX.out rfl)
                by_cases hlt3 : n3 < m.harts.length
                · have hlt1 : n3 < s1.harts.length := by omega
                  have hlt8 : n3 < s8.harts.length := by rw [HL8.out]; exact hlt3
                  have hel := at_hart (show At wr bh 0 (s1.harts.flatMap hlist) from fun j hj => (cell_block (hk16 bh (by omega) (by omega)) _).trans (HHB16.out j hj)) (fun x hx => hlist_length (HD.out.good.wf.harts x hx)) hlt1
                  have hgel := at_hart (show At wr bh' 0 (s8.harts.flatMap hlist) from fun j hj => (cell_block (hk16 bh' hge.2.2.2.2 (by omega)) _).trans (HAT16.out j hj)) (fun x hx => hlist_length (HG8.out.wf.harts x hx)) hlt8
                  have whn := HD.out.good.wf.harts s1.harts[n3] (List.getElem_mem hlt1)
                  have wgn := HG8.out.wf.harts s8.harts[n3] (List.getElem_mem hlt8)
                  have x33 := hel.get (hlist_held whn)
                  have x34 := hel.get (hlist_heldAt whn)
                  have g33 := hgel.get (hlist_held wgn)
                  have u40 := HI3.out.2.1.get 2 vl rfl
                  have fu40 := HI3.out.2.1.frz 40
                  have HLN3 : Hid (lostN k s1.harts s8.harts (n3 + 1) = lostN k s1.harts s8.harts n3 ++ if n3 ≠ k ∧ s1.harts[n3].held = true ∧ s8.harts[n3].held = false then [((n3 : Int), s1.harts[n3].heldAt)] else []) := Lib.hid (by
                    show lostN k s1.harts s8.harts n3 ++ lost1 k s1.harts s8.harts n3 = _
                    unfold lost1
                    rw [List.getD_eq_getElem?_getD, List.getD_eq_getElem?_getD, List.getElem?_eq_getElem hlt1, List.getElem?_eq_getElem hlt8]
                    rfl)
                  obtain ⟨xh, hxh⟩ : ∃ b, b = s1.harts[n3].held := ⟨_, rfl⟩
                  obtain ⟨xa, hxa⟩ : ∃ b, b = s1.harts[n3].heldAt := ⟨_, rfl⟩
                  obtain ⟨yh, hyh⟩ : ∃ b, b = s8.harts[n3].held := ⟨_, rfl⟩
                  rw [← hxh] at x33 HLN3
                  rw [← hxa] at x34 HLN3
                  rw [← hyh] at g33 HLN3
                  have HLL := Lib.hid (lostN_len k s1.harts s8.harts n3)
                  have i03 : (0 : Int) ≤ (n3 : Int) := by omega
                  have i13 : (n3 : Int) < (m.harts.length : Int) := by omega
                  have HRD : Hid (∀ w', Fr (fun q => q = wR.heap.size) w16 w' → ∀ vl', UBx 93 wR.heap.size k (s1.hart k) (.int .u32 fx) vb vl' w' → w'.ownsRow w16.heap.size 95 2 vl' (lostN k s1.harts s8.harts (n3 + 1)).length ((lostN k s1.harts s8.harts (n3 + 1)).flatMap llist) → (∃ n' : Nat, Value.int .i64 ((n3 : Int) + 1) = .int .i64 n' ∧ n' ≤ m.harts.length ∧ w16.heap.size ≤ w'.heap.size ∧ ∃ vl, Hid (Fr (fun q => q = wR.heap.size) w16 w' ∧ UBx 93 wR.heap.size k (s1.hart k) (.int .u32 fx) vb vl w' ∧ w'.ownsRow w16.heap.size 95 2 vl (lostN k s1.harts s8.harts n').length ((lostN k s1.harts s8.harts n').flatMap llist)))) := Lib.hid (fun w' h1 vl' h2 h3 =>
                    ⟨n3 + 1, by simp, by omega, h1.size, vl', Lib.hid ⟨h1, h2, h3⟩⟩)
                  have HNO : Hid (¬ (n3 ≠ k ∧ xh = true ∧ yh = false) → ∃ vl', UBx 93 wR.heap.size k (s1.hart k) (.int .u32 fx) vb vl' wr ∧ wr.ownsRow w16.heap.size 95 2 vl' (lostN k s1.harts s8.harts (n3 + 1)).length ((lostN k s1.harts s8.harts (n3 + 1)).flatMap llist)) := Lib.hid (fun hno => ⟨_, HI3.out.2.1, by
                    rw [HLN3.out, if_neg hno, List.append_nil]
                    exact HI3.out.2.2⟩)
                  clear hel hgel whn wgn hxh hxa hyh hge hk16
                  by_cases hnk : (n3 : Int) = k
                  · go_wp2_with fail
                    go_roundw
                    case rel =>
                      obtain ⟨vl', h1, h2⟩ := HNO.out (fun h => h.1 (by omega))
                      have := HRD.out _ HI3.out.1 vl' h1 h2
                      rw [hnk] at this
                      exact this
                    case measure => simp [intOf]; omega
                  · cases xh with
                    | false =>
                      go_wp2_with fail
                      go_roundw
                      case rel =>
                        obtain ⟨vl', h1, h2⟩ := HNO.out (fun h => by cases h.2.1)
                        have := HRD.out _ HI3.out.1 vl' h1 h2
                        simpa using this
                      case measure => simp [intOf]; omega
                    | true =>
                      cases yh with
                      | true =>
                        go_wp2_with fail
                        go_roundw
                        case rel =>
                          obtain ⟨vl', h1, h2⟩ := HNO.out (fun h => by cases h.2.2)
                          have := HRD.out _ HI3.out.1 vl' h1 h2
                          simpa using this
                        case measure => simp [intOf]; omega
                      | false =>
                        obtain ⟨li, hli, hl0, hl1, hl2⟩ := info_parts info_lost
                        obtain ⟨al, cl, rfl⟩ := owns_slice HI3.out.2.2
                        have hnk' : n3 ≠ k := fun e => hnk (by omega)
                        have HNK := Lib.hid hnk'
                        have hll : (lostN k s1.harts s8.harts n3).length ≤ 4 := by have := HLL.out; omega
                        have hmax : ((lostN k s1.harts s8.harts n3).length + 1) ≤ maxLen := by unfold maxLen; omega
                        have hubl : wR.heap.size < wr.heap.size := HI3.out.2.1.lt
                        have HNE : Hid (some wR.heap.size ≠ (Value.slice al (lostN k s1.harts s8.harts n3).length cl).ownBlock) := Lib.hid (fun e => by have := (HI3.out.2.2.lt _ e.symm).1; omega)
                        clear hnk'
                        go_upto_region 20 with (fail)
                        have hone2 : ∀ u ∈ llist ((n3 : Int), xa), u.oneCell' = true := by intro u hu; simp [llist] at hu; rcases hu with rfl | rfl <;> rfl
                        have HDB : Hid (Below wr.heap.size wr (wr.alloc (.cells #[.int .i64 n3, .int .u32 xa] 95)).drew) := Lib.hid (Below.drew (Below.alloc (Below.refl _ _) (Nat.le_refl _) _))
                        have HAT2 : Hid (∀ (j : Nat) (u : Value), (llist ((n3 : Int), xa))[j]? = some u → (wr.alloc (.cells #[.int .i64 n3, .int .u32 xa] 95)).drew.cell? ((⟨wr.heap.size, 0, none⟩ : Addr).add j) = some u) := Lib.hid (fun j u hu => by
                          have hj := (List.getElem?_eq_some_iff.1 hu).1
                          have hat : At (wr.alloc (.cells #[.int .i64 n3, .int .u32 xa] 95)).drew wr.heap.size 0 (llist ((n3 : Int), xa)) := At.below (at_alloc wr (llist ((n3 : Int), xa)) _ _) (Below.drew (Below.refl _ _))
                          rw [show Addr.add ⟨wr.heap.size, 0, none⟩ j = ⟨wr.heap.size, 0 + j, none⟩ by unfold Addr.add; split <;> simp_all, hat j hj, ← hu, List.getElem?_eq_getElem hj])
                        go_region_law (
                          refine step_append_at (by rfl) _ _ _ (by rfl) w16.heap.size 95 li _ 2 16 Try.underlying91 hli hl0 hl1 hl2 (by rfl) (by decide) (.slice al (lostN k s1.harts s8.harts n3).length cl) (lostN k s1.harts s8.harts n3).length ((lostN k s1.harts s8.harts n3).flatMap llist) (by rfl) (owns_below HI3.out.2.2 HDB.out) ⟨wr.heap.size, 0, none⟩ 1 1 (llist ((n3 : Int), xa)) (by rfl) (by rfl) HAT2.out hone2 hmax (by omega) (Nat.le_trans hsr HDB.out.size) ?_
                          intro v' w17 hown hgrow hnew
                          obtain ⟨a3, c3', rfl⟩ := owns_slice hown
                          have hu17 := (HI3.out.2.1.keep (HDB.out.block _ hubl)).keep (hgrow.block _ (Nat.lt_of_lt_of_le hubl HDB.out.size) HNE.out)
                          have u17 := hu17.get 2 _ rfl
                          have fu17 := hu17.frz 40
                          have HU17 := Lib.hid hu17
                          have HW17 := Lib.hid hown
                          have F17 : Hid (Fr (fun q => q = wR.heap.size) w16 w17) := Lib.hid ((HI3.out.1.trans (S' := fun j => wr.heap.size ≤ j) (Fr.of_below HDB.out (fun j h1 h2 => h1)) (fun j h1 h2 => by omega)).trans (S' := fun j => some j = (Value.slice al (lostN k s1.harts s8.harts n3).length cl).ownBlock) (Fr.of_grown hgrow (fun j e => e)) (fun j h1 h2 => by
                            have := (HI3.out.2.2.lt _ h2.symm).1
                            omega))
                          clear hown hgrow hnew hu17)
                        all_goals
                          go_wp2_with fail
                          go_roundw
                          case rel =>
                            have := HRD.out _ (F17.out.setCell _ _ rfl) _ (HU17.out.set 2 _ rfl) (by
                              rw [HLN3.out, if_pos ⟨HNK.out, by first | rfl | trivial, by first | rfl | trivial⟩, List.length_append, List.flatMap_append]
                              refine owns_block HW17.out (fun g hg => Below.heap_setCell _ _ _ _ ?_)
                              have := (HW17.out.lt g hg).1
                              have := hsz16.2
                              show g ≠ wR.heap.size
                              omega)
                            exact this
                          case measure => simp [intOf]; omega
                · obtain rfl : n3 = m.harts.length := by omega
                  obtain ⟨L, hL⟩ : ∃ L : List Value, L = Value.int .i64 k :: (hlist (s1.hart k) ++ [.int .u32 fx, vb, vl]) := ⟨_, rfl⟩
                  have hL41 : L.length = 41 := by rw [hL]; simp [hlist_len wfh.len]
                  have hatL : At wr wR.heap.size 0 L.toArray.toList := by rw [hL]; exact HI3.out.2.1.at_
                  have hszL : (Try.prog.info? 93).map (·.size) = some L.toArray.size := by rw [List.size_toArray, hL41]; kernel_rfl
                  have HBS2 : Hid ((Instr.buildSlice 41 1 #[(0, .agg L.toArray)]).run Try.prog wr = .ok (.slice (some ⟨wr.heap.size, 0, none⟩) 1 1) (wr.alloc (.cells L.toArray 93))) := Lib.hid (by rw [hL]; exact buildSlice_undo k (s1.hart k) wfh.len _ _ _ wr)
                  have honeL : ∀ u ∈ L, u.oneCell' = true := by
                    obtain ⟨a1, b1, hv1⟩ := owns_slice HI3.out.2.2
                    obtain ⟨a2, b2, hv2⟩ := owns_slice HY16.out
                    rw [hL, hv1, hv2]
                    intro u hu
                    simp only [List.mem_cons, List.mem_append, List.not_mem_nil, or_false] at hu
                    rcases hu with rfl | hu | rfl | rfl | rfl
                    · rfl
                    · exact hlist_one (s1.hart k) u (by simpa [hcells] using hu)
                    all_goals rfl
                  obtain ⟨w17, hw17⟩ : ∃ x, x = wr.alloc (.cells L.toArray 93) := ⟨_, rfl⟩
                  have hb17 : Below wr.heap.size wr w17 := by rw [hw17]; exact Below.alloc (Below.refl _ _) (Nat.le_refl _) _
                  have HSL17 : Hid (Sl w17 (.slice (some ⟨wr.heap.size, 0, none⟩) 1 1) 41 1 L) := Lib.hid (Sl.mk (by rw [hw17]; exact at_alloc wr L _ _) (by rw [hL41]) (Nat.le_refl _) (by decide))
                  have HBR : Hid (Below wR.heap.size wR w17) := Lib.hid ((HB16.out.trans (HI3.out.1.below (B := wR.heap.size) (fun q hq (e : q = wR.heap.size) => by omega) (by omega))).trans (hb17.mono (by omega)))
                  have HUP17 := Lib.hid (owns_below HD.out.up.own HBR.out)
                  have hk17 : ∀ q, q < w16.heap.size → q ≠ wR.heap.size → w17.heap[q]? = w16.heap[q]? := fun q h1 h2 => (hb17.block q (by omega)).trans (HI3.out.1.block q h1 h2)
                  have HY17 := Lib.hid (owns_block HY16.out (fun g hg => hk17 g (HY16.out.lt g hg).2 (by have := (HY16.out.lt g hg).1; omega)))
                  have HLO17 := Lib.hid (owns_below HI3.out.2.2 hb17)
                  have HMQ17 : Hid (MachAt w17 (.slice am' s8.mach.mem.length cm') (.slice (some ⟨bh', 0, none⟩) m.harts.length hc') s8.mach) := Lib.hid ⟨ints_move HM16.out.1 (fun hne q e => hk17 q (ints_lt HM16.out.1 hne e) (by have := HFM.out hne q e; omega)), sl_block HM16.out.2 (fun g e => by
                    obtain rfl : bh' = g := by cases e; rfl
                    exact hk17 bh' (by omega) (by omega))⟩
                  have nb17 := (hk17 nb (by omega) (by omega)).trans HNB16.out
                  have nx17 := (hk17 nx (by omega) (by omega)).trans HNX.out
                  obtain ⟨ud, hud⟩ : ∃ x : UndD, x = ⟨⟨k, s1.hart k, fx, bs, lostN k s1.harts s8.harts m.harts.length⟩, vb, vl⟩ := ⟨_, rfl⟩
                  have HUDD : Hid (ud.d = undoOf k s1) := Lib.hid (by
                    rw [hud]
                    show (⟨k, s1.hart k, fx, bs, lostN k s1.harts s8.harts m.harts.length⟩ : UndoD) = undoOf k s1
                    unfold undoOf
                    rw [HFX.out, HBS.out, HDS.out, HS8.out, i2])
                  have hul : ulist ud = L := by rw [hud, hL]; rfl
                  have HSTEP : Hid (∀ v' w18, w18.ownsRow w.heap.size 93 41 v' (us.length + 1) (us.flatMap ulist ++ L) → w17.grownBy w18 u5.ownBlock → (∀ q, v'.ownBlock = some q → u5.ownBlock = some q ∨ w17.heap.size ≤ q) → DN w.heap.size nb bh' hc' (.slice am' s8.mach.mem.length cm') v' (us ++ [ud]) w ((w18.setCell ⟨nb, 0, none⟩ (.slice am' s8.mach.mem.length cm')).setCell ⟨nb, 1, none⟩ (.slice (some ⟨bh', 0, none⟩) m.harts.length hc')) s8 (l1 ++ [undoOf k s1])) := Lib.hid (fun v' w18 h1 h2 h3 => by
                    have hh := HD.out.step (x := ud) hWB HBR.out HST.out.symm (by omega) HUDD.out (by rw [hud]; exact owns_mono HY17.out (by omega)) (by rw [hud]; exact owns_mono HLO17.out (by omega)) (by rw [← HS8.out, HL8.out]; exact HMQ17.out) (fun hne q e => by rw [← HS8.out] at hne; have := HFM.out hne q e; omega) (by omega) (by rw [hul]; exact h1) h2 h3
                    rw [← HS8.out, HL8.out] at hh
                    exact hh)
                  have HUO := Lib.hid HD.out.up.own
                  have HULN : Hid (us.length ≤ 400 * n + j) := Lib.hid i3
                  have HNN : Hid (∀ (q : Nat), u5.ownBlock = some q → q ≠ nb ∧ q ≠ nx) := Lib.hid (fun q e => by
                    have h1 := (HD.out.up.own.lt q e).2
                    obtain ⟨cs, fz, h2⟩ := own_ty HD.out.up.own e
                    refine ⟨fun e2 => ?_, fun e2 => by omega⟩
                    rw [e2, HD.out.blk] at h2; cases h2)
                  have HW17E := Lib.hid hw17
                  have hul2 : us.length + 1 ≤ maxLen := by unfold maxLen; omega
                  obtain ⟨iq, hiq, hq0, hq1, hq2⟩ := info_parts info_undo
                  have hsz17 := hb17.size
                  have hgx := hge
                  have HNBX := Lib.hid (And.intro nb17 nx17)
                  have hnbl17 : nb < w17.heap.size := heap_lt nb17
                  have hnxl17 : nx < w17.heap.size := heap_lt nx17
                  have hneL : L.length = 1 * 41 := by rw [hL41]
                  clear hL hul hud hb17 hw17 hk17 nb17 nx17 hk16
                  go_upto_region 21 with (fail)
                  go_wp2_with (first | (refine wpList_load_at rfl 93 _ rfl wR.heap.size 0 rfl L.toArray _ hatL Try.underlying93 rfl hszL ?_) | (refine wpList_buildSlice1 rfl _ _ rfl (.agg L.toArray) rfl w17 (.slice (some ⟨wr.heap.size, 0, none⟩) 1 1) (by rw [HW17E.out]; exact HBS2.out) ?_) | (at_builtin; (refine append_at rfl _ _ 41 rfl w.heap.size 93 iq _ 41 224 Try.underlying41 hiq hq0 hq1 hq2 (by rfl) (by decide) u5 us.length (us.flatMap ulist) rfl HUP17.out _ 1 L rfl HSL17.out honeL (by omega) hul2 (by omega) ?h21)))
                  case h21 =>
                    intro v' w18 hown hgrow hnew
                    have hst := HSTEP.out v' w18 hown hgrow hnew
                    have nb18 := (hgrow.block nb hnbl17 (fun e => (HNN.out nb e.symm).1 rfl)).trans HNBX.out.1
                    have nx18 := (hgrow.block nx hnxl17 (fun e => (HNN.out nx e.symm).2 rfl)).trans HNBX.out.2
                    have b0 := ucell_of (o := 0) nb18 rfl
                    have b1 := ucell_of (o := 1) nb18 rfl
                    have x0 := ucell_of (o := 0) nx18 rfl
                    have x1 := ucell_of (o := 1) nx18 rfl
                    have f0 := frz_of nb18 0
                    have f1 := frz_of nb18 1
                    have HN := Lib.hid hst
                    have hz : w3.heap.size ≤ w18.heap.size := by have := hgrow.size; omega
                    clear hown hgrow hnew hst nb18 nx18 hatL
                    go_wp2_with fail
                    go_roundw
                    case rel =>
                      refine ⟨j + 1, by simp, by omega, by simpa [World.setCell] using hz, bh', hc', _, us ++ [ud], s8, _, Lib.hid ⟨HN.out, HL8.out, by rw [List.length_append, List.length_singleton]; omega, ?_, ?_⟩⟩
                      · rw [i4, show N - j = (N - (j + 1)) + 1 by omega, HS8.out]
                        conv => lhs; unfold pickM
                        rw [if_pos HST.out.symm]
                      · rw [← i5, show N - j = (N - (j + 1)) + 1 by omega, HS8.out]
                        conv => rhs; unfold undoPick
                        rw [if_pos HST.out.symm, List.append_assoc, List.singleton_append]
                    case measure => simp [intOf]; omega
        · have hfin : pickM k N s0 = s1 ∧ l1 = l0 ++ undoPick k N s0 := by
            by_cases e : j < N
            · have hst : ¬ (s1.hart k).state = 0 := fun e2 => hgo ⟨e, by rw [HST.out]; exact e2⟩
              rw [undoPick_stop hst, List.append_nil] at i5
              exact ⟨by rw [i4, pickM_stop hst], i5⟩
            · obtain rfl : j = N := by omega
              rw [Nat.sub_self] at i4 i5
              exact ⟨i4, (List.append_nil _).symm.trans i5⟩
          have hex : j = N ∨ (j < N ∧ ¬ st = 0) := by
            by_cases e : j < N
            · exact .inr ⟨e, fun e2 => hgo ⟨e, e2⟩⟩
            · exact .inl (by omega)
          have HEND : Hid (∃ n' : Nat, ((n : Int) + 1) = (n' : Int) ∧ n' ≤ l.length ∧ w3.heap.size ≤ wr.heap.size ∧ ∃ (bh hc : Nat) (vm : Value) (us : List UndD), Hid (DN w.heap.size nb bh hc vm u5 us w wr (playM (l.take n') (startM m)) (undoPlay (l.take n') (startM m)))) := Lib.hid ⟨n + 1, by simp, hlt, hsx, bh, hc, vm, us, Lib.hid (by rw [← HSN.out, HNX.out.1, hfin.1, ← HLN.out, HNX.out.2, ← hfin.2]; exact i1)⟩
          clear hfin HI HNX HSN HLN hgo i1 i2 i3 i4 i5
          rcases hex with rfl | ⟨hjN, hst0⟩
          all_goals
            go_wp2_with fail
            refine ⟨?_, by simp [intOf]; omega⟩
            obtain ⟨n', e1, e2⟩ := HEND.out
            exact ⟨n', by rw [e1], e2⟩
    · obtain rfl : n = l.length := by omega
      rw [List.take_length] at HR
      rw [← HUF.out] at HR
      go_wp2_with fail
      go_ret
      exact ⟨⟨_, us, rfl, HR.out.up, HR.out.eq⟩, HR.out.bel⟩
end Go.Proofs.Ytlfnddmncbkjaac.W
