import Derived.Test.YtlfnddmncbkjaacZWUndo12
import Derived.Test.YtlfnddmncbkjaacZFbBack
set_option linter.unusedVariables false
set_option linter.unusedSimpArgs false
set_option maxRecDepth 100000
set_option maxHeartbeats 4000000
namespace Go.Proofs.Ytlfnddmncbkjaac.W
open Go.RowKit Fb
theorem heap_fill4 {w : World} {b : Nat} {x0 x1 x2 x3 : Value} {t : TypeId} (h : w.heap[b]? = some (.cells #[x0, x1, x2, x3] t (0, 0))) (v0 v1 v2 v3 : Value) : ((((w.setCell ⟨b, 0, none⟩ v0).setCell ⟨b, 1, none⟩ v1).setCell ⟨b, 2, none⟩ v2).setCell ⟨b, 3, none⟩ v3).heap[b]? = some (.cells #[v0, v1, v2, v3] t (0, 0)) := by
  simp [World.setCell, Array.getElem?_modify, h]
theorem heap_setCells_ne {b q : Nat} (h : q ≠ b) : ∀ (vs : List Value) (o : Nat) (w : World), (w.setCells b o vs).heap[q]? = w.heap[q]?
  | [], _, _ => rfl
  | v :: r, o, w => (heap_setCells_ne h r (o + 1) _).trans (Below.heap_setCell _ _ _ _ (by show q ≠ b; exact h))
structure DC (nb : Nat) (vm vh vo v : Value) (w1 wr : World) (m : Mach) (l : List (Int × Int)) (steps k : Nat) (dn : List (Int × Int)) : Prop where
  blk : wr.heap[nb]? = some (.cells #[vm, vh, vo, .int .i64 (playM dn (startM m)).steps] 29 (0, 0))
  mach : MachAt wr vm vh (playM dn (startM m)).mach
  voo : ∃ a n c, vo = .slice a n c
  fre : Fresh5 w1 vm vh (playM dn (startM m))
  own : wr.ownsRow (nb + 1) 37 2 v dn.length (dn.flatMap plist)
  bel : Below w1.heap.size w1 wr
  cut : dn ++ cutScr steps (l.drop k) (playM dn (startM m)) = cutScr steps l (startM m)
  rng : ∀ p ∈ dn, 0 ≤ p.1 ∧ p.1 < m.harts.length ∧ 0 ≤ p.2 ∧ p.2 ≤ 400
  dl : dn.length = k
  kl : k ≤ l.length
theorem DC.wrong {nb : Nat} {vm vh vo v : Value} {w1 wr : World} {m : Mach} {l dn : List (Int × Int)} {steps k : Nat} (h : DC nb vm vh vo v w1 wr m l steps k dn) (hq : Fb.wrong m l = 0) {p : Int × Int} (hp : p ∈ l) {x : Int} (hx : 0 ≤ x ∧ x ≤ p.2) (hk : k < l.length) : Fb.wrong m (dn ++ [(p.1, x)]) = 0 := by
  obtain ⟨p1, p2, p3, p4, p5, p6⟩ := wrong_parts hq
  have := h.dl
  refine wrong_of p1 p2 p3 p4 (by rw [List.length_append, List.length_singleton]; omega) (fun q hq => ?_)
  rcases List.mem_append.1 hq with hq | hq
  · exact h.rng q hq
  · rw [List.mem_singleton] at hq
    subst hq
    have := p6 p hp
    exact ⟨this.1, this.2.1, hx.1, by show x ≤ 400; omega⟩
theorem DC.fin {nb : Nat} {vm vh vo v : Value} {w1 wr : World} {m : Mach} {l dn : List (Int × Int)} {steps k : Nat} (h : DC nb vm vh vo v w1 wr m l steps k dn) (hf : k = l.length ∨ ¬ (playM dn (startM m)).steps < steps) : dn = cutScr steps l (startM m) := by
  have e : cutScr steps (l.drop k) (playM dn (startM m)) = [] := by
    rcases hf with hf | hf
    · rw [List.drop_eq_nil_of_le om]; rfl
    · cases l.drop k with
      | nil => rfl
      | cons a b => unfold cutScr; rw [if_neg hf]
  have := h.cut
  rw [e, List.append_nil] at this
  exact this
theorem DC.step {nb : Nat} {vm vh vo v vm' vh' vo' v' : Value} {w1 wr w8 w9 : World} {m : Mach} {l dn : List (Int × Int)} {steps k : Nat} (h : DC nb vm vh vo v w1 wr m l steps k dn) (hq : Fb.wrong m l = 0) (hk : k < l.length) (hs : (playM dn (startM m)).steps < steps) {x : Int} (hx : x = min l[k].2 ((steps : Int) - (playM dn (startM m)).steps))
    (h1 : w1.heap.size ≤ nb) (h8 : Below (nb + 1) wr w8) (hown : w8.ownsRow (nb + 1) 37 2 v' (dn.length + 1) (dn.flatMap plist ++ plist (l[k].1, x))) (h9 : Below w8.heap.size w8 w9)
    (hm : MachAt w9 vm' vh' (playM (dn ++ [(l[k].1, x)]) (startM m)).mach) (hf : Fresh5 w8 vm' vh' (playM (dn ++ [(l[k].1, x)]) (startM m))) (hvo : ∃ a n c, vo' = .slice a n c) :
    DC nb vm' vh' vo' v' w1 ((((w9.setCell ⟨nb, 0, none⟩ vm').setCell ⟨nb, 1, none⟩ vh').setCell ⟨nb, 2, none⟩ vo').setCell ⟨nb, 3, none⟩ (.int .i64 (playM (dn ++ [(l[k].1, x)]) (startM m)).steps)) m l steps (k + 1) (dn ++ [(l[k].1, x)]) := by
  have hnl := heap_lt h.blk
  have hs8 := h8.size
  have hbk : ∀ q, q ≠ nb → ((((w9.setCell ⟨nb, 0, none⟩ vm').setCell ⟨nb, 1, none⟩ vh').setCell ⟨nb, 2, none⟩ vo').setCell ⟨nb, 3, none⟩ (.int .i64 (playM (dn ++ [(l[k].1, x)]) (startM m)).steps)).heap[q]? = w9.heap[q]? := fun q hq => (Below.heap_setCell _ _ _ _ yN).trans ((Below.heap_setCell _ _ _ _ yN).trans ((Below.heap_setCell _ _ _ _ yN).trans (Below.heap_setCell _ _ _ _ yN)))
  obtain ⟨p1, p2, p3, p4, p5, p6⟩ := wrong_parts hq
  obtain ⟨f1, bh, hc, rfl, f2⟩ := hf
  have hp := p6 l[k] (List.getElem_mem hk)
  refine ⟨heap_fill4 ((h9.block nb om).trans ((h8.block nb om).trans h.blk)) _ _ _ _, ⟨ints_move hm.1 (fun hne q e => hbk q (by have := f1 hne q e; omega)), sl_block hm.2 (fun g e => by
      obtain rfl : bh = g := by cases e; rfl
      exact hbk bh om)⟩, hvo, ⟨fun hne q e => by have := f1 hne q e; have := h.bel.size; omega, bh, hc, rfl, by have := h.bel.size; omega⟩, ?_, ?_, ?_, ?_, by rw [List.length_append, List.length_singleton, h.dl], hk⟩
  · rw [List.length_append, List.length_singleton, List.flatMap_append]
    have e : [(l[k].1, x)].flatMap plist = plist (l[k].1, x) := by simp
    rw [e]
    exact owns_block (owns_below hown h9) (fun g hg => hbk g (by have := (hown.lt g hg).1; omega))
  · exact ((((h.bel.trans ((h8.mono om).trans (h9.mono om))).setCell (p := ⟨nb, 0, none⟩) h1 _).setCell (p := ⟨nb, 1, none⟩) h1 _).setCell (p := ⟨nb, 2, none⟩) h1 _).setCell (p := ⟨nb, 3, none⟩) h1 _
  · rw [← h.cut, playM_append, List.drop_eq_getElem_cons hk, List.append_assoc]
    conv => rhs; unfold cutScr
    rw [if_pos hs, ← hx]
    rfl
  · intro q hq
    rcases List.mem_append.1 hq with hq | hq
    · exact h.rng q hq
    · rw [List.mem_singleton] at hq
      subst hq
      exact ⟨hp.1, hp.2.1, by show 0 ≤ x; omega, by show x ≤ 400; omega⟩
theorem cut12_any (vm0 vh0 vs : Value) (m : Mach) (wf : m.Wf) (l : List (Int × Int)) (steps : Nat) (w : World) (hm : MachAt w vm0 vh0 m) (hs : Picks w vs l) (hq : wrong m l = 0) (hst : steps ≤ 200000) :
    Calls Try.prog 19 #[.agg #[vm0, vh0], vs, .int .i64 steps] w fun e w' => (∃ vm vh vo, e = .returned (.agg #[vm, vh, vo, .int .i64 (playM (cutScr steps l (startM m)) (startM m)).steps]) ∧ MachAt w' vm vh (playM (cutScr steps l (startM m)) (startM m)).mach ∧ (∃ a n c, vo = .slice a n c)) ∧ Below w.heap.size w w' := by
  obtain ⟨aom, capm, rfl, hcm, hmm, _, _⟩ := hm.1.open
  obtain ⟨aoh, caph, rfl, hch, hmh, _, _⟩ := hm.2.open (fun h hh => hlist_length (wf.harts h hh)) om
  obtain ⟨aos, caps, rfl, hcs, hms, _, hos⟩ := hs.open (fun _ _ => rfl) om
  unfold maxLen at hmm hmh hms
  obtain ⟨w1, hw1⟩ : ∃ w1, w1 = (w.alloc (.cells #[.slice aom m.mem.length capm, .slice aoh m.harts.length caph] 25)).alloc (.cells #[.slice none 0 0, .slice none 0 0, .slice none 0 0, .int .i64 0] 29) := ⟨_, rfl⟩
  have hb1 : Below w.heap.size w w1 := by rw [hw1]; exact Fb.blw
  have hs1 : w1.heap.size = w.heap.size + 2 := by rw [hw1]; simp
  have c0 : w1.cell? ⟨w.heap.size, 0, none⟩ = some (.slice aom m.mem.length capm) := by rw [hw1]; go_cell
  have c1 : w1.cell? ⟨w.heap.size, 1, none⟩ = some (.slice aoh m.harts.length caph) := by rw [hw1]; go_cell
  have HZ : Hid (w1.heap[w.heap.size + 1]? = some (.cells #[.slice none 0 0, .slice none 0 0, .slice none 0 0, .int .i64 0] 29 (0, 0))) := lI (by
    rw [hw1]
    have := heap_alloc_new (w.alloc (.cells #[.slice aom m.mem.length capm, .slice aoh m.harts.length caph] 25)) (.cells #[.slice none 0 0, .slice none 0 0, .slice none 0 0, .int .i64 0] 29)
    simpa using this)
  obtain ⟨p1, p2, p3, p4, p5, p6⟩ := wrong_parts hq
  have h0 : wrong m [] = 0 := wrong_of p1 p2 p3 p4 zH (by intro p hp; cases hp)
  have HP0 := lI (play_own _ _ (.slice none 0 0) m wf [] w1 (hm.below hb1) (Sl.nil _ _) h0)
  have HPL : Hid (∀ (vs' : Value) (l' : List (Int × Int)) W, Below w.heap.size w W → Picks W vs' l' → wrong m l' = 0 → _) := lI (fun vs' l' W hW h1 h2 => play_own _ _ vs' m wf l' W (hm.below hW) h1 h2)
  have HQ := lI hq
  have HOS := lI hos
  have HW1 := lI hw1
  have HB1 := lI hb1
  have HMC := lI (And.intro c0 c1)
  have HP6 := lI p6
  have HH : Hid (∀ L : List (Int × Int), (playM L (startM m)).harts.length = m.harts.length ∧ (playM L (startM m)).mem.length = m.mem.length) := lI (fun L => ⟨playM_len _ _, playM_ml _ _⟩)
  have HWF : Hid (∀ L, (playM L (startM m)).Good) := lI (fun L => playM_good L (startM_good wf hq))
  obtain ⟨j0, hi, hz0, hz1, hz2⟩ := info_parts (show (Try.prog.info? 37).map (fun i => (i.zero, i.size, i.bytes)) = some (some (.agg #[.int .i64 0, .int .i64 0]), 2, 16) by kernel_rfl)
  have HONE : Hid (∀ q : Int × Int, ∀ u ∈ plist q, u.oneCell' = true) := lI (fun q u hu => by
    simp only [plist, List.mem_cons, List.not_mem_nil, or_false] at hu
    rcases hu with rfl | rfl <;> rfl)
  clear hm hs hos hq p4 p6 h0 hw1 hb1 hcm hmm hch hmh
  go_enter Try.func19, Try.ntmps19
  go_upto_region 1 with (fail)
  rw [← HW1.out]
  go_wp2_with fail
  refine HP0.out.mono ?_
  rintro e w2 ⟨⟨vm, vh, vo, rfl, hsh, hfr⟩, hb2⟩
  obtain ⟨am, cm, rfl, -⟩ := hsh.mach.1.open
  obtain ⟨ah, ch, rfl, -⟩ := hsh.mach.2.open (fun h hh => hlist_length ((HWF.out []).wf.harts h hh)) om
  obtain ⟨ao, co, rfl, -⟩ := hsh.out.open
  have hs2 := hb2.size
  obtain ⟨nb, hnb⟩ : ∃ x, x = w2.heap.size := ⟨_, rfl⟩
  obtain ⟨w3, hw3⟩ : ∃ x, x = w2.alloc (.cells #[.slice am (playM [] (startM m)).mach.mem.length cm, .slice ah (playM [] (startM m)).mach.harts.length ch, .slice ao (playM [] (startM m)).out.length co, .int .i64 (playM [] (startM m)).steps] 29) := ⟨_, rfl⟩
  have hb3 : Below w2.heap.size w2 w3 := by rw [hw3]; exact Below.alloc br (Nat.le_refl _) _
  have hs3 : w3.heap.size = w2.heap.size + 1 := by rw [hw3]; simp
  have HDC : Hid (DC nb (.slice am (playM [] (startM m)).mach.mem.length cm) (.slice ah (playM [] (startM m)).mach.harts.length ch) (.slice ao (playM [] (startM m)).out.length co) (.slice none 0 0) w1 w3 m l steps 0 []) := lI ⟨by
      rw [hnb, hw3]
      exact heap_alloc_new _ _, hsh.mach.below hb3, ⟨_, _, _, rfl⟩, hfr, World.ownsRow_nil _ _ _ _, hb2.trans (hb3.mono om), rfl, (by intro p hp; cases hp), rfl, Nat.zero_le _⟩
  have HNB : Hid (nb < w3.heap.size ∧ w1.heap.size ≤ nb) := lI ⟨om, om⟩
  have HW3 := lI hw3
  have HS1 := lI hs1
  clear c0 c1 HP0 hsh hb2 hb3 hw3 hfr
  go_upto_region 3 with (fail)
  rw [← HW3.out, ← hnb]
  clear hnb hs3 hs2 hs1
  go_wp2_with fail
  go_loopw [7, 9] (fun t7 i wr => ∃ k : Nat, i = .int .i64 k ∧ k ≤ l.length ∧ ∃ (am : Option Addr) (nm cm : Nat) (ah : Option Addr) (nh ch : Nat) (ao : Option Addr) (no co : Nat) (dn : List (Int × Int)), Hid (DC nb (.slice am nm cm) (.slice ah nh ch) (.slice ao no co) t7 w1 wr m l steps k dn)) (fun _ i _ => l.length - (intOf i).toNat)
  case atStart => exact ⟨0, rfl, om, am, _, cm, ah, _, ch, ao, _, co, [], HDC⟩
  case round =>
    obtain ⟨k, rfl, hk, am, nm, cm, ah, nh, ch, ao, no, co, dn, HR⟩ := hrel
    obtain ⟨s, hse⟩ : ∃ s, s = (playM dn (startM m)).steps := ⟨_, rfl⟩
    have hblk := HR.out.blk
    rw [← hse] at hblk
    have b0 := ucell_of (o := 0) hblk rfl
    have b1 := ucell_of (o := 1) hblk rfl
    have b2 := ucell_of (o := 2) hblk rfl
    have b3 := ucell_of (o := 3) hblk rfl
    have HSE := lI hse
    have HBK := lI hblk
    clear hblk hse
    by_cases hgo : k < l.length ∧ s < steps
    · obtain ⟨hlt, hss⟩ := hgo
      obtain ⟨b, off, rfl, hbl, hel⟩ := HOS.out zO
      have hbw := HB1.out.trans (HR.out.bel.mono (by have := HS1.out; omega))
      have hat := (hel k hlt).of_lt hbw hbl
      have d0 := hat.get (j := 0) (v := .int .i64 l[k].1) rfl
      have d1 := hat.get (j := 1) (v := .int .i64 l[k].2) rfl
      simp only [Nat.add_zero] at d0
      have m0 := (HR.out.bel.cell (p := ⟨w.heap.size, 0, none⟩) (by have := HS1.out; show w.heap.size < w1.heap.size; omega)).trans HMC.out.1
      have m1 := (HR.out.bel.cell (p := ⟨w.heap.size, 1, none⟩) (by have := HS1.out; show w.heap.size < w1.heap.size; omega)).trans HMC.out.2
      obtain ⟨y1, hy1⟩ : ∃ y, y = l[k].1 := ⟨_, rfl⟩
      obtain ⟨y2, hy2⟩ : ∃ y, y = l[k].2 := ⟨_, rfl⟩
      rw [← hy1] at d0
      rw [← hy2] at d1
      have HY1 := lI hy1
      have HY2 := lI hy2
      have hy0 : 0 ≤ y2 := by rw [hy2]; exact (HP6.out l[k] (List.getElem_mem hlt)).2.2.1
      have hy4 : y2 ≤ 400 := by rw [hy2]; exact (HP6.out l[k] (List.getElem_mem hlt)).2.2.2
      have HL3 := lI p5
      clear hel hat hbw hbl hy1 hy2
      obtain ⟨w5, hw5⟩ : ∃ x, x = wr.alloc (.cells #[.int .i64 y1, .int .i64 y2] 37) := ⟨_, rfl⟩
      have hb5 : Below wr.heap.size wr w5 := by rw [hw5]; exact Below.alloc br (Nat.le_refl _) _
      have hs5 : w5.heap.size = wr.heap.size + 1 := by rw [hw5]; simp
      have hp5 : w5.heap[wr.heap.size]? = some (.cells #[.int .i64 y1, .int .i64 y2] 37 (0, 0)) := by rw [hw5]; exact heap_alloc_new _ _
      have q0 := ucell_of (o := 0) hp5 rfl
      have q1 := ucell_of (o := 1) hp5 rfl
      have fq := frz_of hp5 1
      have hnbl : nb < wr.heap.size := heap_lt HBK.out
      have b0' := (hb5.cell (p := ⟨nb, 3, none⟩) hnbl).trans b3
      have HW5 := lI hw5
      clear hw5
      go_upto_region 7 with (fail)
      rw [← HW5.out]
      by_cases hgt : (steps : Int) - (s : Int) < y2
      · obtain ⟨w6, hw6⟩ : ∃ x, x = w5.setCell ⟨wr.heap.size, 1, none⟩ (.int .i64 ((steps : Int) - (s : Int))) := ⟨_, rfl⟩
        have hb6 : Below wr.heap.size wr w6 := by rw [hw6]; exact hb5.setCell (p := ⟨wr.heap.size, 1, none⟩) (Nat.le_refl _) _
        have HW6 := lI hw6
        have hs61 : w6.heap.size = wr.heap.size + 1 := by rw [hw6]; simp [hs5]
        go_upto_region 9 with (fail)
        have r0 : w6.cell? ⟨wr.heap.size, 0, none⟩ = some (.int .i64 y1) := by rw [hw6]; exact (World.cell?_setCell_other _ _ _ _ (by intro e; injection e with e1 e2; omega)).trans q0
        have r1 : w6.cell? ⟨wr.heap.size, 1, none⟩ = some (.int .i64 ((steps : Int) - (s : Int))) := by
          rw [hw6]
          have : (w5.setCell ⟨wr.heap.size, 1, none⟩ (.int .i64 ((steps : Int) - (s : Int)))).heap[wr.heap.size]? = some (.cells #[.int .i64 y1, .int .i64 ((steps : Int) - (s : Int))] 37 (0, 0)) := by simp [World.setCell, Array.getElem?_modify, hp5]
          exact ucell_of (o := 1) this rfl
        rw [← HW6.out]
        clear q0 q1 fq b0' hp5 hb5
        have hs6 := hb6.size
        have HOW := lI (owns_below HR.out.own hb6)
        have hnbl : nb < wr.heap.size := heap_lt HBK.out
        have hbk6 := (hb6.block nb hnbl).trans HBK.out
        have g0 := (hb6.cell (p := ⟨w.heap.size, 0, none⟩) zZ).trans m0
        have g1 := (hb6.cell (p := ⟨w.heap.size, 1, none⟩) zZ).trans m1
        have HX : Hid ((steps : Int) - (s : Int) = min l[k].2 ((steps : Int) - (playM dn (startM m)).steps)) := lI (by rw [← HSE.out, ← HY2.out]; omega)
        have HWR := lI (HR.out.wrong HQ.out (List.getElem_mem hlt) (x := (steps : Int) - (s : Int)) (by have := (HP6.out l[k] (List.getElem_mem hlt)).2.2.1; rw [HX.out]; rw [← HSE.out]; omega) hlt)
        have HB6 := lI hb6
        have HBK6 := lI hbk6
        have HSS := lI hss
        have HDL := lI HR.out.dl
        have hkl := HL3.out
        have hnb6 : nb + 1 ≤ w6.heap.size := om
        clear hb6 hbk6 b0 b1 b2 b3 m0 m1 hw6
        go_wp2_with (first | (refine wpList_buildSlice1 rfl _ _ rfl (.agg #[.int .i64 y1, .int .i64 ((steps : Int) - (s : Int))]) rfl (w6.alloc (.cells #[.int .i64 y1, .int .i64 ((steps : Int) - (s : Int))] 37)) (.slice (some ⟨w6.heap.size, 0, none⟩) 1 1) (by first | rfl | (simp [Instr.run]; done) | (go_simp; done)) ?_) | (at_builtin; refine append_any rfl _ _ 26 rfl (nb + 1) 37 j0 _ 2 16 Try.underlying26 hi hz0 hz1 hz2 rfl zN _ dn.length (dn.flatMap plist) rfl (owns_below HOW.out (Below.alloc br (Nat.le_refl _) _)) _ 1 (plist (y1, (steps : Int) - (s : Int))) rfl (Sl.mk (at_alloc w6 (plist (y1, (steps : Int) - (s : Int))) _ _) rfl (Nat.le_refl _) zN) (HONE.out _) ?hm ?hl ?hb ?ht))
        case hm => have := HDL.out; omega
        case hl => have := HDL.out; unfold maxLen; omega
        case hb => (try simp); omega
        case ht =>
          intro v8 w8 hown8 hgrow8
          have hbA : Below (nb + 1) w6 (w6.alloc (.cells #[.int .i64 y1, .int .i64 ((steps : Int) - (s : Int))] 37)) := Below.alloc br om _
          have hb8 : Below (nb + 1) wr w8 := ((HB6.out.mono om).trans hbA).grown hgrow8 zP (fun g e => (HOW.out.lt g e).1)
          have hb68 : Below (nb + 1) w6 w8 := hbA.grown hgrow8 zP (fun g e => (HOW.out.lt g e).1)
          have hs8 := hb68.size
          have HPL8 := lI (HPL.out v8 (dn ++ [(y1, (steps : Int) - (s : Int))]) w8 (HB1.out.trans ((HR.out.bel.mono (by have := HS1.out; omega)).trans (hb8.mono (by have := HNB.out; have := HS1.out; omega)))) (by
            have := owns_sl hown8
            unfold Picks
            rw [List.flatMap_append, List.length_append, List.length_singleton]
            have e : [(y1, (steps : Int) - (s : Int))].flatMap plist = plist (y1, (steps : Int) - (s : Int)) := by simp
            rw [e]; exact this) (by rw [HY1.out]; exact HWR.out))
          have e0 := (hb68.cell (p := ⟨w.heap.size, 0, none⟩) yB).trans g0
          have e1 := (hb68.cell (p := ⟨w.heap.size, 1, none⟩) yB).trans g1
          have HB8 := lI hb8
          have HN8 := lI ((hb68.block nb om).trans HBK6.out)
          have HO8 := lI hown8
          clear hown8 hgrow8 hb8 hb68 hbA g0 g1 d0 d1
          go_wp2_with fail
          refine HPL8.out.mono ?_
          rintro e w9 ⟨⟨vm', vh', vo', rfl, hsh, hfr⟩, hb9⟩
          obtain ⟨am', cm', rfl, -⟩ := hsh.mach.1.open
          obtain ⟨ah', ch', rfl, -⟩ := hsh.mach.2.open (fun h hh => hlist_length ((HWF.out _).wf.harts h hh)) om
          obtain ⟨ao', co', rfl, -⟩ := hsh.out.open
          have hn9 := (hb9.block nb om).trans HN8.out
          have HSTEP := lI (HR.out.step (x := (steps : Int) - (s : Int)) (v' := v8) (vo' := .slice ao' (playM (dn ++ [(y1, (steps : Int) - (s : Int))]) (startM m)).out.length co') HQ.out hlt (by rw [← HSE.out]; exact HSS.out) HX.out (by have := HNB.out; omega) HB8.out (by rw [← HY1.out]; exact HO8.out) hb9 (by rw [← HY1.out]; exact hsh.mach) (by rw [← HY1.out]; exact hfr) ⟨_, _, _, rfl⟩)
          rw [← HY1.out] at HSTEP
          have b0 := ucell_of (o := 0) hn9 rfl
          have b1 := ucell_of (o := 1) hn9 rfl
          have b2 := ucell_of (o := 2) hn9 rfl
          have b3 := ucell_of (o := 3) hn9 rfl
          have f0 := frz_of hn9 0
          have f1 := frz_of hn9 1
          have f2 := frz_of hn9 2
          have f3 := frz_of hn9 3
          clear hsh hfr hb9 hn9 e0 e1
          go_wp2_with fail
          refine ⟨⟨k + 1, by simp, om, _, _, _, _, _, _, _, _, _, _, HSTEP⟩, by simp [intOf]; omega⟩
      · obtain ⟨w6, rfl⟩ : ∃ x : World, x = w5 := ⟨_, rfl⟩
        have hw6 := True.intro
        have hb6 := hb5
        go_upto_region 9 with (fail)
        clear fq b0' hp5 hb5
        have hs6 := hb6.size
        have HOW := lI (owns_below HR.out.own hb6)
        have hnbl : nb < wr.heap.size := heap_lt HBK.out
        have hbk6 := (hb6.block nb hnbl).trans HBK.out
        have g0 := (hb6.cell (p := ⟨w.heap.size, 0, none⟩) zZ).trans m0
        have g1 := (hb6.cell (p := ⟨w.heap.size, 1, none⟩) zZ).trans m1
        have HX : Hid (y2 = min l[k].2 ((steps : Int) - (playM dn (startM m)).steps)) := lI (by rw [← HSE.out, ← HY2.out]; omega)
        have HWR := lI (HR.out.wrong HQ.out (List.getElem_mem hlt) (x := y2) (by have := (HP6.out l[k] (List.getElem_mem hlt)).2.2.1; rw [HX.out]; rw [← HSE.out]; omega) hlt)
        have HB6 := lI hb6
        have HBK6 := lI hbk6
        have HSS := lI hss
        have HDL := lI HR.out.dl
        have hkl := HL3.out
        have hnb6 : nb + 1 ≤ w6.heap.size := om
        clear hb6 hbk6 b0 b1 b2 b3 m0 m1 hw6
        go_wp2_with (first | (refine wpList_buildSlice1 rfl _ _ rfl (.agg #[.int .i64 y1, .int .i64 (y2)]) rfl (w6.alloc (.cells #[.int .i64 y1, .int .i64 (y2)] 37)) (.slice (some ⟨w6.heap.size, 0, none⟩) 1 1) (by first | rfl | (simp [Instr.run]; done) | (go_simp; done)) ?_) | (at_builtin; refine append_any rfl _ _ 26 rfl (nb + 1) 37 j0 _ 2 16 Try.underlying26 hi hz0 hz1 hz2 rfl zN _ dn.length (dn.flatMap plist) rfl (owns_below HOW.out (Below.alloc br (Nat.le_refl _) _)) _ 1 (plist (y1, y2)) rfl (Sl.mk (at_alloc w6 (plist (y1, y2)) _ _) rfl (Nat.le_refl _) zN) (HONE.out _) ?hm ?hl ?hb ?ht))
        case hm => have := HDL.out; omega
        case hl => have := HDL.out; unfold maxLen; omega
        case hb => (try simp); omega
        case ht =>
          intro v8 w8 hown8 hgrow8
          have hbA : Below (nb + 1) w6 (w6.alloc (.cells #[.int .i64 y1, .int .i64 (y2)] 37)) := Below.alloc br om _
          have hb8 : Below (nb + 1) wr w8 := ((HB6.out.mono om).trans hbA).grown hgrow8 zP (fun g e => (HOW.out.lt g e).1)
          have hb68 : Below (nb + 1) w6 w8 := hbA.grown hgrow8 zP (fun g e => (HOW.out.lt g e).1)
          have hs8 := hb68.size
          have HPL8 := lI (HPL.out v8 (dn ++ [(y1, y2)]) w8 (HB1.out.trans ((HR.out.bel.mono (by have := HS1.out; omega)).trans (hb8.mono (by have := HNB.out; have := HS1.out; omega)))) (by
            have := owns_sl hown8
            unfold Picks
            rw [List.flatMap_append, List.length_append, List.length_singleton]
            have e : [(y1, y2)].flatMap plist = plist (y1, y2) := by simp
            rw [e]; exact this) (by rw [HY1.out]; exact HWR.out))
          have e0 := (hb68.cell (p := ⟨w.heap.size, 0, none⟩) yB).trans g0
          have e1 := (hb68.cell (p := ⟨w.heap.size, 1, none⟩) yB).trans g1
          have HB8 := lI hb8
          have HN8 := lI ((hb68.block nb om).trans HBK6.out)
          have HO8 := lI hown8
          clear hown8 hgrow8 hb8 hb68 hbA g0 g1 d0 d1
          go_wp2_with fail
          refine HPL8.out.mono ?_
          rintro e w9 ⟨⟨vm', vh', vo', rfl, hsh, hfr⟩, hb9⟩
          obtain ⟨am', cm', rfl, -⟩ := hsh.mach.1.open
          obtain ⟨ah', ch', rfl, -⟩ := hsh.mach.2.open (fun h hh => hlist_length ((HWF.out _).wf.harts h hh)) om
          obtain ⟨ao', co', rfl, -⟩ := hsh.out.open
          have hn9 := (hb9.block nb om).trans HN8.out
          have HSTEP := lI (HR.out.step (x := y2) (v' := v8) (vo' := .slice ao' (playM (dn ++ [(y1, y2)]) (startM m)).out.length co') HQ.out hlt (by rw [← HSE.out]; exact HSS.out) HX.out (by have := HNB.out; omega) HB8.out (by rw [← HY1.out]; exact HO8.out) hb9 (by rw [← HY1.out]; exact hsh.mach) (by rw [← HY1.out]; exact hfr) ⟨_, _, _, rfl⟩)
          rw [← HY1.out] at HSTEP
          have b0 := ucell_of (o := 0) hn9 rfl
          have b1 := ucell_of (o := 1) hn9 rfl
          have b2 := ucell_of (o := 2) hn9 rfl
          have b3 := ucell_of (o := 3) hn9 rfl
          have f0 := frz_of hn9 0
          have f1 := frz_of hn9 1
          have f2 := frz_of hn9 2
          have f3 := frz_of hn9 3
          clear hsh hfr hb9 hn9 e0 e1
          go_wp2_with fail
          refine ⟨⟨k + 1, by simp, om, _, _, _, _, _, _, _, _, _, _, HSTEP⟩, by simp [intOf]; omega⟩
    · have HF : Hid (dn = cutScr steps l (startM m)) := lI (HR.out.fin (by rw [← HSE.out]; omega))
      have hex : k = l.length ∨ (k < l.length ∧ ¬ s < steps) := om
      have hz := (HR.out.bel.block (w.heap.size + 1) (by have := HS1.out; omega)).trans HZ.out
      have ht : wr.there (w.heap.size + 1) 0 4 := there_blk hz rfl
      have HFIN : Hid (∃ vm vh vo, Value.agg #[.slice am nm cm, .slice ah nh ch, .slice ao no co, .int .i64 s] = .agg #[vm, vh, vo, .int .i64 (playM (cutScr steps l (startM m)) (startM m)).steps] ∧ MachAt (wr.setCells (w.heap.size + 1) 0 [.slice am nm cm, .slice ah nh ch, .slice ao no co, .int .i64 s]) vm vh (playM (cutScr steps l (startM m)) (startM m)).mach ∧ (∃ a n c, vo = .slice a n c)) := lI (by
        refine ⟨_, _, _, by rw [← HF.out, ← HSE.out], ?_, _, _, _, rfl⟩
        rw [← HF.out]
        obtain ⟨f1, bh, hc, e, f2⟩ := HR.out.fre
        have hs1 := HS1.out
        have hbk : ∀ q, q ≠ w.heap.size + 1 → (wr.setCells (w.heap.size + 1) 0 [.slice am nm cm, .slice ah nh ch, .slice ao no co, .int .i64 s]).heap[q]? = wr.heap[q]? := fun q hq => heap_setCells_ne hq _ _ _
        exact ⟨ints_move HR.out.mach.1 (fun hne q e => hbk q (by have := f1 hne q e; omega)), sl_block HR.out.mach.2 (fun g e2 => by
          rw [e] at e2
          obtain rfl : bh = g := by cases e2; rfl
          exact hbk bh om)⟩)
      have HEND : Hid (Below w.heap.size w (wr.setCells (w.heap.size + 1) 0 [.slice am nm cm, .slice ah nh ch, .slice ao no co, .int .i64 s])) := lI (below_setCells om _ _ _ (HB1.out.trans (HR.out.bel.mono (by have := HS1.out; omega))))
      have hsz5 : (Try.prog.info? 29).map (·.size) = some (#[.slice am nm cm, .slice ah nh ch, .slice ao no co, .int .i64 s] : Array Value).size := by show _ = some 4; kernel_rfl
      have hall : (#[.slice am nm cm, .slice ah nh ch, .slice ao no co, .int .i64 s] : Array Value).all (·.oneCell') = true := by simp [Value.oneCell']
      have ht5 : ∀ W : World, W.there (w.heap.size + 1) 0 4 → W.there (w.heap.size + 1) 0 (#[.slice am nm cm, .slice ah nh ch, .slice ao no co, .int .i64 s] : Array Value).size := fun _ h => h
      have hld := load_setCells (P := Try.prog) (cs := #[.slice am nm cm, .slice ah nh ch, .slice ao no co, .int .i64 s]) ht Try.underlying29 rfl hsz5
      clear hz hgo HF
      rcases hex with rfl | ⟨h1, h2⟩
      all_goals
        go_wp2_with (first | (refine wpList_store_mid rfl 29 _ _ rfl (w.heap.size + 1) 0 #[.slice am nm cm, .slice ah nh ch, .slice ao no co, .int .i64 s] rfl rfl (ht5 _ ht) hsz5 hall ?_))
        refine bodyPost_ret (results_c1 zE _ zE hld) rfl ⟨?_, HEND.out⟩
        obtain ⟨vm, vh, vo, e1, e2⟩ := HFIN.out
        exact ⟨vm, vh, vo, by rw [e1], e2⟩
end Go.Proofs.Ytlfnddmncbkjaac.W
