/- A guess, walked. -/
import Derived.Test.YtlfnddmncbkjaacDoorZZC
import Derived.Test.YtlfnddmncbkjaacDoorZMB
namespace Go.Proofs.YtlfnddmncbkjaacDoor.W
set_option linter.unusedVariables false
set_option linter.unusedSimpArgs false
open Go.RowKit Fb
/-- the struct's cells, free to be written -/
def I5 (w : World) (b : Nat) (i : InsD) : Prop := (w.cell? ⟨b, 0, none⟩ = some (.int .i64 i.op) ∧ w.cell? ⟨b, 1, none⟩ = some (.int .i64 i.rd) ∧ w.cell? ⟨b, 2, none⟩ = some (.int .i64 i.rs1) ∧ w.cell? ⟨b, 3, none⟩ = some (.int .i64 i.rs2) ∧ w.cell? ⟨b, 4, none⟩ = some (.int .i32 i.imm)) ∧ (w.frozen? ⟨b, 0, none⟩ = false ∧ w.frozen? ⟨b, 1, none⟩ = false ∧ w.frozen? ⟨b, 2, none⟩ = false ∧ w.frozen? ⟨b, 3, none⟩ = false ∧ w.frozen? ⟨b, 4, none⟩ = false)
theorem I5.below {w w' : World} {b : Nat} {i : InsD} {B : Nat} (h : I5 w b i) (hb : Below B w w') (hB : b < B) : I5 w' b i := by
  obtain ⟨⟨a0, a1, a2, a3, a4⟩, b0, b1, b2, b3, b4⟩ := h
  exact ⟨⟨(hb.cell hB).trans a0, (hb.cell hB).trans a1, (hb.cell hB).trans a2, (hb.cell hB).trans a3, (hb.cell hB).trans a4⟩, (hb.frozen hB).trans b0, (hb.frozen hB).trans b1, (hb.frozen hB).trans b2, (hb.frozen hB).trans b3, (hb.frozen hB).trans b4⟩
def set5 (w : World) (b : Nat) (i : InsD) : World := ((((w.setCell ⟨b, 0, none⟩ (.int .i64 i.op)).setCell ⟨b, 1, none⟩ (.int .i64 i.rd)).setCell ⟨b, 2, none⟩ (.int .i64 i.rs1)).setCell ⟨b, 3, none⟩ (.int .i64 i.rs2)).setCell ⟨b, 4, none⟩ (.int .i32 i.imm)
theorem I5.set5 {w : World} {b : Nat} {i : InsD} (h : I5 w b i) (j : InsD) : I5 (set5 w b j) b j := by
  obtain ⟨⟨a0, a1, a2, a3, a4⟩, b0, b1, b2, b3, b4⟩ := h
  unfold W.set5
  refine ⟨⟨by go_cell, by go_cell, by go_cell, by go_cell, by go_cell⟩, ?_, ?_, ?_, ?_, ?_⟩ <;> simpa using (by assumption)
theorem I5.alloc {w : World} {b : Nat} {i : InsD} (h : I5 w b i) (o : Obj) : I5 (w.alloc o) b i := by
  have hb : b < w.heap.size := lt_of_cell h.1.1
  exact h.below (Below.alloc (Below.refl _ _) (Nat.le_refl _) o) hb
theorem below_set5 {B : Nat} {w W : World} {b : Nat} (h : Below B w W) (hb : B ≤ b) (i : InsD) : Below B w (set5 W b i) :=
  ((((h.setCell hb _).setCell hb _).setCell hb _).setCell hb _).setCell hb _
theorem I5.load {w : World} {b : Nat} {i : InsD} (h : I5 w b i) : (loadVar 23 ⟨b, 0, none⟩).run Tryd.prog w = .ok (.agg (icells i)) w := by
  obtain ⟨⟨a0, a1, a2, a3, a4⟩, _⟩ := h
  refine run_loadVar_at w b 0 23 (icells i) _ (fun j hj => ?_) Tryd.underlying23 rfl (by rw [show (icells i).size = 5 from rfl]; kernel_rfl)
  match j, hj with
  | 0, _ => exact a0
  | 1, _ => exact a1
  | 2, _ => exact a2
  | 3, _ => exact a3
  | 4, _ => exact a4
  | (n + 5), h => exact absurd h (by simp [icells])
theorem results_c1u {P : Program} {fn : Func} {a x : Tmp} {t : TypeId} (h : fn.results = #[.cell a t, .tmp x]) (tmps : Array Value) {p : Addr} {w : World} {v : Value} (hp : tmps.getD a undef = .pointer (some p)) (hl : (loadVar t p).run P w = .ok v w) :
    (results fn tmps).run P w = .ok (.tuple #[v, tmps.getD x undef]) w := by
  have hp' : tmps[a]?.getD undef = .pointer (some p) := by rw [← hp]; simp
  simp [results, h, hp', hl, Sem.run_bind, asAddr]
set_option maxRecDepth 100000 in
set_option maxHeartbeats 3200000 in
theorem guess_u (op atom : Int) (l : List UInt8) (zs : List Int) (HZL : Hid (zs.length ≤ 4294967296)) (HZ : Hid (∀ z ∈ zs, -2147483648 ≤ z ∧ z ≤ 2147483647)) (o1 : 1 ≤ op) (o2 : op ≤ 2) (w : World)
    (HN : Hid (∀ W, Below w.heap.size w W → Calls Tryd.prog 29 #[.string (bs l)] W fun e w' => ∃ v, e = .returned v ∧ w'.ownsRow W.heap.size 2 1 v zs.length (zs.map (.int .i64 ·)) ∧ Below W.heap.size W w')) :
    Calls Tryd.prog 20 #[.int .i64 op, .int .i32 atom, .string (bs l)] w fun e w' => e = .returned (.tuple #[.agg (icells (guessS op atom zs).1), .bool (guessS op atom zs).2]) ∧ Below w.heap.size w w' := by
  obtain ⟨R, hR⟩ : ∃ R, R = guessS op atom zs := ⟨_, rfl⟩
  rw [← hR]
  have hb : bareS op atom = ⟨op, 0, 0, 0, 0⟩ := by unfold bareS; rw [if_neg (by omega)]
  have hm : manyS op = 2 := by unfold manyS offsS numS; (repeat (first | rw [if_pos (by omega)] | rw [if_neg (by omega)])); rfl
  have HRR := Lib.hid hR
  have HBA := Lib.hid hb
  have HMN := Lib.hid hm
  clear hR hb hm
  obtain ⟨w1, hw1⟩ : ∃ w1, w1 = w.alloc (.cells #[.int .i64 0, .int .i64 0, .int .i64 0, .int .i64 0, .int .i32 0] 23) := ⟨_, rfl⟩
  have HB1 := Lib.hid (show Below w.heap.size w w1 by rw [hw1]; exact (by repeat (first | with_reducible exact Below.refl _ _ | with_reducible refine below_drewN ?_ _ | ((with_reducible refine Below.setCell ?_ ?hq _); case hq => (first | (simp; done) | (simp; omega))) | ((with_reducible refine Below.alloc ?_ ?hq _); case hq => (first | (simp; done) | (simp; omega))))))
  have HI1 := Lib.hid (show I5 w1 w.heap.size ⟨0, 0, 0, 0, 0⟩ by rw [hw1]; exact ⟨⟨by go_cell, by go_cell, by go_cell, by go_cell, by go_cell⟩, World.frozen?_alloc_new _ _ _ _, World.frozen?_alloc_new _ _ _ _, World.frozen?_alloc_new _ _ _ _, World.frozen?_alloc_new _ _ _ _, World.frozen?_alloc_new _ _ _ _⟩)
  have hs1 : w.heap.size < w1.heap.size := by rw [hw1]; simp
  have HW1 := Lib.hid hw1
  have HN1 := Lib.hid (HN.out w1 HB1.out)
  clear HN hw1
  go_enter Tryd.func20, Tryd.ntmps20
  go_upto_region 1 with (fail)
  rw [← HW1.out]
  go_wp2_with fail
  refine HN1.out.mono ?_
  rintro e w2 ⟨v, rfl, hown, hb2⟩
  have hs2 : w.heap.size < w2.heap.size := Nat.lt_of_lt_of_le hs1 hb2.size
  have HB2 := Lib.hid (HB1.out.trans (hb2.mono HB1.out.size))
  have HO := Lib.hid hown
  have HI2 := Lib.hid (HI1.out.below hb2 hs1)
  clear hown hb2 HN1 HI1 HB1
  obtain ⟨w3, hw3⟩ : ∃ w3, w3 = w2.alloc (.cells #[.int .i64 op, .int .i64 0, .int .i64 0, .int .i64 0, .int .i32 0] 23) := ⟨_, rfl⟩
  have HW3 := Lib.hid hw3
  go_upto_region 3 with (fail)
  rw [← HW3.out]
  have HB3 := Lib.hid (show Below w2.heap.size w2 w3 by rw [hw3]; exact (by repeat (first | with_reducible exact Below.refl _ _ | with_reducible refine below_drewN ?_ _ | ((with_reducible refine Below.setCell ?_ ?hq _); case hq => (first | (simp; done) | (simp; omega))) | ((with_reducible refine Below.alloc ?_ ?hq _); case hq => (first | (simp; done) | (simp; omega))))))
  have hI3 : I5 w3 w2.heap.size ⟨op, 0, 0, 0, 0⟩ := by rw [hw3]; exact ⟨⟨by go_cell, by go_cell, by go_cell, by go_cell, by go_cell⟩, World.frozen?_alloc_new _ _ _ _, World.frozen?_alloc_new _ _ _ _, World.frozen?_alloc_new _ _ _ _, World.frozen?_alloc_new _ _ _ _, World.frozen?_alloc_new _ _ _ _⟩
  have hs3 : w3.heap.size = w2.heap.size + 1 := by rw [hw3]; simp
  have HS3 := Lib.hid hs3
  obtain ⟨⟨c0, c1, c2, c3, c4⟩, f0, f1, f2, f3, f4⟩ := hI3
  clear hw3
  have HRES := Lib.hid (HI2.out.below HB3.out hs2)
  have hzl := HZL.out
  obtain ⟨p, cap, hv⟩ : ∃ p cap, v = .slice p zs.length cap := by
    rcases HO.out.2 with ⟨h, h2⟩ | ⟨g, cap, cur, h, _⟩
    · exact ⟨none, 0, by rw [h, h2]⟩
    · exact ⟨_, cap, h⟩
  by_cases hlen : zs.length = 2
  · obtain ⟨n0, n1, rfl⟩ : ∃ n0 n1, zs = [n0, n1] := by
      match zs, hlen with
      | [n0, n1], _ => exact ⟨n0, n1, rfl⟩
    have hRF : R = (⟨op, n0, 0, 0, wrap32 (n1 * 4096)⟩, true) := by
      rw [HRR.out]
      unfold guessS
      rw [if_pos (by rw [HMN.out]; rfl), HBA.out]
      unfold offsS numS
      (repeat (first | rw [if_pos (by omega)] | rw [if_neg (by omega)]))
      have hup : op ≤ 2 := by omega
      simp [fillS, setF, immG, hup]
    subst hRF
    rcases HO.out.2 with ⟨_, h2⟩ | ⟨g, cap2, cur, hv2, _, hg2, _⟩
    · simp at h2
    obtain rfl := hv2
    injection hv with hp1 hp2 hp3
    subst hp1 hp3
    have hgl : g < w2.heap.size := (Array.getElem?_eq_some_iff.1 hg2).1
    have q0 : w2.cell? ⟨g, 0, none⟩ = some (.int .i64 n0) := HO.out.cellAt 0 (by simp)
    have q1 : w2.cell? ⟨g, 1, none⟩ = some (.int .i64 n1) := HO.out.cellAt 1 (by simp)
    have HQ := Lib.hid (And.intro q0 q1)
    have hgz : g < w2.heap.size + 1 + 1 := by omega
    clear HRR HO HZL HBA HMN HW1 HRES hg2 hlen hzl hp2 q0 q1
    have t4 : (op == 4) = false := by simp <;> omega
    have t46 : (op == 46) = false := by simp <;> omega
    have t57 : (op == 57) = false := by simp <;> omega
    try simp only [icells]
    have HI3 := Lib.hid (show I5 w3 w2.heap.size ⟨op, 0, 0, 0, 0⟩ from ⟨⟨c0, c1, c2, c3, c4⟩, f0, f1, f2, f3, f4⟩)
    clear hgz
    go_wp2_with fail
    go_loopg [10, 101] 2 (fun gf s10 s101 wx => (gf = 2 ∧ s101 = .int .i64 0 ∧ (s10 = .slice (some ⟨w2.heap.size + 1, 0, none⟩) 1 1) ∧ Hid (Below w2.heap.size w2 wx ∧ I5 wx w2.heap.size ⟨op, 0, 0, 0, 0⟩ ∧ wx.cell? ⟨w2.heap.size + 1, 0, none⟩ = some (.pointer (some ⟨w2.heap.size, 1, none⟩)))) ∨ (gf = 1 ∧ s101 = .int .i64 1 ∧ (∃ pp, s10 = .slice pp 0 0) ∧ Hid (Below w2.heap.size w2 wx ∧ I5 wx w2.heap.size ⟨op, n0, 0, 0, 0⟩ ∧ wx.cell? ⟨w2.heap.size + 1, 0, none⟩ = some (.pointer (some ⟨w2.heap.size, 1, none⟩)))) ∨ (gf = 0 ∧ s101 = .int .i64 2 ∧ (∃ pp, s10 = .slice pp 0 0) ∧ Hid (Below w2.heap.size w2 wx ∧ I5 wx w2.heap.size ⟨op, n0, 0, 0, wrap32 (n1 * 4096)⟩ ∧ wx.cell? ⟨w2.heap.size + 1, 0, none⟩ = some (.pointer (some ⟨w2.heap.size, 1, none⟩)))))
    case atStart =>
      refine Or.inl ⟨rfl, rfl, rfl, Lib.hid ⟨HB3.out.alloc HB3.out.size _, HI3.out.alloc _, by rw [← HS3.out]; go_cell⟩⟩
    case round =>
      clear c0 c1 c2 c3 c4 f0 f1 f2 f3 f4
      rcases hrel with ⟨rfl, rfl, rfl, H⟩ | ⟨rfl, rfl, ⟨pp, rfl⟩, H⟩ | ⟨rfl, rfl, ⟨pp, rfl⟩, H⟩
      · obtain ⟨hb, ⟨⟨c0, c1, c2, c3, c4⟩, f0, f1, f2, f3, f4⟩, p0⟩ := H.out
        have qk := (hb.cell (p := ⟨g, 0, none⟩) hgl).trans HQ.out.1
        have HBK := Lib.hid hb
        clear hb H
        go_wp2_with fail
        go_roundg 1
        case measure => omega
        case rel => exact Or.inr (Or.inl ⟨rfl, rfl, ⟨_, rfl⟩, Lib.hid ⟨HBK.out.setCell (Nat.le_refl _) _, ⟨⟨by go_cell, by go_cell, by go_cell, by go_cell, by go_cell⟩, by simpa using f0, by simpa using f1, by simpa using f2, by simpa using f3, by simpa using f4⟩, by go_cell⟩⟩)
      · obtain ⟨hb, ⟨⟨c0, c1, c2, c3, c4⟩, f0, f1, f2, f3, f4⟩, p0⟩ := H.out
        have qk := (hb.cell (p := ⟨g, 1, none⟩) hgl).trans HQ.out.2
        have HBK := Lib.hid hb
        clear hb H
        have hwn : wrap32 n1 = n1 := by have := HZ.out n1 (by simp); unfold wrap32; omega
        have hsn : wrap64 (n1 * 4096) = n1 * 4096 := by have := HZ.out n1 (by simp); unfold wrap64; omega
        go_wp2_with fail
        go_roundg 0
        case measure => omega
        case rel => exact Or.inr (Or.inr (⟨rfl, rfl, ⟨_, rfl⟩, Lib.hid ⟨(HBK.out.setCell (Nat.le_refl _) _).setCell (Nat.le_refl _) _, ⟨⟨by go_cell, by go_cell, by go_cell, by go_cell, by go_cell⟩, by simpa using f0, by simpa using f1, by simpa using f2, by simpa using f3, by simpa using f4⟩, by go_cell⟩⟩))
      · obtain ⟨hb, h5, p0⟩ := H.out
        have HR2 := Lib.hid (HI2.out.below hb hs2)
        have HB9 := Lib.hid (HB2.out.trans (hb.mono HB2.out.size))
        obtain ⟨⟨c0, c1, c2, c3, c4⟩, f0, f1, f2, f3, f4⟩ := h5
        obtain ⟨⟨e0, e1, e2, e3, e4⟩, k0, k1, k2, k3, k4⟩ := HR2.out
        clear hb H HQ HI2 HI3
        go_wp2_with fail
        have hbs := below_set5 (b := w.heap.size) HB9.out (Nat.le_refl _) ⟨op, n0, 0, 0, wrap32 (n1 * 4096)⟩
        have hld := I5.load (HR2.out.set5 ⟨op, n0, 0, 0, wrap32 (n1 * 4096)⟩)
        unfold W.set5 at hbs hld
        refine bodyPost_ret (results_c1u (by rfl) _ (by rfl) hld) rfl ⟨rfl, ?_⟩
        exact hbs
  · have hRF : R = (bareS op atom, false) := by rw [HRR.out]; unfold guessS; rw [if_neg (by rw [HMN.out]; exact hlen)]
    rw [HBA.out] at hRF
    subst hRF
    subst hv
    have hne : ¬ ((zs.length : Int) = 2) := by omega
    obtain ⟨⟨e0, e1, e2, e3, e4⟩, k0, k1, k2, k3, k4⟩ := HRES.out
    have HBX := Lib.hid (HB2.out.trans (HB3.out.mono HB2.out.size))
    clear HRR HO HZL HBA HMN HW1 HI2 hlen
    try simp only [icells]
    have t4 : (op == 4) = false := by simp <;> omega
    have t46 : (op == 46) = false := by simp <;> omega
    have t57 : (op == 57) = false := by simp <;> omega
    go_wp2_with fail
    have hbs := below_set5 (b := w.heap.size) HBX.out (Nat.le_refl _) ⟨op, 0, 0, 0, 0⟩
    have hld := I5.load ((HRES.out.set5 ⟨op, 0, 0, 0, 0⟩).alloc (Obj.cells #[.pointer (some ⟨w2.heap.size, 1, none⟩)] 60))
    unfold W.set5 at hbs hld
    refine bodyPost_ret (results_c1u (by rfl) _ (by rfl) hld) rfl ⟨rfl, ?_⟩
    exact hbs.alloc hbs.size _
set_option maxRecDepth 100000 in
set_option maxHeartbeats 3200000 in
theorem guess_j (op atom : Int) (l : List UInt8) (zs : List Int) (HZL : Hid (zs.length ≤ 4294967296)) (HZ : Hid (∀ z ∈ zs, -2147483648 ≤ z ∧ z ≤ 2147483647)) (o1 : 3 ≤ op) (o2 : op ≤ 3) (w : World)
    (HN : Hid (∀ W, Below w.heap.size w W → Calls Tryd.prog 29 #[.string (bs l)] W fun e w' => ∃ v, e = .returned v ∧ w'.ownsRow W.heap.size 2 1 v zs.length (zs.map (.int .i64 ·)) ∧ Below W.heap.size W w')) :
    Calls Tryd.prog 20 #[.int .i64 op, .int .i32 atom, .string (bs l)] w fun e w' => e = .returned (.tuple #[.agg (icells (guessS op atom zs).1), .bool (guessS op atom zs).2]) ∧ Below w.heap.size w w' := by
  obtain ⟨R, hR⟩ : ∃ R, R = guessS op atom zs := ⟨_, rfl⟩
  rw [← hR]
  have hb : bareS op atom = ⟨op, 0, 0, 0, 0⟩ := by unfold bareS; rw [if_neg (by omega)]
  have hm : manyS op = 2 := by unfold manyS offsS numS; (repeat (first | rw [if_pos (by omega)] | rw [if_neg (by omega)])); rfl
  have HRR := Lib.hid hR
  have HBA := Lib.hid hb
  have HMN := Lib.hid hm
  clear hR hb hm
  obtain ⟨w1, hw1⟩ : ∃ w1, w1 = w.alloc (.cells #[.int .i64 0, .int .i64 0, .int .i64 0, .int .i64 0, .int .i32 0] 23) := ⟨_, rfl⟩
  have HB1 := Lib.hid (show Below w.heap.size w w1 by rw [hw1]; exact (by repeat (first | with_reducible exact Below.refl _ _ | with_reducible refine below_drewN ?_ _ | ((with_reducible refine Below.setCell ?_ ?hq _); case hq => (first | (simp; done) | (simp; omega))) | ((with_reducible refine Below.alloc ?_ ?hq _); case hq => (first | (simp; done) | (simp; omega))))))
  have HI1 := Lib.hid (show I5 w1 w.heap.size ⟨0, 0, 0, 0, 0⟩ by rw [hw1]; exact ⟨⟨by go_cell, by go_cell, by go_cell, by go_cell, by go_cell⟩, World.frozen?_alloc_new _ _ _ _, World.frozen?_alloc_new _ _ _ _, World.frozen?_alloc_new _ _ _ _, World.frozen?_alloc_new _ _ _ _, World.frozen?_alloc_new _ _ _ _⟩)
  have hs1 : w.heap.size < w1.heap.size := by rw [hw1]; simp
  have HW1 := Lib.hid hw1
  have HN1 := Lib.hid (HN.out w1 HB1.out)
  clear HN hw1
  go_enter Tryd.func20, Tryd.ntmps20
  go_upto_region 1 with (fail)
  rw [← HW1.out]
  go_wp2_with fail
  refine HN1.out.mono ?_
  rintro e w2 ⟨v, rfl, hown, hb2⟩
  have hs2 : w.heap.size < w2.heap.size := Nat.lt_of_lt_of_le hs1 hb2.size
  have HB2 := Lib.hid (HB1.out.trans (hb2.mono HB1.out.size))
  have HO := Lib.hid hown
  have HI2 := Lib.hid (HI1.out.below hb2 hs1)
  clear hown hb2 HN1 HI1 HB1
  obtain ⟨w3, hw3⟩ : ∃ w3, w3 = w2.alloc (.cells #[.int .i64 op, .int .i64 0, .int .i64 0, .int .i64 0, .int .i32 0] 23) := ⟨_, rfl⟩
  have HW3 := Lib.hid hw3
  go_upto_region 3 with (fail)
  rw [← HW3.out]
  have HB3 := Lib.hid (show Below w2.heap.size w2 w3 by rw [hw3]; exact (by repeat (first | with_reducible exact Below.refl _ _ | with_reducible refine below_drewN ?_ _ | ((with_reducible refine Below.setCell ?_ ?hq _); case hq => (first | (simp; done) | (simp; omega))) | ((with_reducible refine Below.alloc ?_ ?hq _); case hq => (first | (simp; done) | (simp; omega))))))
  have hI3 : I5 w3 w2.heap.size ⟨op, 0, 0, 0, 0⟩ := by rw [hw3]; exact ⟨⟨by go_cell, by go_cell, by go_cell, by go_cell, by go_cell⟩, World.frozen?_alloc_new _ _ _ _, World.frozen?_alloc_new _ _ _ _, World.frozen?_alloc_new _ _ _ _, World.frozen?_alloc_new _ _ _ _, World.frozen?_alloc_new _ _ _ _⟩
  have hs3 : w3.heap.size = w2.heap.size + 1 := by rw [hw3]; simp
  have HS3 := Lib.hid hs3
  obtain ⟨⟨c0, c1, c2, c3, c4⟩, f0, f1, f2, f3, f4⟩ := hI3
  clear hw3
  have HRES := Lib.hid (HI2.out.below HB3.out hs2)
  have hzl := HZL.out
  obtain ⟨p, cap, hv⟩ : ∃ p cap, v = .slice p zs.length cap := by
    rcases HO.out.2 with ⟨h, h2⟩ | ⟨g, cap, cur, h, _⟩
    · exact ⟨none, 0, by rw [h, h2]⟩
    · exact ⟨_, cap, h⟩
  by_cases hlen : zs.length = 2
  · obtain ⟨n0, n1, rfl⟩ : ∃ n0 n1, zs = [n0, n1] := by
      match zs, hlen with
      | [n0, n1], _ => exact ⟨n0, n1, rfl⟩
    have hRF : R = (⟨op, n0, 0, 0, n1⟩, true) := by
      rw [HRR.out]
      unfold guessS
      rw [if_pos (by rw [HMN.out]; rfl), HBA.out]
      unfold offsS numS
      (repeat (first | rw [if_pos (by omega)] | rw [if_neg (by omega)]))
      have hup : ¬ op ≤ 2 := by omega
      simp [fillS, setF, immG, hup]
    subst hRF
    rcases HO.out.2 with ⟨_, h2⟩ | ⟨g, cap2, cur, hv2, _, hg2, _⟩
    · simp at h2
    obtain rfl := hv2
    injection hv with hp1 hp2 hp3
    subst hp1 hp3
    have hgl : g < w2.heap.size := (Array.getElem?_eq_some_iff.1 hg2).1
    have q0 : w2.cell? ⟨g, 0, none⟩ = some (.int .i64 n0) := HO.out.cellAt 0 (by simp)
    have q1 : w2.cell? ⟨g, 1, none⟩ = some (.int .i64 n1) := HO.out.cellAt 1 (by simp)
    have HQ := Lib.hid (And.intro q0 q1)
    have hgz : g < w2.heap.size + 1 + 1 := by omega
    clear HRR HO HZL HBA HMN HW1 HRES hg2 hlen hzl hp2 q0 q1
    have t4 : (op == 4) = false := by simp <;> omega
    have t46 : (op == 46) = false := by simp <;> omega
    have t57 : (op == 57) = false := by simp <;> omega
    try simp only [icells]
    have HI3 := Lib.hid (show I5 w3 w2.heap.size ⟨op, 0, 0, 0, 0⟩ from ⟨⟨c0, c1, c2, c3, c4⟩, f0, f1, f2, f3, f4⟩)
    clear hgz
    go_wp2_with fail
    go_loopg [10, 101] 2 (fun gf s10 s101 wx => (gf = 2 ∧ s101 = .int .i64 0 ∧ (s10 = .slice (some ⟨w2.heap.size + 1, 0, none⟩) 1 1) ∧ Hid (Below w2.heap.size w2 wx ∧ I5 wx w2.heap.size ⟨op, 0, 0, 0, 0⟩ ∧ wx.cell? ⟨w2.heap.size + 1, 0, none⟩ = some (.pointer (some ⟨w2.heap.size, 1, none⟩)))) ∨ (gf = 1 ∧ s101 = .int .i64 1 ∧ (∃ pp, s10 = .slice pp 0 0) ∧ Hid (Below w2.heap.size w2 wx ∧ I5 wx w2.heap.size ⟨op, n0, 0, 0, 0⟩ ∧ wx.cell? ⟨w2.heap.size + 1, 0, none⟩ = some (.pointer (some ⟨w2.heap.size, 1, none⟩)))) ∨ (gf = 0 ∧ s101 = .int .i64 2 ∧ (∃ pp, s10 = .slice pp 0 0) ∧ Hid (Below w2.heap.size w2 wx ∧ I5 wx w2.heap.size ⟨op, n0, 0, 0, n1⟩ ∧ wx.cell? ⟨w2.heap.size + 1, 0, none⟩ = some (.pointer (some ⟨w2.heap.size, 1, none⟩)))))
    case atStart =>
      refine Or.inl ⟨rfl, rfl, rfl, Lib.hid ⟨HB3.out.alloc HB3.out.size _, HI3.out.alloc _, by rw [← HS3.out]; go_cell⟩⟩
    case round =>
      clear c0 c1 c2 c3 c4 f0 f1 f2 f3 f4
      rcases hrel with ⟨rfl, rfl, rfl, H⟩ | ⟨rfl, rfl, ⟨pp, rfl⟩, H⟩ | ⟨rfl, rfl, ⟨pp, rfl⟩, H⟩
      · obtain ⟨hb, ⟨⟨c0, c1, c2, c3, c4⟩, f0, f1, f2, f3, f4⟩, p0⟩ := H.out
        have qk := (hb.cell (p := ⟨g, 0, none⟩) hgl).trans HQ.out.1
        have HBK := Lib.hid hb
        clear hb H
        go_wp2_with fail
        go_roundg 1
        case measure => omega
        case rel => exact Or.inr (Or.inl ⟨rfl, rfl, ⟨_, rfl⟩, Lib.hid ⟨HBK.out.setCell (Nat.le_refl _) _, ⟨⟨by go_cell, by go_cell, by go_cell, by go_cell, by go_cell⟩, by simpa using f0, by simpa using f1, by simpa using f2, by simpa using f3, by simpa using f4⟩, by go_cell⟩⟩)
      · obtain ⟨hb, ⟨⟨c0, c1, c2, c3, c4⟩, f0, f1, f2, f3, f4⟩, p0⟩ := H.out
        have qk := (hb.cell (p := ⟨g, 1, none⟩) hgl).trans HQ.out.2
        have HBK := Lib.hid hb
        clear hb H
        have hwn : wrap32 n1 = n1 := by have := HZ.out n1 (by simp); unfold wrap32; omega
        go_wp2_with fail
        go_roundg 0
        case measure => omega
        case rel => exact Or.inr (Or.inr (⟨rfl, rfl, ⟨_, rfl⟩, Lib.hid ⟨HBK.out.setCell (Nat.le_refl _) _, ⟨⟨by go_cell, by go_cell, by go_cell, by go_cell, by go_cell⟩, by simpa using f0, by simpa using f1, by simpa using f2, by simpa using f3, by simpa using f4⟩, by go_cell⟩⟩))
      · obtain ⟨hb, h5, p0⟩ := H.out
        have HR2 := Lib.hid (HI2.out.below hb hs2)
        have HB9 := Lib.hid (HB2.out.trans (hb.mono HB2.out.size))
        obtain ⟨⟨c0, c1, c2, c3, c4⟩, f0, f1, f2, f3, f4⟩ := h5
        obtain ⟨⟨e0, e1, e2, e3, e4⟩, k0, k1, k2, k3, k4⟩ := HR2.out
        clear hb H HQ HI2 HI3
        go_wp2_with fail
        have hbs := below_set5 (b := w.heap.size) HB9.out (Nat.le_refl _) ⟨op, n0, 0, 0, n1⟩
        have hld := I5.load (HR2.out.set5 ⟨op, n0, 0, 0, n1⟩)
        unfold W.set5 at hbs hld
        refine bodyPost_ret (results_c1u (by rfl) _ (by rfl) hld) rfl ⟨rfl, ?_⟩
        exact hbs
  · have hRF : R = (bareS op atom, false) := by rw [HRR.out]; unfold guessS; rw [if_neg (by rw [HMN.out]; exact hlen)]
    rw [HBA.out] at hRF
    subst hRF
    subst hv
    have hne : ¬ ((zs.length : Int) = 2) := by omega
    obtain ⟨⟨e0, e1, e2, e3, e4⟩, k0, k1, k2, k3, k4⟩ := HRES.out
    have HBX := Lib.hid (HB2.out.trans (HB3.out.mono HB2.out.size))
    clear HRR HO HZL HBA HMN HW1 HI2 hlen
    try simp only [icells]
    have t4 : (op == 4) = false := by simp <;> omega
    have t46 : (op == 46) = false := by simp <;> omega
    have t57 : (op == 57) = false := by simp <;> omega
    go_wp2_with fail
    have hbs := below_set5 (b := w.heap.size) HBX.out (Nat.le_refl _) ⟨op, 0, 0, 0, 0⟩
    have hld := I5.load ((HRES.out.set5 ⟨op, 0, 0, 0, 0⟩).alloc (Obj.cells #[.pointer (some ⟨w2.heap.size, 1, none⟩)] 60))
    unfold W.set5 at hbs hld
    refine bodyPost_ret (results_c1u (by rfl) _ (by rfl) hld) rfl ⟨rfl, ?_⟩
    exact hbs.alloc hbs.size _
set_option maxRecDepth 100000 in
set_option maxHeartbeats 3200000 in
theorem guess_i1 (op atom : Int) (l : List UInt8) (zs : List Int) (HZL : Hid (zs.length ≤ 4294967296)) (HZ : Hid (∀ z ∈ zs, -2147483648 ≤ z ∧ z ≤ 2147483647)) (o1 : 4 ≤ op) (o2 : op ≤ 4) (w : World)
    (HN : Hid (∀ W, Below w.heap.size w W → Calls Tryd.prog 29 #[.string (bs l)] W fun e w' => ∃ v, e = .returned v ∧ w'.ownsRow W.heap.size 2 1 v zs.length (zs.map (.int .i64 ·)) ∧ Below W.heap.size W w')) :
    Calls Tryd.prog 20 #[.int .i64 op, .int .i32 atom, .string (bs l)] w fun e w' => e = .returned (.tuple #[.agg (icells (guessS op atom zs).1), .bool (guessS op atom zs).2]) ∧ Below w.heap.size w w' := by
  obtain ⟨R, hR⟩ : ∃ R, R = guessS op atom zs := ⟨_, rfl⟩
  rw [← hR]
  have hb : bareS op atom = ⟨op, 0, 0, 0, 0⟩ := by unfold bareS; rw [if_neg (by omega)]
  have hm : manyS op = 3 := by unfold manyS offsS numS; (repeat (first | rw [if_pos (by omega)] | rw [if_neg (by omega)])); rfl
  have HRR := Lib.hid hR
  have HBA := Lib.hid hb
  have HMN := Lib.hid hm
  clear hR hb hm
  obtain ⟨w1, hw1⟩ : ∃ w1, w1 = w.alloc (.cells #[.int .i64 0, .int .i64 0, .int .i64 0, .int .i64 0, .int .i32 0] 23) := ⟨_, rfl⟩
  have HB1 := Lib.hid (show Below w.heap.size w w1 by rw [hw1]; exact (by repeat (first | with_reducible exact Below.refl _ _ | with_reducible refine below_drewN ?_ _ | ((with_reducible refine Below.setCell ?_ ?hq _); case hq => (first | (simp; done) | (simp; omega))) | ((with_reducible refine Below.alloc ?_ ?hq _); case hq => (first | (simp; done) | (simp; omega))))))
  have HI1 := Lib.hid (show I5 w1 w.heap.size ⟨0, 0, 0, 0, 0⟩ by rw [hw1]; exact ⟨⟨by go_cell, by go_cell, by go_cell, by go_cell, by go_cell⟩, World.frozen?_alloc_new _ _ _ _, World.frozen?_alloc_new _ _ _ _, World.frozen?_alloc_new _ _ _ _, World.frozen?_alloc_new _ _ _ _, World.frozen?_alloc_new _ _ _ _⟩)
  have hs1 : w.heap.size < w1.heap.size := by rw [hw1]; simp
  have HW1 := Lib.hid hw1
  have HN1 := Lib.hid (HN.out w1 HB1.out)
  clear HN hw1
  go_enter Tryd.func20, Tryd.ntmps20
  go_upto_region 1 with (fail)
  rw [← HW1.out]
  go_wp2_with fail
  refine HN1.out.mono ?_
  rintro e w2 ⟨v, rfl, hown, hb2⟩
  have hs2 : w.heap.size < w2.heap.size := Nat.lt_of_lt_of_le hs1 hb2.size
  have HB2 := Lib.hid (HB1.out.trans (hb2.mono HB1.out.size))
  have HO := Lib.hid hown
  have HI2 := Lib.hid (HI1.out.below hb2 hs1)
  clear hown hb2 HN1 HI1 HB1
  obtain ⟨w3, hw3⟩ : ∃ w3, w3 = w2.alloc (.cells #[.int .i64 op, .int .i64 0, .int .i64 0, .int .i64 0, .int .i32 0] 23) := ⟨_, rfl⟩
  have HW3 := Lib.hid hw3
  go_upto_region 3 with (fail)
  rw [← HW3.out]
  have HB3 := Lib.hid (show Below w2.heap.size w2 w3 by rw [hw3]; exact (by repeat (first | with_reducible exact Below.refl _ _ | with_reducible refine below_drewN ?_ _ | ((with_reducible refine Below.setCell ?_ ?hq _); case hq => (first | (simp; done) | (simp; omega))) | ((with_reducible refine Below.alloc ?_ ?hq _); case hq => (first | (simp; done) | (simp; omega))))))
  have hI3 : I5 w3 w2.heap.size ⟨op, 0, 0, 0, 0⟩ := by rw [hw3]; exact ⟨⟨by go_cell, by go_cell, by go_cell, by go_cell, by go_cell⟩, World.frozen?_alloc_new _ _ _ _, World.frozen?_alloc_new _ _ _ _, World.frozen?_alloc_new _ _ _ _, World.frozen?_alloc_new _ _ _ _, World.frozen?_alloc_new _ _ _ _⟩
  have hs3 : w3.heap.size = w2.heap.size + 1 := by rw [hw3]; simp
  have HS3 := Lib.hid hs3
  obtain ⟨⟨c0, c1, c2, c3, c4⟩, f0, f1, f2, f3, f4⟩ := hI3
  clear hw3
  have HRES := Lib.hid (HI2.out.below HB3.out hs2)
  have hzl := HZL.out
  obtain ⟨p, cap, hv⟩ : ∃ p cap, v = .slice p zs.length cap := by
    rcases HO.out.2 with ⟨h, h2⟩ | ⟨g, cap, cur, h, _⟩
    · exact ⟨none, 0, by rw [h, h2]⟩
    · exact ⟨_, cap, h⟩
  by_cases hlen : zs.length = 3
  · obtain ⟨n0, n1, n2, rfl⟩ : ∃ n0 n1 n2, zs = [n0, n1, n2] := by
      match zs, hlen with
      | [n0, n1, n2], _ => exact ⟨n0, n1, n2, rfl⟩
    have hRF : R = (⟨op, n0, n1, 0, n2⟩, true) := by
      rw [HRR.out]
      unfold guessS
      rw [if_pos (by rw [HMN.out]; rfl), HBA.out]
      unfold offsS numS
      (repeat (first | rw [if_pos (by omega)] | rw [if_neg (by omega)]))
      have hup : ¬ op ≤ 2 := by omega
      simp [fillS, setF, immG, hup]
    subst hRF
    rcases HO.out.2 with ⟨_, h2⟩ | ⟨g, cap2, cur, hv2, _, hg2, _⟩
    · simp at h2
    obtain rfl := hv2
    injection hv with hp1 hp2 hp3
    subst hp1 hp3
    have hgl : g < w2.heap.size := (Array.getElem?_eq_some_iff.1 hg2).1
    have q0 : w2.cell? ⟨g, 0, none⟩ = some (.int .i64 n0) := HO.out.cellAt 0 (by simp)
    have q1 : w2.cell? ⟨g, 1, none⟩ = some (.int .i64 n1) := HO.out.cellAt 1 (by simp)
    have q2 : w2.cell? ⟨g, 2, none⟩ = some (.int .i64 n2) := HO.out.cellAt 2 (by simp)
    have HQ := Lib.hid (And.intro q0 (And.intro q1 q2))
    have hgz : g < w2.heap.size + 1 + 1 := by omega
    clear HRR HO HZL HBA HMN HW1 HRES hg2 hlen hzl hp2 q0 q1 q2
    have t4 : (op == 4) = true := by simp <;> omega
    have t46 : (op == 46) = false := by simp <;> omega
    have t57 : (op == 57) = false := by simp <;> omega
    try simp only [icells]
    have HI3 := Lib.hid (show I5 w3 w2.heap.size ⟨op, 0, 0, 0, 0⟩ from ⟨⟨c0, c1, c2, c3, c4⟩, f0, f1, f2, f3, f4⟩)
    clear hgz
    go_wp2_with fail
    go_loopg [10, 101] 3 (fun gf s10 s101 wx => (gf = 3 ∧ s101 = .int .i64 0 ∧ (s10 = .slice (some ⟨w2.heap.size + 1, 0, none⟩) 2 2) ∧ Hid (Below w2.heap.size w2 wx ∧ I5 wx w2.heap.size ⟨op, 0, 0, 0, 0⟩ ∧ wx.cell? ⟨w2.heap.size + 1, 0, none⟩ = some (.pointer (some ⟨w2.heap.size, 1, none⟩)) ∧ wx.cell? ⟨w2.heap.size + 1, 1, none⟩ = some (.pointer (some ⟨w2.heap.size, 2, none⟩)))) ∨ (gf = 2 ∧ s101 = .int .i64 1 ∧ (s10 = .slice (some ⟨w2.heap.size + 1, 1, none⟩) 1 1) ∧ Hid (Below w2.heap.size w2 wx ∧ I5 wx w2.heap.size ⟨op, n0, 0, 0, 0⟩ ∧ wx.cell? ⟨w2.heap.size + 1, 0, none⟩ = some (.pointer (some ⟨w2.heap.size, 1, none⟩)) ∧ wx.cell? ⟨w2.heap.size + 1, 1, none⟩ = some (.pointer (some ⟨w2.heap.size, 2, none⟩)))) ∨ (gf = 1 ∧ s101 = .int .i64 2 ∧ (∃ pp, s10 = .slice pp 0 0) ∧ Hid (Below w2.heap.size w2 wx ∧ I5 wx w2.heap.size ⟨op, n0, n1, 0, 0⟩ ∧ wx.cell? ⟨w2.heap.size + 1, 0, none⟩ = some (.pointer (some ⟨w2.heap.size, 1, none⟩)) ∧ wx.cell? ⟨w2.heap.size + 1, 1, none⟩ = some (.pointer (some ⟨w2.heap.size, 2, none⟩)))) ∨ (gf = 0 ∧ s101 = .int .i64 3 ∧ (∃ pp, s10 = .slice pp 0 0) ∧ Hid (Below w2.heap.size w2 wx ∧ I5 wx w2.heap.size ⟨op, n0, n1, 0, n2⟩ ∧ wx.cell? ⟨w2.heap.size + 1, 0, none⟩ = some (.pointer (some ⟨w2.heap.size, 1, none⟩)) ∧ wx.cell? ⟨w2.heap.size + 1, 1, none⟩ = some (.pointer (some ⟨w2.heap.size, 2, none⟩)))))
    case atStart =>
      refine Or.inl ⟨rfl, rfl, rfl, Lib.hid ⟨HB3.out.alloc HB3.out.size _, HI3.out.alloc _, by rw [← HS3.out]; go_cell, by rw [← HS3.out]; go_cell⟩⟩
    case round =>
      clear c0 c1 c2 c3 c4 f0 f1 f2 f3 f4
      rcases hrel with ⟨rfl, rfl, rfl, H⟩ | ⟨rfl, rfl, rfl, H⟩ | ⟨rfl, rfl, ⟨pp, rfl⟩, H⟩ | ⟨rfl, rfl, ⟨pp, rfl⟩, H⟩
      · obtain ⟨hb, ⟨⟨c0, c1, c2, c3, c4⟩, f0, f1, f2, f3, f4⟩, p0, p1⟩ := H.out
        have qk := (hb.cell (p := ⟨g, 0, none⟩) hgl).trans HQ.out.1
        have HBK := Lib.hid hb
        clear hb H
        go_wp2_with fail
        go_roundg 2
        case measure => omega
        case rel => exact Or.inr (Or.inl ⟨rfl, rfl, rfl, Lib.hid ⟨HBK.out.setCell (Nat.le_refl _) _, ⟨⟨by go_cell, by go_cell, by go_cell, by go_cell, by go_cell⟩, by simpa using f0, by simpa using f1, by simpa using f2, by simpa using f3, by simpa using f4⟩, by go_cell, by go_cell⟩⟩)
      · obtain ⟨hb, ⟨⟨c0, c1, c2, c3, c4⟩, f0, f1, f2, f3, f4⟩, p0, p1⟩ := H.out
        have qk := (hb.cell (p := ⟨g, 1, none⟩) hgl).trans HQ.out.2.1
        have HBK := Lib.hid hb
        clear hb H
        go_wp2_with fail
        go_roundg 1
        case measure => omega
        case rel => exact Or.inr (Or.inr (Or.inl ⟨rfl, rfl, ⟨_, rfl⟩, Lib.hid ⟨HBK.out.setCell (Nat.le_refl _) _, ⟨⟨by go_cell, by go_cell, by go_cell, by go_cell, by go_cell⟩, by simpa using f0, by simpa using f1, by simpa using f2, by simpa using f3, by simpa using f4⟩, by go_cell, by go_cell⟩⟩))
      · obtain ⟨hb, ⟨⟨c0, c1, c2, c3, c4⟩, f0, f1, f2, f3, f4⟩, p0, p1⟩ := H.out
        have qk := (hb.cell (p := ⟨g, 2, none⟩) hgl).trans HQ.out.2.2
        have HBK := Lib.hid hb
        clear hb H
        have hwn : wrap32 n2 = n2 := by have := HZ.out n2 (by simp); unfold wrap32; omega
        go_wp2_with fail
        go_roundg 0
        case measure => omega
        case rel => exact Or.inr (Or.inr (Or.inr (⟨rfl, rfl, ⟨_, rfl⟩, Lib.hid ⟨HBK.out.setCell (Nat.le_refl _) _, ⟨⟨by go_cell, by go_cell, by go_cell, by go_cell, by go_cell⟩, by simpa using f0, by simpa using f1, by simpa using f2, by simpa using f3, by simpa using f4⟩, by go_cell, by go_cell⟩⟩)))
      · obtain ⟨hb, h5, p0, p1⟩ := H.out
        have HR2 := Lib.hid (HI2.out.below hb hs2)
        have HB9 := Lib.hid (HB2.out.trans (hb.mono HB2.out.size))
        obtain ⟨⟨c0, c1, c2, c3, c4⟩, f0, f1, f2, f3, f4⟩ := h5
        obtain ⟨⟨e0, e1, e2, e3, e4⟩, k0, k1, k2, k3, k4⟩ := HR2.out
        clear hb H HQ HI2 HI3
        go_wp2_with fail
        have hbs := below_set5 (b := w.heap.size) HB9.out (Nat.le_refl _) ⟨op, n0, n1, 0, n2⟩
        have hld := I5.load (HR2.out.set5 ⟨op, n0, n1, 0, n2⟩)
        unfold W.set5 at hbs hld
        refine bodyPost_ret (results_c1u (by rfl) _ (by rfl) hld) rfl ⟨rfl, ?_⟩
        exact hbs
  · have hRF : R = (bareS op atom, false) := by rw [HRR.out]; unfold guessS; rw [if_neg (by rw [HMN.out]; exact hlen)]
    rw [HBA.out] at hRF
    subst hRF
    subst hv
    have hne : ¬ ((zs.length : Int) = 3) := by omega
    obtain ⟨⟨e0, e1, e2, e3, e4⟩, k0, k1, k2, k3, k4⟩ := HRES.out
    have HBX := Lib.hid (HB2.out.trans (HB3.out.mono HB2.out.size))
    clear HRR HO HZL HBA HMN HW1 HI2 hlen
    try simp only [icells]
    have t4 : (op == 4) = true := by simp <;> omega
    have t46 : (op == 46) = false := by simp <;> omega
    have t57 : (op == 57) = false := by simp <;> omega
    go_wp2_with fail
    have hbs := below_set5 (b := w.heap.size) HBX.out (Nat.le_refl _) ⟨op, 0, 0, 0, 0⟩
    have hld := I5.load ((HRES.out.set5 ⟨op, 0, 0, 0, 0⟩).alloc (Obj.cells #[.pointer (some ⟨w2.heap.size, 1, none⟩), .pointer (some ⟨w2.heap.size, 2, none⟩)] 60))
    unfold W.set5 at hbs hld
    refine bodyPost_ret (results_c1u (by rfl) _ (by rfl) hld) rfl ⟨rfl, ?_⟩
    exact hbs.alloc hbs.size _
set_option maxRecDepth 100000 in
set_option maxHeartbeats 3200000 in
theorem guess_b (op atom : Int) (l : List UInt8) (zs : List Int) (HZL : Hid (zs.length ≤ 4294967296)) (HZ : Hid (∀ z ∈ zs, -2147483648 ≤ z ∧ z ≤ 2147483647)) (o1 : 5 ≤ op) (o2 : op ≤ 10) (w : World)
    (HN : Hid (∀ W, Below w.heap.size w W → Calls Tryd.prog 29 #[.string (bs l)] W fun e w' => ∃ v, e = .returned v ∧ w'.ownsRow W.heap.size 2 1 v zs.length (zs.map (.int .i64 ·)) ∧ Below W.heap.size W w')) :
    Calls Tryd.prog 20 #[.int .i64 op, .int .i32 atom, .string (bs l)] w fun e w' => e = .returned (.tuple #[.agg (icells (guessS op atom zs).1), .bool (guessS op atom zs).2]) ∧ Below w.heap.size w w' := by
  obtain ⟨R, hR⟩ : ∃ R, R = guessS op atom zs := ⟨_, rfl⟩
  rw [← hR]
  have hb : bareS op atom = ⟨op, 0, 0, 0, 0⟩ := by unfold bareS; rw [if_neg (by omega)]
  have hm : manyS op = 3 := by unfold manyS offsS numS; (repeat (first | rw [if_pos (by omega)] | rw [if_neg (by omega)])); rfl
  have HRR := Lib.hid hR
  have HBA := Lib.hid hb
  have HMN := Lib.hid hm
  clear hR hb hm
  obtain ⟨w1, hw1⟩ : ∃ w1, w1 = w.alloc (.cells #[.int .i64 0, .int .i64 0, .int .i64 0, .int .i64 0, .int .i32 0] 23) := ⟨_, rfl⟩
  have HB1 := Lib.hid (show Below w.heap.size w w1 by rw [hw1]; exact (by repeat (first | with_reducible exact Below.refl _ _ | with_reducible refine below_drewN ?_ _ | ((with_reducible refine Below.setCell ?_ ?hq _); case hq => (first | (simp; done) | (simp; omega))) | ((with_reducible refine Below.alloc ?_ ?hq _); case hq => (first | (simp; done) | (simp; omega))))))
  have HI1 := Lib.hid (show I5 w1 w.heap.size ⟨0, 0, 0, 0, 0⟩ by rw [hw1]; exact ⟨⟨by go_cell, by go_cell, by go_cell, by go_cell, by go_cell⟩, World.frozen?_alloc_new _ _ _ _, World.frozen?_alloc_new _ _ _ _, World.frozen?_alloc_new _ _ _ _, World.frozen?_alloc_new _ _ _ _, World.frozen?_alloc_new _ _ _ _⟩)
  have hs1 : w.heap.size < w1.heap.size := by rw [hw1]; simp
  have HW1 := Lib.hid hw1
  have HN1 := Lib.hid (HN.out w1 HB1.out)
  clear HN hw1
  go_enter Tryd.func20, Tryd.ntmps20
  go_upto_region 1 with (fail)
  rw [← HW1.out]
  go_wp2_with fail
  refine HN1.out.mono ?_
  rintro e w2 ⟨v, rfl, hown, hb2⟩
  have hs2 : w.heap.size < w2.heap.size := Nat.lt_of_lt_of_le hs1 hb2.size
  have HB2 := Lib.hid (HB1.out.trans (hb2.mono HB1.out.size))
  have HO := Lib.hid hown
  have HI2 := Lib.hid (HI1.out.below hb2 hs1)
  clear hown hb2 HN1 HI1 HB1
  obtain ⟨w3, hw3⟩ : ∃ w3, w3 = w2.alloc (.cells #[.int .i64 op, .int .i64 0, .int .i64 0, .int .i64 0, .int .i32 0] 23) := ⟨_, rfl⟩
  have HW3 := Lib.hid hw3
  go_upto_region 3 with (fail)
  rw [← HW3.out]
  have HB3 := Lib.hid (show Below w2.heap.size w2 w3 by rw [hw3]; exact (by repeat (first | with_reducible exact Below.refl _ _ | with_reducible refine below_drewN ?_ _ | ((with_reducible refine Below.setCell ?_ ?hq _); case hq => (first | (simp; done) | (simp; omega))) | ((with_reducible refine Below.alloc ?_ ?hq _); case hq => (first | (simp; done) | (simp; omega))))))
  have hI3 : I5 w3 w2.heap.size ⟨op, 0, 0, 0, 0⟩ := by rw [hw3]; exact ⟨⟨by go_cell, by go_cell, by go_cell, by go_cell, by go_cell⟩, World.frozen?_alloc_new _ _ _ _, World.frozen?_alloc_new _ _ _ _, World.frozen?_alloc_new _ _ _ _, World.frozen?_alloc_new _ _ _ _, World.frozen?_alloc_new _ _ _ _⟩
  have hs3 : w3.heap.size = w2.heap.size + 1 := by rw [hw3]; simp
  have HS3 := Lib.hid hs3
  obtain ⟨⟨c0, c1, c2, c3, c4⟩, f0, f1, f2, f3, f4⟩ := hI3
  clear hw3
  have HRES := Lib.hid (HI2.out.below HB3.out hs2)
  have hzl := HZL.out
  obtain ⟨p, cap, hv⟩ : ∃ p cap, v = .slice p zs.length cap := by
    rcases HO.out.2 with ⟨h, h2⟩ | ⟨g, cap, cur, h, _⟩
    · exact ⟨none, 0, by rw [h, h2]⟩
    · exact ⟨_, cap, h⟩
  by_cases hlen : zs.length = 3
  · obtain ⟨n0, n1, n2, rfl⟩ : ∃ n0 n1 n2, zs = [n0, n1, n2] := by
      match zs, hlen with
      | [n0, n1, n2], _ => exact ⟨n0, n1, n2, rfl⟩
    have hRF : R = (⟨op, 0, n0, n1, n2⟩, true) := by
      rw [HRR.out]
      unfold guessS
      rw [if_pos (by rw [HMN.out]; rfl), HBA.out]
      unfold offsS numS
      (repeat (first | rw [if_pos (by omega)] | rw [if_neg (by omega)]))
      have hup : ¬ op ≤ 2 := by omega
      simp [fillS, setF, immG, hup]
    subst hRF
    rcases HO.out.2 with ⟨_, h2⟩ | ⟨g, cap2, cur, hv2, _, hg2, _⟩
    · simp at h2
    obtain rfl := hv2
    injection hv with hp1 hp2 hp3
    subst hp1 hp3
    have hgl : g < w2.heap.size := (Array.getElem?_eq_some_iff.1 hg2).1
    have q0 : w2.cell? ⟨g, 0, none⟩ = some (.int .i64 n0) := HO.out.cellAt 0 (by simp)
    have q1 : w2.cell? ⟨g, 1, none⟩ = some (.int .i64 n1) := HO.out.cellAt 1 (by simp)
    have q2 : w2.cell? ⟨g, 2, none⟩ = some (.int .i64 n2) := HO.out.cellAt 2 (by simp)
    have HQ := Lib.hid (And.intro q0 (And.intro q1 q2))
    have hgz : g < w2.heap.size + 1 + 1 := by omega
    clear HRR HO HZL HBA HMN HW1 HRES hg2 hlen hzl hp2 q0 q1 q2
    have t4 : (op == 4) = false := by simp <;> omega
    have t46 : (op == 46) = false := by simp <;> omega
    have t57 : (op == 57) = false := by simp <;> omega
    try simp only [icells]
    have HI3 := Lib.hid (show I5 w3 w2.heap.size ⟨op, 0, 0, 0, 0⟩ from ⟨⟨c0, c1, c2, c3, c4⟩, f0, f1, f2, f3, f4⟩)
    clear hgz
    go_wp2_with fail
    go_loopg [10, 101] 3 (fun gf s10 s101 wx => (gf = 3 ∧ s101 = .int .i64 0 ∧ (s10 = .slice (some ⟨w2.heap.size + 1, 0, none⟩) 2 2) ∧ Hid (Below w2.heap.size w2 wx ∧ I5 wx w2.heap.size ⟨op, 0, 0, 0, 0⟩ ∧ wx.cell? ⟨w2.heap.size + 1, 0, none⟩ = some (.pointer (some ⟨w2.heap.size, 2, none⟩)) ∧ wx.cell? ⟨w2.heap.size + 1, 1, none⟩ = some (.pointer (some ⟨w2.heap.size, 3, none⟩)))) ∨ (gf = 2 ∧ s101 = .int .i64 1 ∧ (s10 = .slice (some ⟨w2.heap.size + 1, 1, none⟩) 1 1) ∧ Hid (Below w2.heap.size w2 wx ∧ I5 wx w2.heap.size ⟨op, 0, n0, 0, 0⟩ ∧ wx.cell? ⟨w2.heap.size + 1, 0, none⟩ = some (.pointer (some ⟨w2.heap.size, 2, none⟩)) ∧ wx.cell? ⟨w2.heap.size + 1, 1, none⟩ = some (.pointer (some ⟨w2.heap.size, 3, none⟩)))) ∨ (gf = 1 ∧ s101 = .int .i64 2 ∧ (∃ pp, s10 = .slice pp 0 0) ∧ Hid (Below w2.heap.size w2 wx ∧ I5 wx w2.heap.size ⟨op, 0, n0, n1, 0⟩ ∧ wx.cell? ⟨w2.heap.size + 1, 0, none⟩ = some (.pointer (some ⟨w2.heap.size, 2, none⟩)) ∧ wx.cell? ⟨w2.heap.size + 1, 1, none⟩ = some (.pointer (some ⟨w2.heap.size, 3, none⟩)))) ∨ (gf = 0 ∧ s101 = .int .i64 3 ∧ (∃ pp, s10 = .slice pp 0 0) ∧ Hid (Below w2.heap.size w2 wx ∧ I5 wx w2.heap.size ⟨op, 0, n0, n1, n2⟩ ∧ wx.cell? ⟨w2.heap.size + 1, 0, none⟩ = some (.pointer (some ⟨w2.heap.size, 2, none⟩)) ∧ wx.cell? ⟨w2.heap.size + 1, 1, none⟩ = some (.pointer (some ⟨w2.heap.size, 3, none⟩)))))
    case atStart =>
      refine Or.inl ⟨rfl, rfl, rfl, Lib.hid ⟨HB3.out.alloc HB3.out.size _, HI3.out.alloc _, by rw [← HS3.out]; go_cell, by rw [← HS3.out]; go_cell⟩⟩
    case round =>
      clear c0 c1 c2 c3 c4 f0 f1 f2 f3 f4
      rcases hrel with ⟨rfl, rfl, rfl, H⟩ | ⟨rfl, rfl, rfl, H⟩ | ⟨rfl, rfl, ⟨pp, rfl⟩, H⟩ | ⟨rfl, rfl, ⟨pp, rfl⟩, H⟩
      · obtain ⟨hb, ⟨⟨c0, c1, c2, c3, c4⟩, f0, f1, f2, f3, f4⟩, p0, p1⟩ := H.out
        have qk := (hb.cell (p := ⟨g, 0, none⟩) hgl).trans HQ.out.1
        have HBK := Lib.hid hb
        clear hb H
        go_wp2_with fail
        go_roundg 2
        case measure => omega
        case rel => exact Or.inr (Or.inl ⟨rfl, rfl, rfl, Lib.hid ⟨HBK.out.setCell (Nat.le_refl _) _, ⟨⟨by go_cell, by go_cell, by go_cell, by go_cell, by go_cell⟩, by simpa using f0, by simpa using f1, by simpa using f2, by simpa using f3, by simpa using f4⟩, by go_cell, by go_cell⟩⟩)
      · obtain ⟨hb, ⟨⟨c0, c1, c2, c3, c4⟩, f0, f1, f2, f3, f4⟩, p0, p1⟩ := H.out
        have qk := (hb.cell (p := ⟨g, 1, none⟩) hgl).trans HQ.out.2.1
        have HBK := Lib.hid hb
        clear hb H
        go_wp2_with fail
        go_roundg 1
        case measure => omega
        case rel => exact Or.inr (Or.inr (Or.inl ⟨rfl, rfl, ⟨_, rfl⟩, Lib.hid ⟨HBK.out.setCell (Nat.le_refl _) _, ⟨⟨by go_cell, by go_cell, by go_cell, by go_cell, by go_cell⟩, by simpa using f0, by simpa using f1, by simpa using f2, by simpa using f3, by simpa using f4⟩, by go_cell, by go_cell⟩⟩))
      · obtain ⟨hb, ⟨⟨c0, c1, c2, c3, c4⟩, f0, f1, f2, f3, f4⟩, p0, p1⟩ := H.out
        have qk := (hb.cell (p := ⟨g, 2, none⟩) hgl).trans HQ.out.2.2
        have HBK := Lib.hid hb
        clear hb H
        have hwn : wrap32 n2 = n2 := by have := HZ.out n2 (by simp); unfold wrap32; omega
        go_wp2_with fail
        go_roundg 0
        case measure => omega
        case rel => exact Or.inr (Or.inr (Or.inr (⟨rfl, rfl, ⟨_, rfl⟩, Lib.hid ⟨HBK.out.setCell (Nat.le_refl _) _, ⟨⟨by go_cell, by go_cell, by go_cell, by go_cell, by go_cell⟩, by simpa using f0, by simpa using f1, by simpa using f2, by simpa using f3, by simpa using f4⟩, by go_cell, by go_cell⟩⟩)))
      · obtain ⟨hb, h5, p0, p1⟩ := H.out
        have HR2 := Lib.hid (HI2.out.below hb hs2)
        have HB9 := Lib.hid (HB2.out.trans (hb.mono HB2.out.size))
        obtain ⟨⟨c0, c1, c2, c3, c4⟩, f0, f1, f2, f3, f4⟩ := h5
        obtain ⟨⟨e0, e1, e2, e3, e4⟩, k0, k1, k2, k3, k4⟩ := HR2.out
        clear hb H HQ HI2 HI3
        go_wp2_with fail
        have hbs := below_set5 (b := w.heap.size) HB9.out (Nat.le_refl _) ⟨op, 0, n0, n1, n2⟩
        have hld := I5.load (HR2.out.set5 ⟨op, 0, n0, n1, n2⟩)
        unfold W.set5 at hbs hld
        refine bodyPost_ret (results_c1u (by rfl) _ (by rfl) hld) rfl ⟨rfl, ?_⟩
        exact hbs
  · have hRF : R = (bareS op atom, false) := by rw [HRR.out]; unfold guessS; rw [if_neg (by rw [HMN.out]; exact hlen)]
    rw [HBA.out] at hRF
    subst hRF
    subst hv
    have hne : ¬ ((zs.length : Int) = 3) := by omega
    obtain ⟨⟨e0, e1, e2, e3, e4⟩, k0, k1, k2, k3, k4⟩ := HRES.out
    have HBX := Lib.hid (HB2.out.trans (HB3.out.mono HB2.out.size))
    clear HRR HO HZL HBA HMN HW1 HI2 hlen
    try simp only [icells]
    have t4 : (op == 4) = false := by simp <;> omega
    have t46 : (op == 46) = false := by simp <;> omega
    have t57 : (op == 57) = false := by simp <;> omega
    go_wp2_with fail
    have hbs := below_set5 (b := w.heap.size) HBX.out (Nat.le_refl _) ⟨op, 0, 0, 0, 0⟩
    have hld := I5.load ((HRES.out.set5 ⟨op, 0, 0, 0, 0⟩).alloc (Obj.cells #[.pointer (some ⟨w2.heap.size, 2, none⟩), .pointer (some ⟨w2.heap.size, 3, none⟩)] 60))
    unfold W.set5 at hbs hld
    refine bodyPost_ret (results_c1u (by rfl) _ (by rfl) hld) rfl ⟨rfl, ?_⟩
    exact hbs.alloc hbs.size _
set_option maxRecDepth 100000 in
set_option maxHeartbeats 3200000 in
theorem guess_l (op atom : Int) (l : List UInt8) (zs : List Int) (HZL : Hid (zs.length ≤ 4294967296)) (HZ : Hid (∀ z ∈ zs, -2147483648 ≤ z ∧ z ≤ 2147483647)) (o1 : 11 ≤ op) (o2 : op ≤ 15) (w : World)
    (HN : Hid (∀ W, Below w.heap.size w W → Calls Tryd.prog 29 #[.string (bs l)] W fun e w' => ∃ v, e = .returned v ∧ w'.ownsRow W.heap.size 2 1 v zs.length (zs.map (.int .i64 ·)) ∧ Below W.heap.size W w')) :
    Calls Tryd.prog 20 #[.int .i64 op, .int .i32 atom, .string (bs l)] w fun e w' => e = .returned (.tuple #[.agg (icells (guessS op atom zs).1), .bool (guessS op atom zs).2]) ∧ Below w.heap.size w w' := by
  obtain ⟨R, hR⟩ : ∃ R, R = guessS op atom zs := ⟨_, rfl⟩
  rw [← hR]
  have hb : bareS op atom = ⟨op, 0, 0, 0, 0⟩ := by unfold bareS; rw [if_neg (by omega)]
  have hm : manyS op = 3 := by unfold manyS offsS numS; (repeat (first | rw [if_pos (by omega)] | rw [if_neg (by omega)])); rfl
  have HRR := Lib.hid hR
  have HBA := Lib.hid hb
  have HMN := Lib.hid hm
  clear hR hb hm
  obtain ⟨w1, hw1⟩ : ∃ w1, w1 = w.alloc (.cells #[.int .i64 0, .int .i64 0, .int .i64 0, .int .i64 0, .int .i32 0] 23) := ⟨_, rfl⟩
  have HB1 := Lib.hid (show Below w.heap.size w w1 by rw [hw1]; exact (by repeat (first | with_reducible exact Below.refl _ _ | with_reducible refine below_drewN ?_ _ | ((with_reducible refine Below.setCell ?_ ?hq _); case hq => (first | (simp; done) | (simp; omega))) | ((with_reducible refine Below.alloc ?_ ?hq _); case hq => (first | (simp; done) | (simp; omega))))))
  have HI1 := Lib.hid (show I5 w1 w.heap.size ⟨0, 0, 0, 0, 0⟩ by rw [hw1]; exact ⟨⟨by go_cell, by go_cell, by go_cell, by go_cell, by go_cell⟩, World.frozen?_alloc_new _ _ _ _, World.frozen?_alloc_new _ _ _ _, World.frozen?_alloc_new _ _ _ _, World.frozen?_alloc_new _ _ _ _, World.frozen?_alloc_new _ _ _ _⟩)
  have hs1 : w.heap.size < w1.heap.size := by rw [hw1]; simp
  have HW1 := Lib.hid hw1
  have HN1 := Lib.hid (HN.out w1 HB1.out)
  clear HN hw1
  go_enter Tryd.func20, Tryd.ntmps20
  go_upto_region 1 with (fail)
  rw [← HW1.out]
  go_wp2_with fail
  refine HN1.out.mono ?_
  rintro e w2 ⟨v, rfl, hown, hb2⟩
  have hs2 : w.heap.size < w2.heap.size := Nat.lt_of_lt_of_le hs1 hb2.size
  have HB2 := Lib.hid (HB1.out.trans (hb2.mono HB1.out.size))
  have HO := Lib.hid hown
  have HI2 := Lib.hid (HI1.out.below hb2 hs1)
  clear hown hb2 HN1 HI1 HB1
  obtain ⟨w3, hw3⟩ : ∃ w3, w3 = w2.alloc (.cells #[.int .i64 op, .int .i64 0, .int .i64 0, .int .i64 0, .int .i32 0] 23) := ⟨_, rfl⟩
  have HW3 := Lib.hid hw3
  go_upto_region 3 with (fail)
  rw [← HW3.out]
  have HB3 := Lib.hid (show Below w2.heap.size w2 w3 by rw [hw3]; exact (by repeat (first | with_reducible exact Below.refl _ _ | with_reducible refine below_drewN ?_ _ | ((with_reducible refine Below.setCell ?_ ?hq _); case hq => (first | (simp; done) | (simp; omega))) | ((with_reducible refine Below.alloc ?_ ?hq _); case hq => (first | (simp; done) | (simp; omega))))))
  have hI3 : I5 w3 w2.heap.size ⟨op, 0, 0, 0, 0⟩ := by rw [hw3]; exact ⟨⟨by go_cell, by go_cell, by go_cell, by go_cell, by go_cell⟩, World.frozen?_alloc_new _ _ _ _, World.frozen?_alloc_new _ _ _ _, World.frozen?_alloc_new _ _ _ _, World.frozen?_alloc_new _ _ _ _, World.frozen?_alloc_new _ _ _ _⟩
  have hs3 : w3.heap.size = w2.heap.size + 1 := by rw [hw3]; simp
  have HS3 := Lib.hid hs3
  obtain ⟨⟨c0, c1, c2, c3, c4⟩, f0, f1, f2, f3, f4⟩ := hI3
  clear hw3
  have HRES := Lib.hid (HI2.out.below HB3.out hs2)
  have hzl := HZL.out
  obtain ⟨p, cap, hv⟩ : ∃ p cap, v = .slice p zs.length cap := by
    rcases HO.out.2 with ⟨h, h2⟩ | ⟨g, cap, cur, h, _⟩
    · exact ⟨none, 0, by rw [h, h2]⟩
    · exact ⟨_, cap, h⟩
  by_cases hlen : zs.length = 3
  · obtain ⟨n0, n1, n2, rfl⟩ : ∃ n0 n1 n2, zs = [n0, n1, n2] := by
      match zs, hlen with
      | [n0, n1, n2], _ => exact ⟨n0, n1, n2, rfl⟩
    have hRF : R = (⟨op, n0, n2, 0, n1⟩, true) := by
      rw [HRR.out]
      unfold guessS
      rw [if_pos (by rw [HMN.out]; rfl), HBA.out]
      unfold offsS numS
      (repeat (first | rw [if_pos (by omega)] | rw [if_neg (by omega)]))
      have hup : ¬ op ≤ 2 := by omega
      simp [fillS, setF, immG, hup]
    subst hRF
    rcases HO.out.2 with ⟨_, h2⟩ | ⟨g, cap2, cur, hv2, _, hg2, _⟩
    · simp at h2
    obtain rfl := hv2
    injection hv with hp1 hp2 hp3
    subst hp1 hp3
    have hgl : g < w2.heap.size := (Array.getElem?_eq_some_iff.1 hg2).1
    have q0 : w2.cell? ⟨g, 0, none⟩ = some (.int .i64 n0) := HO.out.cellAt 0 (by simp)
    have q1 : w2.cell? ⟨g, 1, none⟩ = some (.int .i64 n1) := HO.out.cellAt 1 (by simp)
    have q2 : w2.cell? ⟨g, 2, none⟩ = some (.int .i64 n2) := HO.out.cellAt 2 (by simp)
    have HQ := Lib.hid (And.intro q0 (And.intro q1 q2))
    have hgz : g < w2.heap.size + 1 + 1 := by omega
    clear HRR HO HZL HBA HMN HW1 HRES hg2 hlen hzl hp2 q0 q1 q2
    have t4 : (op == 4) = false := by simp <;> omega
    have t46 : (op == 46) = false := by simp <;> omega
    have t57 : (op == 57) = false := by simp <;> omega
    try simp only [icells]
    have HI3 := Lib.hid (show I5 w3 w2.heap.size ⟨op, 0, 0, 0, 0⟩ from ⟨⟨c0, c1, c2, c3, c4⟩, f0, f1, f2, f3, f4⟩)
    clear hgz
    go_wp2_with fail
    go_loopg [10, 101] 3 (fun gf s10 s101 wx => (gf = 3 ∧ s101 = .int .i64 0 ∧ (s10 = .slice (some ⟨w2.heap.size + 1, 0, none⟩) 2 2) ∧ Hid (Below w2.heap.size w2 wx ∧ I5 wx w2.heap.size ⟨op, 0, 0, 0, 0⟩ ∧ wx.cell? ⟨w2.heap.size + 1, 0, none⟩ = some (.pointer (some ⟨w2.heap.size, 1, none⟩)) ∧ wx.cell? ⟨w2.heap.size + 1, 1, none⟩ = some (.pointer (some ⟨w2.heap.size, 2, none⟩)))) ∨ (gf = 2 ∧ s101 = .int .i64 1 ∧ (s10 = .slice (some ⟨w2.heap.size + 1, 1, none⟩) 1 1) ∧ Hid (Below w2.heap.size w2 wx ∧ I5 wx w2.heap.size ⟨op, n0, 0, 0, 0⟩ ∧ wx.cell? ⟨w2.heap.size + 1, 0, none⟩ = some (.pointer (some ⟨w2.heap.size, 1, none⟩)) ∧ wx.cell? ⟨w2.heap.size + 1, 1, none⟩ = some (.pointer (some ⟨w2.heap.size, 2, none⟩)))) ∨ (gf = 1 ∧ s101 = .int .i64 2 ∧ (s10 = .slice (some ⟨w2.heap.size + 1, 1, none⟩) 1 1) ∧ Hid (Below w2.heap.size w2 wx ∧ I5 wx w2.heap.size ⟨op, n0, 0, 0, n1⟩ ∧ wx.cell? ⟨w2.heap.size + 1, 0, none⟩ = some (.pointer (some ⟨w2.heap.size, 1, none⟩)) ∧ wx.cell? ⟨w2.heap.size + 1, 1, none⟩ = some (.pointer (some ⟨w2.heap.size, 2, none⟩)))) ∨ (gf = 0 ∧ s101 = .int .i64 3 ∧ (∃ pp, s10 = .slice pp 0 0) ∧ Hid (Below w2.heap.size w2 wx ∧ I5 wx w2.heap.size ⟨op, n0, n2, 0, n1⟩ ∧ wx.cell? ⟨w2.heap.size + 1, 0, none⟩ = some (.pointer (some ⟨w2.heap.size, 1, none⟩)) ∧ wx.cell? ⟨w2.heap.size + 1, 1, none⟩ = some (.pointer (some ⟨w2.heap.size, 2, none⟩)))))
    case atStart =>
      refine Or.inl ⟨rfl, rfl, rfl, Lib.hid ⟨HB3.out.alloc HB3.out.size _, HI3.out.alloc _, by rw [← HS3.out]; go_cell, by rw [← HS3.out]; go_cell⟩⟩
    case round =>
      clear c0 c1 c2 c3 c4 f0 f1 f2 f3 f4
      rcases hrel with ⟨rfl, rfl, rfl, H⟩ | ⟨rfl, rfl, rfl, H⟩ | ⟨rfl, rfl, rfl, H⟩ | ⟨rfl, rfl, ⟨pp, rfl⟩, H⟩
      · obtain ⟨hb, ⟨⟨c0, c1, c2, c3, c4⟩, f0, f1, f2, f3, f4⟩, p0, p1⟩ := H.out
        have qk := (hb.cell (p := ⟨g, 0, none⟩) hgl).trans HQ.out.1
        have HBK := Lib.hid hb
        clear hb H
        go_wp2_with fail
        go_roundg 2
        case measure => omega
        case rel => exact Or.inr (Or.inl ⟨rfl, rfl, rfl, Lib.hid ⟨HBK.out.setCell (Nat.le_refl _) _, ⟨⟨by go_cell, by go_cell, by go_cell, by go_cell, by go_cell⟩, by simpa using f0, by simpa using f1, by simpa using f2, by simpa using f3, by simpa using f4⟩, by go_cell, by go_cell⟩⟩)
      · obtain ⟨hb, ⟨⟨c0, c1, c2, c3, c4⟩, f0, f1, f2, f3, f4⟩, p0, p1⟩ := H.out
        have qk := (hb.cell (p := ⟨g, 1, none⟩) hgl).trans HQ.out.2.1
        have HBK := Lib.hid hb
        clear hb H
        have hwn : wrap32 n1 = n1 := by have := HZ.out n1 (by simp); unfold wrap32; omega
        go_wp2_with fail
        go_roundg 1
        case measure => omega
        case rel => exact Or.inr (Or.inr (Or.inl ⟨rfl, rfl, rfl, Lib.hid ⟨HBK.out.setCell (Nat.le_refl _) _, ⟨⟨by go_cell, by go_cell, by go_cell, by go_cell, by go_cell⟩, by simpa using f0, by simpa using f1, by simpa using f2, by simpa using f3, by simpa using f4⟩, by go_cell, by go_cell⟩⟩))
      · obtain ⟨hb, ⟨⟨c0, c1, c2, c3, c4⟩, f0, f1, f2, f3, f4⟩, p0, p1⟩ := H.out
        have qk := (hb.cell (p := ⟨g, 2, none⟩) hgl).trans HQ.out.2.2
        have HBK := Lib.hid hb
        clear hb H
        go_wp2_with fail
        go_roundg 0
        case measure => omega
        case rel => exact Or.inr (Or.inr (Or.inr (⟨rfl, rfl, ⟨_, rfl⟩, Lib.hid ⟨HBK.out.setCell (Nat.le_refl _) _, ⟨⟨by go_cell, by go_cell, by go_cell, by go_cell, by go_cell⟩, by simpa using f0, by simpa using f1, by simpa using f2, by simpa using f3, by simpa using f4⟩, by go_cell, by go_cell⟩⟩)))
      · obtain ⟨hb, h5, p0, p1⟩ := H.out
        have HR2 := Lib.hid (HI2.out.below hb hs2)
        have HB9 := Lib.hid (HB2.out.trans (hb.mono HB2.out.size))
        obtain ⟨⟨c0, c1, c2, c3, c4⟩, f0, f1, f2, f3, f4⟩ := h5
        obtain ⟨⟨e0, e1, e2, e3, e4⟩, k0, k1, k2, k3, k4⟩ := HR2.out
        clear hb H HQ HI2 HI3
        go_wp2_with fail
        have hbs := below_set5 (b := w.heap.size) HB9.out (Nat.le_refl _) ⟨op, n0, n2, 0, n1⟩
        have hld := I5.load (HR2.out.set5 ⟨op, n0, n2, 0, n1⟩)
        unfold W.set5 at hbs hld
        refine bodyPost_ret (results_c1u (by rfl) _ (by rfl) hld) rfl ⟨rfl, ?_⟩
        exact hbs
  · have hRF : R = (bareS op atom, false) := by rw [HRR.out]; unfold guessS; rw [if_neg (by rw [HMN.out]; exact hlen)]
    rw [HBA.out] at hRF
    subst hRF
    subst hv
    have hne : ¬ ((zs.length : Int) = 3) := by omega
    obtain ⟨⟨e0, e1, e2, e3, e4⟩, k0, k1, k2, k3, k4⟩ := HRES.out
    have HBX := Lib.hid (HB2.out.trans (HB3.out.mono HB2.out.size))
    clear HRR HO HZL HBA HMN HW1 HI2 hlen
    try simp only [icells]
    have t4 : (op == 4) = false := by simp <;> omega
    have t46 : (op == 46) = false := by simp <;> omega
    have t57 : (op == 57) = false := by simp <;> omega
    go_wp2_with fail
    have hbs := below_set5 (b := w.heap.size) HBX.out (Nat.le_refl _) ⟨op, 0, 0, 0, 0⟩
    have hld := I5.load ((HRES.out.set5 ⟨op, 0, 0, 0, 0⟩).alloc (Obj.cells #[.pointer (some ⟨w2.heap.size, 1, none⟩), .pointer (some ⟨w2.heap.size, 2, none⟩)] 60))
    unfold W.set5 at hbs hld
    refine bodyPost_ret (results_c1u (by rfl) _ (by rfl) hld) rfl ⟨rfl, ?_⟩
    exact hbs.alloc hbs.size _
set_option maxRecDepth 100000 in
set_option maxHeartbeats 3200000 in
theorem guess_s (op atom : Int) (l : List UInt8) (zs : List Int) (HZL : Hid (zs.length ≤ 4294967296)) (HZ : Hid (∀ z ∈ zs, -2147483648 ≤ z ∧ z ≤ 2147483647)) (o1 : 16 ≤ op) (o2 : op ≤ 18) (w : World)
    (HN : Hid (∀ W, Below w.heap.size w W → Calls Tryd.prog 29 #[.string (bs l)] W fun e w' => ∃ v, e = .returned v ∧ w'.ownsRow W.heap.size 2 1 v zs.length (zs.map (.int .i64 ·)) ∧ Below W.heap.size W w')) :
    Calls Tryd.prog 20 #[.int .i64 op, .int .i32 atom, .string (bs l)] w fun e w' => e = .returned (.tuple #[.agg (icells (guessS op atom zs).1), .bool (guessS op atom zs).2]) ∧ Below w.heap.size w w' := by
  obtain ⟨R, hR⟩ : ∃ R, R = guessS op atom zs := ⟨_, rfl⟩
  rw [← hR]
  have hb : bareS op atom = ⟨op, 0, 0, 0, 0⟩ := by unfold bareS; rw [if_neg (by omega)]
  have hm : manyS op = 3 := by unfold manyS offsS numS; (repeat (first | rw [if_pos (by omega)] | rw [if_neg (by omega)])); rfl
  have HRR := Lib.hid hR
  have HBA := Lib.hid hb
  have HMN := Lib.hid hm
  clear hR hb hm
  obtain ⟨w1, hw1⟩ : ∃ w1, w1 = w.alloc (.cells #[.int .i64 0, .int .i64 0, .int .i64 0, .int .i64 0, .int .i32 0] 23) := ⟨_, rfl⟩
  have HB1 := Lib.hid (show Below w.heap.size w w1 by rw [hw1]; exact (by repeat (first | with_reducible exact Below.refl _ _ | with_reducible refine below_drewN ?_ _ | ((with_reducible refine Below.setCell ?_ ?hq _); case hq => (first | (simp; done) | (simp; omega))) | ((with_reducible refine Below.alloc ?_ ?hq _); case hq => (first | (simp; done) | (simp; omega))))))
  have HI1 := Lib.hid (show I5 w1 w.heap.size ⟨0, 0, 0, 0, 0⟩ by rw [hw1]; exact ⟨⟨by go_cell, by go_cell, by go_cell, by go_cell, by go_cell⟩, World.frozen?_alloc_new _ _ _ _, World.frozen?_alloc_new _ _ _ _, World.frozen?_alloc_new _ _ _ _, World.frozen?_alloc_new _ _ _ _, World.frozen?_alloc_new _ _ _ _⟩)
  have hs1 : w.heap.size < w1.heap.size := by rw [hw1]; simp
  have HW1 := Lib.hid hw1
  have HN1 := Lib.hid (HN.out w1 HB1.out)
  clear HN hw1
  go_enter Tryd.func20, Tryd.ntmps20
  go_upto_region 1 with (fail)
  rw [← HW1.out]
  go_wp2_with fail
  refine HN1.out.mono ?_
  rintro e w2 ⟨v, rfl, hown, hb2⟩
  have hs2 : w.heap.size < w2.heap.size := Nat.lt_of_lt_of_le hs1 hb2.size
  have HB2 := Lib.hid (HB1.out.trans (hb2.mono HB1.out.size))
  have HO := Lib.hid hown
  have HI2 := Lib.hid (HI1.out.below hb2 hs1)
  clear hown hb2 HN1 HI1 HB1
  obtain ⟨w3, hw3⟩ : ∃ w3, w3 = w2.alloc (.cells #[.int .i64 op, .int .i64 0, .int .i64 0, .int .i64 0, .int .i32 0] 23) := ⟨_, rfl⟩
  have HW3 := Lib.hid hw3
  go_upto_region 3 with (fail)
  rw [← HW3.out]
  have HB3 := Lib.hid (show Below w2.heap.size w2 w3 by rw [hw3]; exact (by repeat (first | with_reducible exact Below.refl _ _ | with_reducible refine below_drewN ?_ _ | ((with_reducible refine Below.setCell ?_ ?hq _); case hq => (first | (simp; done) | (simp; omega))) | ((with_reducible refine Below.alloc ?_ ?hq _); case hq => (first | (simp; done) | (simp; omega))))))
  have hI3 : I5 w3 w2.heap.size ⟨op, 0, 0, 0, 0⟩ := by rw [hw3]; exact ⟨⟨by go_cell, by go_cell, by go_cell, by go_cell, by go_cell⟩, World.frozen?_alloc_new _ _ _ _, World.frozen?_alloc_new _ _ _ _, World.frozen?_alloc_new _ _ _ _, World.frozen?_alloc_new _ _ _ _, World.frozen?_alloc_new _ _ _ _⟩
  have hs3 : w3.heap.size = w2.heap.size + 1 := by rw [hw3]; simp
  have HS3 := Lib.hid hs3
  obtain ⟨⟨c0, c1, c2, c3, c4⟩, f0, f1, f2, f3, f4⟩ := hI3
  clear hw3
  have HRES := Lib.hid (HI2.out.below HB3.out hs2)
  have hzl := HZL.out
  obtain ⟨p, cap, hv⟩ : ∃ p cap, v = .slice p zs.length cap := by
    rcases HO.out.2 with ⟨h, h2⟩ | ⟨g, cap, cur, h, _⟩
    · exact ⟨none, 0, by rw [h, h2]⟩
    · exact ⟨_, cap, h⟩
  by_cases hlen : zs.length = 3
  · obtain ⟨n0, n1, n2, rfl⟩ : ∃ n0 n1 n2, zs = [n0, n1, n2] := by
      match zs, hlen with
      | [n0, n1, n2], _ => exact ⟨n0, n1, n2, rfl⟩
    have hRF : R = (⟨op, 0, n2, n0, n1⟩, true) := by
      rw [HRR.out]
      unfold guessS
      rw [if_pos (by rw [HMN.out]; rfl), HBA.out]
      unfold offsS numS
      (repeat (first | rw [if_pos (by omega)] | rw [if_neg (by omega)]))
      have hup : ¬ op ≤ 2 := by omega
      simp [fillS, setF, immG, hup]
    subst hRF
    rcases HO.out.2 with ⟨_, h2⟩ | ⟨g, cap2, cur, hv2, _, hg2, _⟩
    · simp at h2
    obtain rfl := hv2
    injection hv with hp1 hp2 hp3
    subst hp1 hp3
    have hgl : g < w2.heap.size := (Array.getElem?_eq_some_iff.1 hg2).1
    have q0 : w2.cell? ⟨g, 0, none⟩ = some (.int .i64 n0) := HO.out.cellAt 0 (by simp)
    have q1 : w2.cell? ⟨g, 1, none⟩ = some (.int .i64 n1) := HO.out.cellAt 1 (by simp)
    have q2 : w2.cell? ⟨g, 2, none⟩ = some (.int .i64 n2) := HO.out.cellAt 2 (by simp)
    have HQ := Lib.hid (And.intro q0 (And.intro q1 q2))
    have hgz : g < w2.heap.size + 1 + 1 := by omega
    clear HRR HO HZL HBA HMN HW1 HRES hg2 hlen hzl hp2 q0 q1 q2
    have t4 : (op == 4) = false := by simp <;> omega
    have t46 : (op == 46) = false := by simp <;> omega
    have t57 : (op == 57) = false := by simp <;> omega
    try simp only [icells]
    have HI3 := Lib.hid (show I5 w3 w2.heap.size ⟨op, 0, 0, 0, 0⟩ from ⟨⟨c0, c1, c2, c3, c4⟩, f0, f1, f2, f3, f4⟩)
    clear hgz
    go_wp2_with fail
    go_loopg [10, 101] 3 (fun gf s10 s101 wx => (gf = 3 ∧ s101 = .int .i64 0 ∧ (s10 = .slice (some ⟨w2.heap.size + 1, 0, none⟩) 2 2) ∧ Hid (Below w2.heap.size w2 wx ∧ I5 wx w2.heap.size ⟨op, 0, 0, 0, 0⟩ ∧ wx.cell? ⟨w2.heap.size + 1, 0, none⟩ = some (.pointer (some ⟨w2.heap.size, 3, none⟩)) ∧ wx.cell? ⟨w2.heap.size + 1, 1, none⟩ = some (.pointer (some ⟨w2.heap.size, 2, none⟩)))) ∨ (gf = 2 ∧ s101 = .int .i64 1 ∧ (s10 = .slice (some ⟨w2.heap.size + 1, 1, none⟩) 1 1) ∧ Hid (Below w2.heap.size w2 wx ∧ I5 wx w2.heap.size ⟨op, 0, 0, n0, 0⟩ ∧ wx.cell? ⟨w2.heap.size + 1, 0, none⟩ = some (.pointer (some ⟨w2.heap.size, 3, none⟩)) ∧ wx.cell? ⟨w2.heap.size + 1, 1, none⟩ = some (.pointer (some ⟨w2.heap.size, 2, none⟩)))) ∨ (gf = 1 ∧ s101 = .int .i64 2 ∧ (s10 = .slice (some ⟨w2.heap.size + 1, 1, none⟩) 1 1) ∧ Hid (Below w2.heap.size w2 wx ∧ I5 wx w2.heap.size ⟨op, 0, 0, n0, n1⟩ ∧ wx.cell? ⟨w2.heap.size + 1, 0, none⟩ = some (.pointer (some ⟨w2.heap.size, 3, none⟩)) ∧ wx.cell? ⟨w2.heap.size + 1, 1, none⟩ = some (.pointer (some ⟨w2.heap.size, 2, none⟩)))) ∨ (gf = 0 ∧ s101 = .int .i64 3 ∧ (∃ pp, s10 = .slice pp 0 0) ∧ Hid (Below w2.heap.size w2 wx ∧ I5 wx w2.heap.size ⟨op, 0, n2, n0, n1⟩ ∧ wx.cell? ⟨w2.heap.size + 1, 0, none⟩ = some (.pointer (some ⟨w2.heap.size, 3, none⟩)) ∧ wx.cell? ⟨w2.heap.size + 1, 1, none⟩ = some (.pointer (some ⟨w2.heap.size, 2, none⟩)))))
    case atStart =>
      refine Or.inl ⟨rfl, rfl, rfl, Lib.hid ⟨HB3.out.alloc HB3.out.size _, HI3.out.alloc _, by rw [← HS3.out]; go_cell, by rw [← HS3.out]; go_cell⟩⟩
    case round =>
      clear c0 c1 c2 c3 c4 f0 f1 f2 f3 f4
      rcases hrel with ⟨rfl, rfl, rfl, H⟩ | ⟨rfl, rfl, rfl, H⟩ | ⟨rfl, rfl, rfl, H⟩ | ⟨rfl, rfl, ⟨pp, rfl⟩, H⟩
      · obtain ⟨hb, ⟨⟨c0, c1, c2, c3, c4⟩, f0, f1, f2, f3, f4⟩, p0, p1⟩ := H.out
        have qk := (hb.cell (p := ⟨g, 0, none⟩) hgl).trans HQ.out.1
        have HBK := Lib.hid hb
        clear hb H
        go_wp2_with fail
        go_roundg 2
        case measure => omega
        case rel => exact Or.inr (Or.inl ⟨rfl, rfl, rfl, Lib.hid ⟨HBK.out.setCell (Nat.le_refl _) _, ⟨⟨by go_cell, by go_cell, by go_cell, by go_cell, by go_cell⟩, by simpa using f0, by simpa using f1, by simpa using f2, by simpa using f3, by simpa using f4⟩, by go_cell, by go_cell⟩⟩)
      · obtain ⟨hb, ⟨⟨c0, c1, c2, c3, c4⟩, f0, f1, f2, f3, f4⟩, p0, p1⟩ := H.out
        have qk := (hb.cell (p := ⟨g, 1, none⟩) hgl).trans HQ.out.2.1
        have HBK := Lib.hid hb
        clear hb H
        have hwn : wrap32 n1 = n1 := by have := HZ.out n1 (by simp); unfold wrap32; omega
        go_wp2_with fail
        go_roundg 1
        case measure => omega
        case rel => exact Or.inr (Or.inr (Or.inl ⟨rfl, rfl, rfl, Lib.hid ⟨HBK.out.setCell (Nat.le_refl _) _, ⟨⟨by go_cell, by go_cell, by go_cell, by go_cell, by go_cell⟩, by simpa using f0, by simpa using f1, by simpa using f2, by simpa using f3, by simpa using f4⟩, by go_cell, by go_cell⟩⟩))
      · obtain ⟨hb, ⟨⟨c0, c1, c2, c3, c4⟩, f0, f1, f2, f3, f4⟩, p0, p1⟩ := H.out
        have qk := (hb.cell (p := ⟨g, 2, none⟩) hgl).trans HQ.out.2.2
        have HBK := Lib.hid hb
        clear hb H
        go_wp2_with fail
        go_roundg 0
        case measure => omega
        case rel => exact Or.inr (Or.inr (Or.inr (⟨rfl, rfl, ⟨_, rfl⟩, Lib.hid ⟨HBK.out.setCell (Nat.le_refl _) _, ⟨⟨by go_cell, by go_cell, by go_cell, by go_cell, by go_cell⟩, by simpa using f0, by simpa using f1, by simpa using f2, by simpa using f3, by simpa using f4⟩, by go_cell, by go_cell⟩⟩)))
      · obtain ⟨hb, h5, p0, p1⟩ := H.out
        have HR2 := Lib.hid (HI2.out.below hb hs2)
        have HB9 := Lib.hid (HB2.out.trans (hb.mono HB2.out.size))
        obtain ⟨⟨c0, c1, c2, c3, c4⟩, f0, f1, f2, f3, f4⟩ := h5
        obtain ⟨⟨e0, e1, e2, e3, e4⟩, k0, k1, k2, k3, k4⟩ := HR2.out
        clear hb H HQ HI2 HI3
        go_wp2_with fail
        have hbs := below_set5 (b := w.heap.size) HB9.out (Nat.le_refl _) ⟨op, 0, n2, n0, n1⟩
        have hld := I5.load (HR2.out.set5 ⟨op, 0, n2, n0, n1⟩)
        unfold W.set5 at hbs hld
        refine bodyPost_ret (results_c1u (by rfl) _ (by rfl) hld) rfl ⟨rfl, ?_⟩
        exact hbs
  · have hRF : R = (bareS op atom, false) := by rw [HRR.out]; unfold guessS; rw [if_neg (by rw [HMN.out]; exact hlen)]
    rw [HBA.out] at hRF
    subst hRF
    subst hv
    have hne : ¬ ((zs.length : Int) = 3) := by omega
    obtain ⟨⟨e0, e1, e2, e3, e4⟩, k0, k1, k2, k3, k4⟩ := HRES.out
    have HBX := Lib.hid (HB2.out.trans (HB3.out.mono HB2.out.size))
    clear HRR HO HZL HBA HMN HW1 HI2 hlen
    try simp only [icells]
    have t4 : (op == 4) = false := by simp <;> omega
    have t46 : (op == 46) = false := by simp <;> omega
    have t57 : (op == 57) = false := by simp <;> omega
    go_wp2_with fail
    have hbs := below_set5 (b := w.heap.size) HBX.out (Nat.le_refl _) ⟨op, 0, 0, 0, 0⟩
    have hld := I5.load ((HRES.out.set5 ⟨op, 0, 0, 0, 0⟩).alloc (Obj.cells #[.pointer (some ⟨w2.heap.size, 3, none⟩), .pointer (some ⟨w2.heap.size, 2, none⟩)] 60))
    unfold W.set5 at hbs hld
    refine bodyPost_ret (results_c1u (by rfl) _ (by rfl) hld) rfl ⟨rfl, ?_⟩
    exact hbs.alloc hbs.size _
set_option maxRecDepth 100000 in
set_option maxHeartbeats 3200000 in
theorem guess_i2 (op atom : Int) (l : List UInt8) (zs : List Int) (HZL : Hid (zs.length ≤ 4294967296)) (HZ : Hid (∀ z ∈ zs, -2147483648 ≤ z ∧ z ≤ 2147483647)) (o1 : 19 ≤ op) (o2 : op ≤ 27) (w : World)
    (HN : Hid (∀ W, Below w.heap.size w W → Calls Tryd.prog 29 #[.string (bs l)] W fun e w' => ∃ v, e = .returned v ∧ w'.ownsRow W.heap.size 2 1 v zs.length (zs.map (.int .i64 ·)) ∧ Below W.heap.size W w')) :
    Calls Tryd.prog 20 #[.int .i64 op, .int .i32 atom, .string (bs l)] w fun e w' => e = .returned (.tuple #[.agg (icells (guessS op atom zs).1), .bool (guessS op atom zs).2]) ∧ Below w.heap.size w w' := by
  obtain ⟨R, hR⟩ : ∃ R, R = guessS op atom zs := ⟨_, rfl⟩
  rw [← hR]
  have hb : bareS op atom = ⟨op, 0, 0, 0, 0⟩ := by unfold bareS; rw [if_neg (by omega)]
  have hm : manyS op = 3 := by unfold manyS offsS numS; (repeat (first | rw [if_pos (by omega)] | rw [if_neg (by omega)])); rfl
  have HRR := Lib.hid hR
  have HBA := Lib.hid hb
  have HMN := Lib.hid hm
  clear hR hb hm
  obtain ⟨w1, hw1⟩ : ∃ w1, w1 = w.alloc (.cells #[.int .i64 0, .int .i64 0, .int .i64 0, .int .i64 0, .int .i32 0] 23) := ⟨_, rfl⟩
  have HB1 := Lib.hid (show Below w.heap.size w w1 by rw [hw1]; exact (by repeat (first | with_reducible exact Below.refl _ _ | with_reducible refine below_drewN ?_ _ | ((with_reducible refine Below.setCell ?_ ?hq _); case hq => (first | (simp; done) | (simp; omega))) | ((with_reducible refine Below.alloc ?_ ?hq _); case hq => (first | (simp; done) | (simp; omega))))))
  have HI1 := Lib.hid (show I5 w1 w.heap.size ⟨0, 0, 0, 0, 0⟩ by rw [hw1]; exact ⟨⟨by go_cell, by go_cell, by go_cell, by go_cell, by go_cell⟩, World.frozen?_alloc_new _ _ _ _, World.frozen?_alloc_new _ _ _ _, World.frozen?_alloc_new _ _ _ _, World.frozen?_alloc_new _ _ _ _, World.frozen?_alloc_new _ _ _ _⟩)
  have hs1 : w.heap.size < w1.heap.size := by rw [hw1]; simp
  have HW1 := Lib.hid hw1
  have HN1 := Lib.hid (HN.out w1 HB1.out)
  clear HN hw1
  go_enter Tryd.func20, Tryd.ntmps20
  go_upto_region 1 with (fail)
  rw [← HW1.out]
  go_wp2_with fail
  refine HN1.out.mono ?_
  rintro e w2 ⟨v, rfl, hown, hb2⟩
  have hs2 : w.heap.size < w2.heap.size := Nat.lt_of_lt_of_le hs1 hb2.size
  have HB2 := Lib.hid (HB1.out.trans (hb2.mono HB1.out.size))
  have HO := Lib.hid hown
  have HI2 := Lib.hid (HI1.out.below hb2 hs1)
  clear hown hb2 HN1 HI1 HB1
  obtain ⟨w3, hw3⟩ : ∃ w3, w3 = w2.alloc (.cells #[.int .i64 op, .int .i64 0, .int .i64 0, .int .i64 0, .int .i32 0] 23) := ⟨_, rfl⟩
  have HW3 := Lib.hid hw3
  go_upto_region 3 with (fail)
  rw [← HW3.out]
  have HB3 := Lib.hid (show Below w2.heap.size w2 w3 by rw [hw3]; exact (by repeat (first | with_reducible exact Below.refl _ _ | with_reducible refine below_drewN ?_ _ | ((with_reducible refine Below.setCell ?_ ?hq _); case hq => (first | (simp; done) | (simp; omega))) | ((with_reducible refine Below.alloc ?_ ?hq _); case hq => (first | (simp; done) | (simp; omega))))))
  have hI3 : I5 w3 w2.heap.size ⟨op, 0, 0, 0, 0⟩ := by rw [hw3]; exact ⟨⟨by go_cell, by go_cell, by go_cell, by go_cell, by go_cell⟩, World.frozen?_alloc_new _ _ _ _, World.frozen?_alloc_new _ _ _ _, World.frozen?_alloc_new _ _ _ _, World.frozen?_alloc_new _ _ _ _, World.frozen?_alloc_new _ _ _ _⟩
  have hs3 : w3.heap.size = w2.heap.size + 1 := by rw [hw3]; simp
  have HS3 := Lib.hid hs3
  obtain ⟨⟨c0, c1, c2, c3, c4⟩, f0, f1, f2, f3, f4⟩ := hI3
  clear hw3
  have HRES := Lib.hid (HI2.out.below HB3.out hs2)
  have hzl := HZL.out
  obtain ⟨p, cap, hv⟩ : ∃ p cap, v = .slice p zs.length cap := by
    rcases HO.out.2 with ⟨h, h2⟩ | ⟨g, cap, cur, h, _⟩
    · exact ⟨none, 0, by rw [h, h2]⟩
    · exact ⟨_, cap, h⟩
  by_cases hlen : zs.length = 3
  · obtain ⟨n0, n1, n2, rfl⟩ : ∃ n0 n1 n2, zs = [n0, n1, n2] := by
      match zs, hlen with
      | [n0, n1, n2], _ => exact ⟨n0, n1, n2, rfl⟩
    have hRF : R = (⟨op, n0, n1, 0, n2⟩, true) := by
      rw [HRR.out]
      unfold guessS
      rw [if_pos (by rw [HMN.out]; rfl), HBA.out]
      unfold offsS numS
      (repeat (first | rw [if_pos (by omega)] | rw [if_neg (by omega)]))
      have hup : ¬ op ≤ 2 := by omega
      simp [fillS, setF, immG, hup]
    subst hRF
    rcases HO.out.2 with ⟨_, h2⟩ | ⟨g, cap2, cur, hv2, _, hg2, _⟩
    · simp at h2
    obtain rfl := hv2
    injection hv with hp1 hp2 hp3
    subst hp1 hp3
    have hgl : g < w2.heap.size := (Array.getElem?_eq_some_iff.1 hg2).1
    have q0 : w2.cell? ⟨g, 0, none⟩ = some (.int .i64 n0) := HO.out.cellAt 0 (by simp)
    have q1 : w2.cell? ⟨g, 1, none⟩ = some (.int .i64 n1) := HO.out.cellAt 1 (by simp)
    have q2 : w2.cell? ⟨g, 2, none⟩ = some (.int .i64 n2) := HO.out.cellAt 2 (by simp)
    have HQ := Lib.hid (And.intro q0 (And.intro q1 q2))
    have hgz : g < w2.heap.size + 1 + 1 := by omega
    clear HRR HO HZL HBA HMN HW1 HRES hg2 hlen hzl hp2 q0 q1 q2
    have t4 : (op == 4) = false := by simp <;> omega
    have t46 : (op == 46) = false := by simp <;> omega
    have t57 : (op == 57) = false := by simp <;> omega
    try simp only [icells]
    have HI3 := Lib.hid (show I5 w3 w2.heap.size ⟨op, 0, 0, 0, 0⟩ from ⟨⟨c0, c1, c2, c3, c4⟩, f0, f1, f2, f3, f4⟩)
    clear hgz
    go_wp2_with fail
    go_loopg [10, 101] 3 (fun gf s10 s101 wx => (gf = 3 ∧ s101 = .int .i64 0 ∧ (s10 = .slice (some ⟨w2.heap.size + 1, 0, none⟩) 2 2) ∧ Hid (Below w2.heap.size w2 wx ∧ I5 wx w2.heap.size ⟨op, 0, 0, 0, 0⟩ ∧ wx.cell? ⟨w2.heap.size + 1, 0, none⟩ = some (.pointer (some ⟨w2.heap.size, 1, none⟩)) ∧ wx.cell? ⟨w2.heap.size + 1, 1, none⟩ = some (.pointer (some ⟨w2.heap.size, 2, none⟩)))) ∨ (gf = 2 ∧ s101 = .int .i64 1 ∧ (s10 = .slice (some ⟨w2.heap.size + 1, 1, none⟩) 1 1) ∧ Hid (Below w2.heap.size w2 wx ∧ I5 wx w2.heap.size ⟨op, n0, 0, 0, 0⟩ ∧ wx.cell? ⟨w2.heap.size + 1, 0, none⟩ = some (.pointer (some ⟨w2.heap.size, 1, none⟩)) ∧ wx.cell? ⟨w2.heap.size + 1, 1, none⟩ = some (.pointer (some ⟨w2.heap.size, 2, none⟩)))) ∨ (gf = 1 ∧ s101 = .int .i64 2 ∧ (∃ pp, s10 = .slice pp 0 0) ∧ Hid (Below w2.heap.size w2 wx ∧ I5 wx w2.heap.size ⟨op, n0, n1, 0, 0⟩ ∧ wx.cell? ⟨w2.heap.size + 1, 0, none⟩ = some (.pointer (some ⟨w2.heap.size, 1, none⟩)) ∧ wx.cell? ⟨w2.heap.size + 1, 1, none⟩ = some (.pointer (some ⟨w2.heap.size, 2, none⟩)))) ∨ (gf = 0 ∧ s101 = .int .i64 3 ∧ (∃ pp, s10 = .slice pp 0 0) ∧ Hid (Below w2.heap.size w2 wx ∧ I5 wx w2.heap.size ⟨op, n0, n1, 0, n2⟩ ∧ wx.cell? ⟨w2.heap.size + 1, 0, none⟩ = some (.pointer (some ⟨w2.heap.size, 1, none⟩)) ∧ wx.cell? ⟨w2.heap.size + 1, 1, none⟩ = some (.pointer (some ⟨w2.heap.size, 2, none⟩)))))
    case atStart =>
      refine Or.inl ⟨rfl, rfl, rfl, Lib.hid ⟨HB3.out.alloc HB3.out.size _, HI3.out.alloc _, by rw [← HS3.out]; go_cell, by rw [← HS3.out]; go_cell⟩⟩
    case round =>
      clear c0 c1 c2 c3 c4 f0 f1 f2 f3 f4
      rcases hrel with ⟨rfl, rfl, rfl, H⟩ | ⟨rfl, rfl, rfl, H⟩ | ⟨rfl, rfl, ⟨pp, rfl⟩, H⟩ | ⟨rfl, rfl, ⟨pp, rfl⟩, H⟩
      · obtain ⟨hb, ⟨⟨c0, c1, c2, c3, c4⟩, f0, f1, f2, f3, f4⟩, p0, p1⟩ := H.out
        have qk := (hb.cell (p := ⟨g, 0, none⟩) hgl).trans HQ.out.1
        have HBK := Lib.hid hb
        clear hb H
        go_wp2_with fail
        go_roundg 2
        case measure => omega
        case rel => exact Or.inr (Or.inl ⟨rfl, rfl, rfl, Lib.hid ⟨HBK.out.setCell (Nat.le_refl _) _, ⟨⟨by go_cell, by go_cell, by go_cell, by go_cell, by go_cell⟩, by simpa using f0, by simpa using f1, by simpa using f2, by simpa using f3, by simpa using f4⟩, by go_cell, by go_cell⟩⟩)
      · obtain ⟨hb, ⟨⟨c0, c1, c2, c3, c4⟩, f0, f1, f2, f3, f4⟩, p0, p1⟩ := H.out
        have qk := (hb.cell (p := ⟨g, 1, none⟩) hgl).trans HQ.out.2.1
        have HBK := Lib.hid hb
        clear hb H
        go_wp2_with fail
        go_roundg 1
        case measure => omega
        case rel => exact Or.inr (Or.inr (Or.inl ⟨rfl, rfl, ⟨_, rfl⟩, Lib.hid ⟨HBK.out.setCell (Nat.le_refl _) _, ⟨⟨by go_cell, by go_cell, by go_cell, by go_cell, by go_cell⟩, by simpa using f0, by simpa using f1, by simpa using f2, by simpa using f3, by simpa using f4⟩, by go_cell, by go_cell⟩⟩))
      · obtain ⟨hb, ⟨⟨c0, c1, c2, c3, c4⟩, f0, f1, f2, f3, f4⟩, p0, p1⟩ := H.out
        have qk := (hb.cell (p := ⟨g, 2, none⟩) hgl).trans HQ.out.2.2
        have HBK := Lib.hid hb
        clear hb H
        have hwn : wrap32 n2 = n2 := by have := HZ.out n2 (by simp); unfold wrap32; omega
        go_wp2_with fail
        go_roundg 0
        case measure => omega
        case rel => exact Or.inr (Or.inr (Or.inr (⟨rfl, rfl, ⟨_, rfl⟩, Lib.hid ⟨HBK.out.setCell (Nat.le_refl _) _, ⟨⟨by go_cell, by go_cell, by go_cell, by go_cell, by go_cell⟩, by simpa using f0, by simpa using f1, by simpa using f2, by simpa using f3, by simpa using f4⟩, by go_cell, by go_cell⟩⟩)))
      · obtain ⟨hb, h5, p0, p1⟩ := H.out
        have HR2 := Lib.hid (HI2.out.below hb hs2)
        have HB9 := Lib.hid (HB2.out.trans (hb.mono HB2.out.size))
        obtain ⟨⟨c0, c1, c2, c3, c4⟩, f0, f1, f2, f3, f4⟩ := h5
        obtain ⟨⟨e0, e1, e2, e3, e4⟩, k0, k1, k2, k3, k4⟩ := HR2.out
        clear hb H HQ HI2 HI3
        go_wp2_with fail
        have hbs := below_set5 (b := w.heap.size) HB9.out (Nat.le_refl _) ⟨op, n0, n1, 0, n2⟩
        have hld := I5.load (HR2.out.set5 ⟨op, n0, n1, 0, n2⟩)
        unfold W.set5 at hbs hld
        refine bodyPost_ret (results_c1u (by rfl) _ (by rfl) hld) rfl ⟨rfl, ?_⟩
        exact hbs
  · have hRF : R = (bareS op atom, false) := by rw [HRR.out]; unfold guessS; rw [if_neg (by rw [HMN.out]; exact hlen)]
    rw [HBA.out] at hRF
    subst hRF
    subst hv
    have hne : ¬ ((zs.length : Int) = 3) := by omega
    obtain ⟨⟨e0, e1, e2, e3, e4⟩, k0, k1, k2, k3, k4⟩ := HRES.out
    have HBX := Lib.hid (HB2.out.trans (HB3.out.mono HB2.out.size))
    clear HRR HO HZL HBA HMN HW1 HI2 hlen
    try simp only [icells]
    have t4 : (op == 4) = false := by simp <;> omega
    have t46 : (op == 46) = false := by simp <;> omega
    have t57 : (op == 57) = false := by simp <;> omega
    go_wp2_with fail
    have hbs := below_set5 (b := w.heap.size) HBX.out (Nat.le_refl _) ⟨op, 0, 0, 0, 0⟩
    have hld := I5.load ((HRES.out.set5 ⟨op, 0, 0, 0, 0⟩).alloc (Obj.cells #[.pointer (some ⟨w2.heap.size, 1, none⟩), .pointer (some ⟨w2.heap.size, 2, none⟩)] 60))
    unfold W.set5 at hbs hld
    refine bodyPost_ret (results_c1u (by rfl) _ (by rfl) hld) rfl ⟨rfl, ?_⟩
    exact hbs.alloc hbs.size _
set_option maxRecDepth 100000 in
set_option maxHeartbeats 3200000 in
theorem guess_r (op atom : Int) (l : List UInt8) (zs : List Int) (HZL : Hid (zs.length ≤ 4294967296)) (HZ : Hid (∀ z ∈ zs, -2147483648 ≤ z ∧ z ≤ 2147483647)) (o1 : 28 ≤ op) (o2 : op ≤ 45) (w : World)
    (HN : Hid (∀ W, Below w.heap.size w W → Calls Tryd.prog 29 #[.string (bs l)] W fun e w' => ∃ v, e = .returned v ∧ w'.ownsRow W.heap.size 2 1 v zs.length (zs.map (.int .i64 ·)) ∧ Below W.heap.size W w')) :
    Calls Tryd.prog 20 #[.int .i64 op, .int .i32 atom, .string (bs l)] w fun e w' => e = .returned (.tuple #[.agg (icells (guessS op atom zs).1), .bool (guessS op atom zs).2]) ∧ Below w.heap.size w w' := by
  obtain ⟨R, hR⟩ : ∃ R, R = guessS op atom zs := ⟨_, rfl⟩
  rw [← hR]
  have hb : bareS op atom = ⟨op, 0, 0, 0, 0⟩ := by unfold bareS; rw [if_neg (by omega)]
  have hm : manyS op = 3 := by unfold manyS offsS numS; (repeat (first | rw [if_pos (by omega)] | rw [if_neg (by omega)])); rfl
  have HRR := Lib.hid hR
  have HBA := Lib.hid hb
  have HMN := Lib.hid hm
  clear hR hb hm
  obtain ⟨w1, hw1⟩ : ∃ w1, w1 = w.alloc (.cells #[.int .i64 0, .int .i64 0, .int .i64 0, .int .i64 0, .int .i32 0] 23) := ⟨_, rfl⟩
  have HB1 := Lib.hid (show Below w.heap.size w w1 by rw [hw1]; exact (by repeat (first | with_reducible exact Below.refl _ _ | with_reducible refine below_drewN ?_ _ | ((with_reducible refine Below.setCell ?_ ?hq _); case hq => (first | (simp; done) | (simp; omega))) | ((with_reducible refine Below.alloc ?_ ?hq _); case hq => (first | (simp; done) | (simp; omega))))))
  have HI1 := Lib.hid (show I5 w1 w.heap.size ⟨0, 0, 0, 0, 0⟩ by rw [hw1]; exact ⟨⟨by go_cell, by go_cell, by go_cell, by go_cell, by go_cell⟩, World.frozen?_alloc_new _ _ _ _, World.frozen?_alloc_new _ _ _ _, World.frozen?_alloc_new _ _ _ _, World.frozen?_alloc_new _ _ _ _, World.frozen?_alloc_new _ _ _ _⟩)
  have hs1 : w.heap.size < w1.heap.size := by rw [hw1]; simp
  have HW1 := Lib.hid hw1
  have HN1 := Lib.hid (HN.out w1 HB1.out)
  clear HN hw1
  go_enter Tryd.func20, Tryd.ntmps20
  go_upto_region 1 with (fail)
  rw [← HW1.out]
  go_wp2_with fail
  refine HN1.out.mono ?_
  rintro e w2 ⟨v, rfl, hown, hb2⟩
  have hs2 : w.heap.size < w2.heap.size := Nat.lt_of_lt_of_le hs1 hb2.size
  have HB2 := Lib.hid (HB1.out.trans (hb2.mono HB1.out.size))
  have HO := Lib.hid hown
  have HI2 := Lib.hid (HI1.out.below hb2 hs1)
  clear hown hb2 HN1 HI1 HB1
  obtain ⟨w3, hw3⟩ : ∃ w3, w3 = w2.alloc (.cells #[.int .i64 op, .int .i64 0, .int .i64 0, .int .i64 0, .int .i32 0] 23) := ⟨_, rfl⟩
  have HW3 := Lib.hid hw3
  go_upto_region 3 with (fail)
  rw [← HW3.out]
  have HB3 := Lib.hid (show Below w2.heap.size w2 w3 by rw [hw3]; exact (by repeat (first | with_reducible exact Below.refl _ _ | with_reducible refine below_drewN ?_ _ | ((with_reducible refine Below.setCell ?_ ?hq _); case hq => (first | (simp; done) | (simp; omega))) | ((with_reducible refine Below.alloc ?_ ?hq _); case hq => (first | (simp; done) | (simp; omega))))))
  have hI3 : I5 w3 w2.heap.size ⟨op, 0, 0, 0, 0⟩ := by rw [hw3]; exact ⟨⟨by go_cell, by go_cell, by go_cell, by go_cell, by go_cell⟩, World.frozen?_alloc_new _ _ _ _, World.frozen?_alloc_new _ _ _ _, World.frozen?_alloc_new _ _ _ _, World.frozen?_alloc_new _ _ _ _, World.frozen?_alloc_new _ _ _ _⟩
  have hs3 : w3.heap.size = w2.heap.size + 1 := by rw [hw3]; simp
  have HS3 := Lib.hid hs3
  obtain ⟨⟨c0, c1, c2, c3, c4⟩, f0, f1, f2, f3, f4⟩ := hI3
  clear hw3
  have HRES := Lib.hid (HI2.out.below HB3.out hs2)
  have hzl := HZL.out
  obtain ⟨p, cap, hv⟩ : ∃ p cap, v = .slice p zs.length cap := by
    rcases HO.out.2 with ⟨h, h2⟩ | ⟨g, cap, cur, h, _⟩
    · exact ⟨none, 0, by rw [h, h2]⟩
    · exact ⟨_, cap, h⟩
  by_cases hlen : zs.length = 3
  · obtain ⟨n0, n1, n2, rfl⟩ : ∃ n0 n1 n2, zs = [n0, n1, n2] := by
      match zs, hlen with
      | [n0, n1, n2], _ => exact ⟨n0, n1, n2, rfl⟩
    have hRF : R = (⟨op, n0, n1, n2, 0⟩, true) := by
      rw [HRR.out]
      unfold guessS
      rw [if_pos (by rw [HMN.out]; rfl), HBA.out]
      unfold offsS numS
      (repeat (first | rw [if_pos (by omega)] | rw [if_neg (by omega)]))
      have hup : ¬ op ≤ 2 := by omega
      simp [fillS, setF, immG, hup]
    subst hRF
    rcases HO.out.2 with ⟨_, h2⟩ | ⟨g, cap2, cur, hv2, _, hg2, _⟩
    · simp at h2
    obtain rfl := hv2
    injection hv with hp1 hp2 hp3
    subst hp1 hp3
    have hgl : g < w2.heap.size := (Array.getElem?_eq_some_iff.1 hg2).1
    have q0 : w2.cell? ⟨g, 0, none⟩ = some (.int .i64 n0) := HO.out.cellAt 0 (by simp)
    have q1 : w2.cell? ⟨g, 1, none⟩ = some (.int .i64 n1) := HO.out.cellAt 1 (by simp)
    have q2 : w2.cell? ⟨g, 2, none⟩ = some (.int .i64 n2) := HO.out.cellAt 2 (by simp)
    have HQ := Lib.hid (And.intro q0 (And.intro q1 q2))
    have hgz : g < w2.heap.size + 1 + 1 := by omega
    clear HRR HO HZL HBA HMN HW1 HRES hg2 hlen hzl hp2 q0 q1 q2
    have t4 : (op == 4) = false := by simp <;> omega
    have t46 : (op == 46) = false := by simp <;> omega
    have t57 : (op == 57) = false := by simp <;> omega
    try simp only [icells]
    have HI3 := Lib.hid (show I5 w3 w2.heap.size ⟨op, 0, 0, 0, 0⟩ from ⟨⟨c0, c1, c2, c3, c4⟩, f0, f1, f2, f3, f4⟩)
    clear hgz
    go_wp2_with fail
    go_loopg [10, 101] 3 (fun gf s10 s101 wx => (gf = 3 ∧ s101 = .int .i64 0 ∧ (s10 = .slice (some ⟨w2.heap.size + 1, 0, none⟩) 3 3) ∧ Hid (Below w2.heap.size w2 wx ∧ I5 wx w2.heap.size ⟨op, 0, 0, 0, 0⟩ ∧ wx.cell? ⟨w2.heap.size + 1, 0, none⟩ = some (.pointer (some ⟨w2.heap.size, 1, none⟩)) ∧ wx.cell? ⟨w2.heap.size + 1, 1, none⟩ = some (.pointer (some ⟨w2.heap.size, 2, none⟩)) ∧ wx.cell? ⟨w2.heap.size + 1, 2, none⟩ = some (.pointer (some ⟨w2.heap.size, 3, none⟩)))) ∨ (gf = 2 ∧ s101 = .int .i64 1 ∧ (s10 = .slice (some ⟨w2.heap.size + 1, 1, none⟩) 2 2) ∧ Hid (Below w2.heap.size w2 wx ∧ I5 wx w2.heap.size ⟨op, n0, 0, 0, 0⟩ ∧ wx.cell? ⟨w2.heap.size + 1, 0, none⟩ = some (.pointer (some ⟨w2.heap.size, 1, none⟩)) ∧ wx.cell? ⟨w2.heap.size + 1, 1, none⟩ = some (.pointer (some ⟨w2.heap.size, 2, none⟩)) ∧ wx.cell? ⟨w2.heap.size + 1, 2, none⟩ = some (.pointer (some ⟨w2.heap.size, 3, none⟩)))) ∨ (gf = 1 ∧ s101 = .int .i64 2 ∧ (s10 = .slice (some ⟨w2.heap.size + 1, 2, none⟩) 1 1) ∧ Hid (Below w2.heap.size w2 wx ∧ I5 wx w2.heap.size ⟨op, n0, n1, 0, 0⟩ ∧ wx.cell? ⟨w2.heap.size + 1, 0, none⟩ = some (.pointer (some ⟨w2.heap.size, 1, none⟩)) ∧ wx.cell? ⟨w2.heap.size + 1, 1, none⟩ = some (.pointer (some ⟨w2.heap.size, 2, none⟩)) ∧ wx.cell? ⟨w2.heap.size + 1, 2, none⟩ = some (.pointer (some ⟨w2.heap.size, 3, none⟩)))) ∨ (gf = 0 ∧ s101 = .int .i64 3 ∧ (∃ pp, s10 = .slice pp 0 0) ∧ Hid (Below w2.heap.size w2 wx ∧ I5 wx w2.heap.size ⟨op, n0, n1, n2, 0⟩ ∧ wx.cell? ⟨w2.heap.size + 1, 0, none⟩ = some (.pointer (some ⟨w2.heap.size, 1, none⟩)) ∧ wx.cell? ⟨w2.heap.size + 1, 1, none⟩ = some (.pointer (some ⟨w2.heap.size, 2, none⟩)) ∧ wx.cell? ⟨w2.heap.size + 1, 2, none⟩ = some (.pointer (some ⟨w2.heap.size, 3, none⟩)))))
    case atStart =>
      refine Or.inl ⟨rfl, rfl, rfl, Lib.hid ⟨HB3.out.alloc HB3.out.size _, HI3.out.alloc _, by rw [← HS3.out]; go_cell, by rw [← HS3.out]; go_cell, by rw [← HS3.out]; go_cell⟩⟩
    case round =>
      clear c0 c1 c2 c3 c4 f0 f1 f2 f3 f4
      rcases hrel with ⟨rfl, rfl, rfl, H⟩ | ⟨rfl, rfl, rfl, H⟩ | ⟨rfl, rfl, rfl, H⟩ | ⟨rfl, rfl, ⟨pp, rfl⟩, H⟩
      · obtain ⟨hb, ⟨⟨c0, c1, c2, c3, c4⟩, f0, f1, f2, f3, f4⟩, p0, p1, p2⟩ := H.out
        have qk := (hb.cell (p := ⟨g, 0, none⟩) hgl).trans HQ.out.1
        have HBK := Lib.hid hb
        clear hb H
        go_wp2_with fail
        go_roundg 2
        case measure => omega
        case rel => exact Or.inr (Or.inl ⟨rfl, rfl, rfl, Lib.hid ⟨HBK.out.setCell (Nat.le_refl _) _, ⟨⟨by go_cell, by go_cell, by go_cell, by go_cell, by go_cell⟩, by simpa using f0, by simpa using f1, by simpa using f2, by simpa using f3, by simpa using f4⟩, by go_cell, by go_cell, by go_cell⟩⟩)
      · obtain ⟨hb, ⟨⟨c0, c1, c2, c3, c4⟩, f0, f1, f2, f3, f4⟩, p0, p1, p2⟩ := H.out
        have qk := (hb.cell (p := ⟨g, 1, none⟩) hgl).trans HQ.out.2.1
        have HBK := Lib.hid hb
        clear hb H
        go_wp2_with fail
        go_roundg 1
        case measure => omega
        case rel => exact Or.inr (Or.inr (Or.inl ⟨rfl, rfl, rfl, Lib.hid ⟨HBK.out.setCell (Nat.le_refl _) _, ⟨⟨by go_cell, by go_cell, by go_cell, by go_cell, by go_cell⟩, by simpa using f0, by simpa using f1, by simpa using f2, by simpa using f3, by simpa using f4⟩, by go_cell, by go_cell, by go_cell⟩⟩))
      · obtain ⟨hb, ⟨⟨c0, c1, c2, c3, c4⟩, f0, f1, f2, f3, f4⟩, p0, p1, p2⟩ := H.out
        have qk := (hb.cell (p := ⟨g, 2, none⟩) hgl).trans HQ.out.2.2
        have HBK := Lib.hid hb
        clear hb H
        go_wp2_with fail
        go_roundg 0
        case measure => omega
        case rel => exact Or.inr (Or.inr (Or.inr (⟨rfl, rfl, ⟨_, rfl⟩, Lib.hid ⟨HBK.out.setCell (Nat.le_refl _) _, ⟨⟨by go_cell, by go_cell, by go_cell, by go_cell, by go_cell⟩, by simpa using f0, by simpa using f1, by simpa using f2, by simpa using f3, by simpa using f4⟩, by go_cell, by go_cell, by go_cell⟩⟩)))
      · obtain ⟨hb, h5, p0, p1, p2⟩ := H.out
        have HR2 := Lib.hid (HI2.out.below hb hs2)
        have HB9 := Lib.hid (HB2.out.trans (hb.mono HB2.out.size))
        obtain ⟨⟨c0, c1, c2, c3, c4⟩, f0, f1, f2, f3, f4⟩ := h5
        obtain ⟨⟨e0, e1, e2, e3, e4⟩, k0, k1, k2, k3, k4⟩ := HR2.out
        clear hb H HQ HI2 HI3
        go_wp2_with fail
        have hbs := below_set5 (b := w.heap.size) HB9.out (Nat.le_refl _) ⟨op, n0, n1, n2, 0⟩
        have hld := I5.load (HR2.out.set5 ⟨op, n0, n1, n2, 0⟩)
        unfold W.set5 at hbs hld
        refine bodyPost_ret (results_c1u (by rfl) _ (by rfl) hld) rfl ⟨rfl, ?_⟩
        exact hbs
  · have hRF : R = (bareS op atom, false) := by rw [HRR.out]; unfold guessS; rw [if_neg (by rw [HMN.out]; exact hlen)]
    rw [HBA.out] at hRF
    subst hRF
    subst hv
    have hne : ¬ ((zs.length : Int) = 3) := by omega
    obtain ⟨⟨e0, e1, e2, e3, e4⟩, k0, k1, k2, k3, k4⟩ := HRES.out
    have HBX := Lib.hid (HB2.out.trans (HB3.out.mono HB2.out.size))
    clear HRR HO HZL HBA HMN HW1 HI2 hlen
    try simp only [icells]
    have t4 : (op == 4) = false := by simp <;> omega
    have t46 : (op == 46) = false := by simp <;> omega
    have t57 : (op == 57) = false := by simp <;> omega
    go_wp2_with fail
    have hbs := below_set5 (b := w.heap.size) HBX.out (Nat.le_refl _) ⟨op, 0, 0, 0, 0⟩
    have hld := I5.load ((HRES.out.set5 ⟨op, 0, 0, 0, 0⟩).alloc (Obj.cells #[.pointer (some ⟨w2.heap.size, 1, none⟩), .pointer (some ⟨w2.heap.size, 2, none⟩), .pointer (some ⟨w2.heap.size, 3, none⟩)] 60))
    unfold W.set5 at hbs hld
    refine bodyPost_ret (results_c1u (by rfl) _ (by rfl) hld) rfl ⟨rfl, ?_⟩
    exact hbs.alloc hbs.size _
set_option maxRecDepth 100000 in
set_option maxHeartbeats 3200000 in
theorem guess_lr (op atom : Int) (l : List UInt8) (zs : List Int) (HZL : Hid (zs.length ≤ 4294967296)) (HZ : Hid (∀ z ∈ zs, -2147483648 ≤ z ∧ z ≤ 2147483647)) (o1 : 46 ≤ op) (o2 : op ≤ 46) (w : World)
    (HN : Hid (∀ W, Below w.heap.size w W → Calls Tryd.prog 29 #[.string (bs l)] W fun e w' => ∃ v, e = .returned v ∧ w'.ownsRow W.heap.size 2 1 v zs.length (zs.map (.int .i64 ·)) ∧ Below W.heap.size W w')) :
    Calls Tryd.prog 20 #[.int .i64 op, .int .i32 atom, .string (bs l)] w fun e w' => e = .returned (.tuple #[.agg (icells (guessS op atom zs).1), .bool (guessS op atom zs).2]) ∧ Below w.heap.size w w' := by
  obtain ⟨R, hR⟩ : ∃ R, R = guessS op atom zs := ⟨_, rfl⟩
  rw [← hR]
  have hb : bareS op atom = ⟨op, 0, 0, 0, atom⟩ := by unfold bareS; rw [if_pos (by omega)]
  have hm : manyS op = 2 := by unfold manyS offsS numS; (repeat (first | rw [if_pos (by omega)] | rw [if_neg (by omega)])); rfl
  have HRR := Lib.hid hR
  have HBA := Lib.hid hb
  have HMN := Lib.hid hm
  clear hR hb hm
  obtain ⟨w1, hw1⟩ : ∃ w1, w1 = w.alloc (.cells #[.int .i64 0, .int .i64 0, .int .i64 0, .int .i64 0, .int .i32 0] 23) := ⟨_, rfl⟩
  have HB1 := Lib.hid (show Below w.heap.size w w1 by rw [hw1]; exact (by repeat (first | with_reducible exact Below.refl _ _ | with_reducible refine below_drewN ?_ _ | ((with_reducible refine Below.setCell ?_ ?hq _); case hq => (first | (simp; done) | (simp; omega))) | ((with_reducible refine Below.alloc ?_ ?hq _); case hq => (first | (simp; done) | (simp; omega))))))
  have HI1 := Lib.hid (show I5 w1 w.heap.size ⟨0, 0, 0, 0, 0⟩ by rw [hw1]; exact ⟨⟨by go_cell, by go_cell, by go_cell, by go_cell, by go_cell⟩, World.frozen?_alloc_new _ _ _ _, World.frozen?_alloc_new _ _ _ _, World.frozen?_alloc_new _ _ _ _, World.frozen?_alloc_new _ _ _ _, World.frozen?_alloc_new _ _ _ _⟩)
  have hs1 : w.heap.size < w1.heap.size := by rw [hw1]; simp
  have HW1 := Lib.hid hw1
  have HN1 := Lib.hid (HN.out w1 HB1.out)
  clear HN hw1
  go_enter Tryd.func20, Tryd.ntmps20
  go_upto_region 1 with (fail)
  rw [← HW1.out]
  go_wp2_with fail
  refine HN1.out.mono ?_
  rintro e w2 ⟨v, rfl, hown, hb2⟩
  have hs2 : w.heap.size < w2.heap.size := Nat.lt_of_lt_of_le hs1 hb2.size
  have HB2 := Lib.hid (HB1.out.trans (hb2.mono HB1.out.size))
  have HO := Lib.hid hown
  have HI2 := Lib.hid (HI1.out.below hb2 hs1)
  clear hown hb2 HN1 HI1 HB1
  obtain ⟨w3, hw3⟩ : ∃ w3, w3 = w2.alloc (.cells #[.int .i64 op, .int .i64 0, .int .i64 0, .int .i64 0, .int .i32 0] 23) := ⟨_, rfl⟩
  have HW3 := Lib.hid hw3
  go_upto_region 3 with (fail)
  rw [← HW3.out]
  have HB3 := Lib.hid (show Below w2.heap.size w2 w3 by rw [hw3]; exact (by repeat (first | with_reducible exact Below.refl _ _ | with_reducible refine below_drewN ?_ _ | ((with_reducible refine Below.setCell ?_ ?hq _); case hq => (first | (simp; done) | (simp; omega))) | ((with_reducible refine Below.alloc ?_ ?hq _); case hq => (first | (simp; done) | (simp; omega))))))
  have hI3 : I5 w3 w2.heap.size ⟨op, 0, 0, 0, 0⟩ := by rw [hw3]; exact ⟨⟨by go_cell, by go_cell, by go_cell, by go_cell, by go_cell⟩, World.frozen?_alloc_new _ _ _ _, World.frozen?_alloc_new _ _ _ _, World.frozen?_alloc_new _ _ _ _, World.frozen?_alloc_new _ _ _ _, World.frozen?_alloc_new _ _ _ _⟩
  have hs3 : w3.heap.size = w2.heap.size + 1 := by rw [hw3]; simp
  have HS3 := Lib.hid hs3
  obtain ⟨⟨c0, c1, c2, c3, c4⟩, f0, f1, f2, f3, f4⟩ := hI3
  clear hw3
  obtain ⟨w4, hw4⟩ : ∃ w4, w4 = w3.setCell ⟨w2.heap.size, 4, none⟩ (.int .i32 atom) := ⟨_, rfl⟩
  have HW4 := Lib.hid hw4
  have HB4 := Lib.hid (show Below w2.heap.size w2 w4 by rw [hw4]; exact HB3.out.setCell (Nat.le_refl _) _)
  have hI4 : I5 w4 w2.heap.size ⟨op, 0, 0, 0, atom⟩ := by rw [hw4]; exact ⟨⟨by go_cell, by go_cell, by go_cell, by go_cell, by go_cell⟩, by simpa using f0, by simpa using f1, by simpa using f2, by simpa using f3, by simpa using f4⟩
  have hs4 : w4.heap.size = w2.heap.size + 1 := by rw [hw4, ← HS3.out]; simp
  clear hw4
  go_upto_region 5 with (fail)
  rw [← HW4.out]
  clear c0 c1 c2 c3 c4 f0 f1 f2 f3 f4 HB3 HS3 hs3 HW3 HW4
  have HS3 := Lib.hid hs4
  have HB3 := HB4
  obtain ⟨⟨c0, c1, c2, c3, c4⟩, f0, f1, f2, f3, f4⟩ := hI4
  clear HB4
  obtain ⟨w3, rfl⟩ : ∃ x, x = w4 := ⟨_, rfl⟩
  have HRES := Lib.hid (HI2.out.below HB3.out hs2)
  have hzl := HZL.out
  obtain ⟨p, cap, hv⟩ : ∃ p cap, v = .slice p zs.length cap := by
    rcases HO.out.2 with ⟨h, h2⟩ | ⟨g, cap, cur, h, _⟩
    · exact ⟨none, 0, by rw [h, h2]⟩
    · exact ⟨_, cap, h⟩
  by_cases hlen : zs.length = 2
  · obtain ⟨n0, n1, rfl⟩ : ∃ n0 n1, zs = [n0, n1] := by
      match zs, hlen with
      | [n0, n1], _ => exact ⟨n0, n1, rfl⟩
    have hRF : R = (⟨op, n0, n1, 0, atom⟩, true) := by
      rw [HRR.out]
      unfold guessS
      rw [if_pos (by rw [HMN.out]; rfl), HBA.out]
      unfold offsS numS
      (repeat (first | rw [if_pos (by omega)] | rw [if_neg (by omega)]))
      have hup : ¬ op ≤ 2 := by omega
      simp [fillS, setF, immG, hup]
    subst hRF
    rcases HO.out.2 with ⟨_, h2⟩ | ⟨g, cap2, cur, hv2, _, hg2, _⟩
    · simp at h2
    obtain rfl := hv2
    injection hv with hp1 hp2 hp3
    subst hp1 hp3
    have hgl : g < w2.heap.size := (Array.getElem?_eq_some_iff.1 hg2).1
    have q0 : w2.cell? ⟨g, 0, none⟩ = some (.int .i64 n0) := HO.out.cellAt 0 (by simp)
    have q1 : w2.cell? ⟨g, 1, none⟩ = some (.int .i64 n1) := HO.out.cellAt 1 (by simp)
    have HQ := Lib.hid (And.intro q0 q1)
    have hgz : g < w2.heap.size + 1 + 1 := by omega
    clear HRR HO HZL HBA HMN HW1 HRES hg2 hlen hzl hp2 q0 q1
    have t4 : (op == 4) = false := by simp <;> omega
    have t46 : (op == 46) = true := by simp <;> omega
    have t57 : (op == 57) = false := by simp <;> omega
    try simp only [icells]
    have HI3 := Lib.hid (show I5 w3 w2.heap.size ⟨op, 0, 0, 0, atom⟩ from ⟨⟨c0, c1, c2, c3, c4⟩, f0, f1, f2, f3, f4⟩)
    clear hgz
    go_wp2_with fail
    go_loopg [10, 101] 2 (fun gf s10 s101 wx => (gf = 2 ∧ s101 = .int .i64 0 ∧ (s10 = .slice (some ⟨w2.heap.size + 1, 0, none⟩) 2 2) ∧ Hid (Below w2.heap.size w2 wx ∧ I5 wx w2.heap.size ⟨op, 0, 0, 0, atom⟩ ∧ wx.cell? ⟨w2.heap.size + 1, 0, none⟩ = some (.pointer (some ⟨w2.heap.size, 1, none⟩)) ∧ wx.cell? ⟨w2.heap.size + 1, 1, none⟩ = some (.pointer (some ⟨w2.heap.size, 2, none⟩)))) ∨ (gf = 1 ∧ s101 = .int .i64 1 ∧ (s10 = .slice (some ⟨w2.heap.size + 1, 1, none⟩) 1 1) ∧ Hid (Below w2.heap.size w2 wx ∧ I5 wx w2.heap.size ⟨op, n0, 0, 0, atom⟩ ∧ wx.cell? ⟨w2.heap.size + 1, 0, none⟩ = some (.pointer (some ⟨w2.heap.size, 1, none⟩)) ∧ wx.cell? ⟨w2.heap.size + 1, 1, none⟩ = some (.pointer (some ⟨w2.heap.size, 2, none⟩)))) ∨ (gf = 0 ∧ s101 = .int .i64 2 ∧ (∃ pp, s10 = .slice pp 0 0) ∧ Hid (Below w2.heap.size w2 wx ∧ I5 wx w2.heap.size ⟨op, n0, n1, 0, atom⟩ ∧ wx.cell? ⟨w2.heap.size + 1, 0, none⟩ = some (.pointer (some ⟨w2.heap.size, 1, none⟩)) ∧ wx.cell? ⟨w2.heap.size + 1, 1, none⟩ = some (.pointer (some ⟨w2.heap.size, 2, none⟩)))))
    case atStart =>
      refine Or.inl ⟨rfl, rfl, rfl, Lib.hid ⟨HB3.out.alloc HB3.out.size _, HI3.out.alloc _, by rw [← HS3.out]; go_cell, by rw [← HS3.out]; go_cell⟩⟩
    case round =>
      clear c0 c1 c2 c3 c4 f0 f1 f2 f3 f4
      rcases hrel with ⟨rfl, rfl, rfl, H⟩ | ⟨rfl, rfl, rfl, H⟩ | ⟨rfl, rfl, ⟨pp, rfl⟩, H⟩
      · obtain ⟨hb, ⟨⟨c0, c1, c2, c3, c4⟩, f0, f1, f2, f3, f4⟩, p0, p1⟩ := H.out
        have qk := (hb.cell (p := ⟨g, 0, none⟩) hgl).trans HQ.out.1
        have HBK := Lib.hid hb
        clear hb H
        go_wp2_with fail
        go_roundg 1
        case measure => omega
        case rel => exact Or.inr (Or.inl ⟨rfl, rfl, rfl, Lib.hid ⟨HBK.out.setCell (Nat.le_refl _) _, ⟨⟨by go_cell, by go_cell, by go_cell, by go_cell, by go_cell⟩, by simpa using f0, by simpa using f1, by simpa using f2, by simpa using f3, by simpa using f4⟩, by go_cell, by go_cell⟩⟩)
      · obtain ⟨hb, ⟨⟨c0, c1, c2, c3, c4⟩, f0, f1, f2, f3, f4⟩, p0, p1⟩ := H.out
        have qk := (hb.cell (p := ⟨g, 1, none⟩) hgl).trans HQ.out.2
        have HBK := Lib.hid hb
        clear hb H
        go_wp2_with fail
        go_roundg 0
        case measure => omega
        case rel => exact Or.inr (Or.inr (⟨rfl, rfl, ⟨_, rfl⟩, Lib.hid ⟨HBK.out.setCell (Nat.le_refl _) _, ⟨⟨by go_cell, by go_cell, by go_cell, by go_cell, by go_cell⟩, by simpa using f0, by simpa using f1, by simpa using f2, by simpa using f3, by simpa using f4⟩, by go_cell, by go_cell⟩⟩))
      · obtain ⟨hb, h5, p0, p1⟩ := H.out
        have HR2 := Lib.hid (HI2.out.below hb hs2)
        have HB9 := Lib.hid (HB2.out.trans (hb.mono HB2.out.size))
        obtain ⟨⟨c0, c1, c2, c3, c4⟩, f0, f1, f2, f3, f4⟩ := h5
        obtain ⟨⟨e0, e1, e2, e3, e4⟩, k0, k1, k2, k3, k4⟩ := HR2.out
        clear hb H HQ HI2 HI3
        go_wp2_with fail
        have hbs := below_set5 (b := w.heap.size) HB9.out (Nat.le_refl _) ⟨op, n0, n1, 0, atom⟩
        have hld := I5.load (HR2.out.set5 ⟨op, n0, n1, 0, atom⟩)
        unfold W.set5 at hbs hld
        refine bodyPost_ret (results_c1u (by rfl) _ (by rfl) hld) rfl ⟨rfl, ?_⟩
        exact hbs
  · have hRF : R = (bareS op atom, false) := by rw [HRR.out]; unfold guessS; rw [if_neg (by rw [HMN.out]; exact hlen)]
    rw [HBA.out] at hRF
    subst hRF
    subst hv
    have hne : ¬ ((zs.length : Int) = 2) := by omega
    obtain ⟨⟨e0, e1, e2, e3, e4⟩, k0, k1, k2, k3, k4⟩ := HRES.out
    have HBX := Lib.hid (HB2.out.trans (HB3.out.mono HB2.out.size))
    clear HRR HO HZL HBA HMN HW1 HI2 hlen
    try simp only [icells]
    have t4 : (op == 4) = false := by simp <;> omega
    have t46 : (op == 46) = true := by simp <;> omega
    have t57 : (op == 57) = false := by simp <;> omega
    go_wp2_with fail
    have hbs := below_set5 (b := w.heap.size) HBX.out (Nat.le_refl _) ⟨op, 0, 0, 0, atom⟩
    have hld := I5.load ((HRES.out.set5 ⟨op, 0, 0, 0, atom⟩).alloc (Obj.cells #[.pointer (some ⟨w2.heap.size, 1, none⟩), .pointer (some ⟨w2.heap.size, 2, none⟩)] 60))
    unfold W.set5 at hbs hld
    refine bodyPost_ret (results_c1u (by rfl) _ (by rfl) hld) rfl ⟨rfl, ?_⟩
    exact hbs.alloc hbs.size _
set_option maxRecDepth 100000 in
set_option maxHeartbeats 3200000 in
theorem guess_at (op atom : Int) (l : List UInt8) (zs : List Int) (HZL : Hid (zs.length ≤ 4294967296)) (HZ : Hid (∀ z ∈ zs, -2147483648 ≤ z ∧ z ≤ 2147483647)) (o1 : 47 ≤ op) (o2 : op ≤ 56) (w : World)
    (HN : Hid (∀ W, Below w.heap.size w W → Calls Tryd.prog 29 #[.string (bs l)] W fun e w' => ∃ v, e = .returned v ∧ w'.ownsRow W.heap.size 2 1 v zs.length (zs.map (.int .i64 ·)) ∧ Below W.heap.size W w')) :
    Calls Tryd.prog 20 #[.int .i64 op, .int .i32 atom, .string (bs l)] w fun e w' => e = .returned (.tuple #[.agg (icells (guessS op atom zs).1), .bool (guessS op atom zs).2]) ∧ Below w.heap.size w w' := by
  obtain ⟨R, hR⟩ : ∃ R, R = guessS op atom zs := ⟨_, rfl⟩
  rw [← hR]
  have hb : bareS op atom = ⟨op, 0, 0, 0, atom⟩ := by unfold bareS; rw [if_pos (by omega)]
  have hm : manyS op = 3 := by unfold manyS offsS numS; (repeat (first | rw [if_pos (by omega)] | rw [if_neg (by omega)])); rfl
  have HRR := Lib.hid hR
  have HBA := Lib.hid hb
  have HMN := Lib.hid hm
  clear hR hb hm
  obtain ⟨w1, hw1⟩ : ∃ w1, w1 = w.alloc (.cells #[.int .i64 0, .int .i64 0, .int .i64 0, .int .i64 0, .int .i32 0] 23) := ⟨_, rfl⟩
  have HB1 := Lib.hid (show Below w.heap.size w w1 by rw [hw1]; exact (by repeat (first | with_reducible exact Below.refl _ _ | with_reducible refine below_drewN ?_ _ | ((with_reducible refine Below.setCell ?_ ?hq _); case hq => (first | (simp; done) | (simp; omega))) | ((with_reducible refine Below.alloc ?_ ?hq _); case hq => (first | (simp; done) | (simp; omega))))))
  have HI1 := Lib.hid (show I5 w1 w.heap.size ⟨0, 0, 0, 0, 0⟩ by rw [hw1]; exact ⟨⟨by go_cell, by go_cell, by go_cell, by go_cell, by go_cell⟩, World.frozen?_alloc_new _ _ _ _, World.frozen?_alloc_new _ _ _ _, World.frozen?_alloc_new _ _ _ _, World.frozen?_alloc_new _ _ _ _, World.frozen?_alloc_new _ _ _ _⟩)
  have hs1 : w.heap.size < w1.heap.size := by rw [hw1]; simp
  have HW1 := Lib.hid hw1
  have HN1 := Lib.hid (HN.out w1 HB1.out)
  clear HN hw1
  go_enter Tryd.func20, Tryd.ntmps20
  go_upto_region 1 with (fail)
  rw [← HW1.out]
  go_wp2_with fail
  refine HN1.out.mono ?_
  rintro e w2 ⟨v, rfl, hown, hb2⟩
  have hs2 : w.heap.size < w2.heap.size := Nat.lt_of_lt_of_le hs1 hb2.size
  have HB2 := Lib.hid (HB1.out.trans (hb2.mono HB1.out.size))
  have HO := Lib.hid hown
  have HI2 := Lib.hid (HI1.out.below hb2 hs1)
  clear hown hb2 HN1 HI1 HB1
  obtain ⟨w3, hw3⟩ : ∃ w3, w3 = w2.alloc (.cells #[.int .i64 op, .int .i64 0, .int .i64 0, .int .i64 0, .int .i32 0] 23) := ⟨_, rfl⟩
  have HW3 := Lib.hid hw3
  go_upto_region 3 with (fail)
  rw [← HW3.out]
  have HB3 := Lib.hid (show Below w2.heap.size w2 w3 by rw [hw3]; exact (by repeat (first | with_reducible exact Below.refl _ _ | with_reducible refine below_drewN ?_ _ | ((with_reducible refine Below.setCell ?_ ?hq _); case hq => (first | (simp; done) | (simp; omega))) | ((with_reducible refine Below.alloc ?_ ?hq _); case hq => (first | (simp; done) | (simp; omega))))))
  have hI3 : I5 w3 w2.heap.size ⟨op, 0, 0, 0, 0⟩ := by rw [hw3]; exact ⟨⟨by go_cell, by go_cell, by go_cell, by go_cell, by go_cell⟩, World.frozen?_alloc_new _ _ _ _, World.frozen?_alloc_new _ _ _ _, World.frozen?_alloc_new _ _ _ _, World.frozen?_alloc_new _ _ _ _, World.frozen?_alloc_new _ _ _ _⟩
  have hs3 : w3.heap.size = w2.heap.size + 1 := by rw [hw3]; simp
  have HS3 := Lib.hid hs3
  obtain ⟨⟨c0, c1, c2, c3, c4⟩, f0, f1, f2, f3, f4⟩ := hI3
  clear hw3
  obtain ⟨w4, hw4⟩ : ∃ w4, w4 = w3.setCell ⟨w2.heap.size, 4, none⟩ (.int .i32 atom) := ⟨_, rfl⟩
  have HW4 := Lib.hid hw4
  have HB4 := Lib.hid (show Below w2.heap.size w2 w4 by rw [hw4]; exact HB3.out.setCell (Nat.le_refl _) _)
  have hI4 : I5 w4 w2.heap.size ⟨op, 0, 0, 0, atom⟩ := by rw [hw4]; exact ⟨⟨by go_cell, by go_cell, by go_cell, by go_cell, by go_cell⟩, by simpa using f0, by simpa using f1, by simpa using f2, by simpa using f3, by simpa using f4⟩
  have hs4 : w4.heap.size = w2.heap.size + 1 := by rw [hw4, ← HS3.out]; simp
  clear hw4
  go_upto_region 5 with (fail)
  rw [← HW4.out]
  clear c0 c1 c2 c3 c4 f0 f1 f2 f3 f4 HB3 HS3 hs3 HW3 HW4
  have HS3 := Lib.hid hs4
  have HB3 := HB4
  obtain ⟨⟨c0, c1, c2, c3, c4⟩, f0, f1, f2, f3, f4⟩ := hI4
  clear HB4
  obtain ⟨w3, rfl⟩ : ∃ x, x = w4 := ⟨_, rfl⟩
  have HRES := Lib.hid (HI2.out.below HB3.out hs2)
  have hzl := HZL.out
  obtain ⟨p, cap, hv⟩ : ∃ p cap, v = .slice p zs.length cap := by
    rcases HO.out.2 with ⟨h, h2⟩ | ⟨g, cap, cur, h, _⟩
    · exact ⟨none, 0, by rw [h, h2]⟩
    · exact ⟨_, cap, h⟩
  by_cases hlen : zs.length = 3
  · obtain ⟨n0, n1, n2, rfl⟩ : ∃ n0 n1 n2, zs = [n0, n1, n2] := by
      match zs, hlen with
      | [n0, n1, n2], _ => exact ⟨n0, n1, n2, rfl⟩
    have hRF : R = (⟨op, n0, n2, n1, atom⟩, true) := by
      rw [HRR.out]
      unfold guessS
      rw [if_pos (by rw [HMN.out]; rfl), HBA.out]
      unfold offsS numS
      (repeat (first | rw [if_pos (by omega)] | rw [if_neg (by omega)]))
      have hup : ¬ op ≤ 2 := by omega
      simp [fillS, setF, immG, hup]
    subst hRF
    rcases HO.out.2 with ⟨_, h2⟩ | ⟨g, cap2, cur, hv2, _, hg2, _⟩
    · simp at h2
    obtain rfl := hv2
    injection hv with hp1 hp2 hp3
    subst hp1 hp3
    have hgl : g < w2.heap.size := (Array.getElem?_eq_some_iff.1 hg2).1
    have q0 : w2.cell? ⟨g, 0, none⟩ = some (.int .i64 n0) := HO.out.cellAt 0 (by simp)
    have q1 : w2.cell? ⟨g, 1, none⟩ = some (.int .i64 n1) := HO.out.cellAt 1 (by simp)
    have q2 : w2.cell? ⟨g, 2, none⟩ = some (.int .i64 n2) := HO.out.cellAt 2 (by simp)
    have HQ := Lib.hid (And.intro q0 (And.intro q1 q2))
    have hgz : g < w2.heap.size + 1 + 1 := by omega
    clear HRR HO HZL HBA HMN HW1 HRES hg2 hlen hzl hp2 q0 q1 q2
    have t4 : (op == 4) = false := by simp <;> omega
    have t46 : (op == 46) = false := by simp <;> omega
    have t57 : (op == 57) = false := by simp <;> omega
    try simp only [icells]
    have HI3 := Lib.hid (show I5 w3 w2.heap.size ⟨op, 0, 0, 0, atom⟩ from ⟨⟨c0, c1, c2, c3, c4⟩, f0, f1, f2, f3, f4⟩)
    clear hgz
    go_wp2_with fail
    go_loopg [10, 101] 3 (fun gf s10 s101 wx => (gf = 3 ∧ s101 = .int .i64 0 ∧ (s10 = .slice (some ⟨w2.heap.size + 1, 0, none⟩) 3 3) ∧ Hid (Below w2.heap.size w2 wx ∧ I5 wx w2.heap.size ⟨op, 0, 0, 0, atom⟩ ∧ wx.cell? ⟨w2.heap.size + 1, 0, none⟩ = some (.pointer (some ⟨w2.heap.size, 1, none⟩)) ∧ wx.cell? ⟨w2.heap.size + 1, 1, none⟩ = some (.pointer (some ⟨w2.heap.size, 3, none⟩)) ∧ wx.cell? ⟨w2.heap.size + 1, 2, none⟩ = some (.pointer (some ⟨w2.heap.size, 2, none⟩)))) ∨ (gf = 2 ∧ s101 = .int .i64 1 ∧ (s10 = .slice (some ⟨w2.heap.size + 1, 1, none⟩) 2 2) ∧ Hid (Below w2.heap.size w2 wx ∧ I5 wx w2.heap.size ⟨op, n0, 0, 0, atom⟩ ∧ wx.cell? ⟨w2.heap.size + 1, 0, none⟩ = some (.pointer (some ⟨w2.heap.size, 1, none⟩)) ∧ wx.cell? ⟨w2.heap.size + 1, 1, none⟩ = some (.pointer (some ⟨w2.heap.size, 3, none⟩)) ∧ wx.cell? ⟨w2.heap.size + 1, 2, none⟩ = some (.pointer (some ⟨w2.heap.size, 2, none⟩)))) ∨ (gf = 1 ∧ s101 = .int .i64 2 ∧ (s10 = .slice (some ⟨w2.heap.size + 1, 2, none⟩) 1 1) ∧ Hid (Below w2.heap.size w2 wx ∧ I5 wx w2.heap.size ⟨op, n0, 0, n1, atom⟩ ∧ wx.cell? ⟨w2.heap.size + 1, 0, none⟩ = some (.pointer (some ⟨w2.heap.size, 1, none⟩)) ∧ wx.cell? ⟨w2.heap.size + 1, 1, none⟩ = some (.pointer (some ⟨w2.heap.size, 3, none⟩)) ∧ wx.cell? ⟨w2.heap.size + 1, 2, none⟩ = some (.pointer (some ⟨w2.heap.size, 2, none⟩)))) ∨ (gf = 0 ∧ s101 = .int .i64 3 ∧ (∃ pp, s10 = .slice pp 0 0) ∧ Hid (Below w2.heap.size w2 wx ∧ I5 wx w2.heap.size ⟨op, n0, n2, n1, atom⟩ ∧ wx.cell? ⟨w2.heap.size + 1, 0, none⟩ = some (.pointer (some ⟨w2.heap.size, 1, none⟩)) ∧ wx.cell? ⟨w2.heap.size + 1, 1, none⟩ = some (.pointer (some ⟨w2.heap.size, 3, none⟩)) ∧ wx.cell? ⟨w2.heap.size + 1, 2, none⟩ = some (.pointer (some ⟨w2.heap.size, 2, none⟩)))))
    case atStart =>
      refine Or.inl ⟨rfl, rfl, rfl, Lib.hid ⟨HB3.out.alloc HB3.out.size _, HI3.out.alloc _, by rw [← HS3.out]; go_cell, by rw [← HS3.out]; go_cell, by rw [← HS3.out]; go_cell⟩⟩
    case round =>
      clear c0 c1 c2 c3 c4 f0 f1 f2 f3 f4
      rcases hrel with ⟨rfl, rfl, rfl, H⟩ | ⟨rfl, rfl, rfl, H⟩ | ⟨rfl, rfl, rfl, H⟩ | ⟨rfl, rfl, ⟨pp, rfl⟩, H⟩
      · obtain ⟨hb, ⟨⟨c0, c1, c2, c3, c4⟩, f0, f1, f2, f3, f4⟩, p0, p1, p2⟩ := H.out
        have qk := (hb.cell (p := ⟨g, 0, none⟩) hgl).trans HQ.out.1
        have HBK := Lib.hid hb
        clear hb H
        go_wp2_with fail
        go_roundg 2
        case measure => omega
        case rel => exact Or.inr (Or.inl ⟨rfl, rfl, rfl, Lib.hid ⟨HBK.out.setCell (Nat.le_refl _) _, ⟨⟨by go_cell, by go_cell, by go_cell, by go_cell, by go_cell⟩, by simpa using f0, by simpa using f1, by simpa using f2, by simpa using f3, by simpa using f4⟩, by go_cell, by go_cell, by go_cell⟩⟩)
      · obtain ⟨hb, ⟨⟨c0, c1, c2, c3, c4⟩, f0, f1, f2, f3, f4⟩, p0, p1, p2⟩ := H.out
        have qk := (hb.cell (p := ⟨g, 1, none⟩) hgl).trans HQ.out.2.1
        have HBK := Lib.hid hb
        clear hb H
        go_wp2_with fail
        go_roundg 1
        case measure => omega
        case rel => exact Or.inr (Or.inr (Or.inl ⟨rfl, rfl, rfl, Lib.hid ⟨HBK.out.setCell (Nat.le_refl _) _, ⟨⟨by go_cell, by go_cell, by go_cell, by go_cell, by go_cell⟩, by simpa using f0, by simpa using f1, by simpa using f2, by simpa using f3, by simpa using f4⟩, by go_cell, by go_cell, by go_cell⟩⟩))
      · obtain ⟨hb, ⟨⟨c0, c1, c2, c3, c4⟩, f0, f1, f2, f3, f4⟩, p0, p1, p2⟩ := H.out
        have qk := (hb.cell (p := ⟨g, 2, none⟩) hgl).trans HQ.out.2.2
        have HBK := Lib.hid hb
        clear hb H
        go_wp2_with fail
        go_roundg 0
        case measure => omega
        case rel => exact Or.inr (Or.inr (Or.inr (⟨rfl, rfl, ⟨_, rfl⟩, Lib.hid ⟨HBK.out.setCell (Nat.le_refl _) _, ⟨⟨by go_cell, by go_cell, by go_cell, by go_cell, by go_cell⟩, by simpa using f0, by simpa using f1, by simpa using f2, by simpa using f3, by simpa using f4⟩, by go_cell, by go_cell, by go_cell⟩⟩)))
      · obtain ⟨hb, h5, p0, p1, p2⟩ := H.out
        have HR2 := Lib.hid (HI2.out.below hb hs2)
        have HB9 := Lib.hid (HB2.out.trans (hb.mono HB2.out.size))
        obtain ⟨⟨c0, c1, c2, c3, c4⟩, f0, f1, f2, f3, f4⟩ := h5
        obtain ⟨⟨e0, e1, e2, e3, e4⟩, k0, k1, k2, k3, k4⟩ := HR2.out
        clear hb H HQ HI2 HI3
        go_wp2_with fail
        have hbs := below_set5 (b := w.heap.size) HB9.out (Nat.le_refl _) ⟨op, n0, n2, n1, atom⟩
        have hld := I5.load (HR2.out.set5 ⟨op, n0, n2, n1, atom⟩)
        unfold W.set5 at hbs hld
        refine bodyPost_ret (results_c1u (by rfl) _ (by rfl) hld) rfl ⟨rfl, ?_⟩
        exact hbs
  · have hRF : R = (bareS op atom, false) := by rw [HRR.out]; unfold guessS; rw [if_neg (by rw [HMN.out]; exact hlen)]
    rw [HBA.out] at hRF
    subst hRF
    subst hv
    have hne : ¬ ((zs.length : Int) = 3) := by omega
    obtain ⟨⟨e0, e1, e2, e3, e4⟩, k0, k1, k2, k3, k4⟩ := HRES.out
    have HBX := Lib.hid (HB2.out.trans (HB3.out.mono HB2.out.size))
    clear HRR HO HZL HBA HMN HW1 HI2 hlen
    try simp only [icells]
    have t4 : (op == 4) = false := by simp <;> omega
    have t46 : (op == 46) = false := by simp <;> omega
    have t57 : (op == 57) = false := by simp <;> omega
    go_wp2_with fail
    have hbs := below_set5 (b := w.heap.size) HBX.out (Nat.le_refl _) ⟨op, 0, 0, 0, atom⟩
    have hld := I5.load ((HRES.out.set5 ⟨op, 0, 0, 0, atom⟩).alloc (Obj.cells #[.pointer (some ⟨w2.heap.size, 1, none⟩), .pointer (some ⟨w2.heap.size, 3, none⟩), .pointer (some ⟨w2.heap.size, 2, none⟩)] 60))
    unfold W.set5 at hbs hld
    refine bodyPost_ret (results_c1u (by rfl) _ (by rfl) hld) rfl ⟨rfl, ?_⟩
    exact hbs.alloc hbs.size _
set_option maxRecDepth 100000 in
set_option maxHeartbeats 3200000 in
theorem guess_i3 (op atom : Int) (l : List UInt8) (zs : List Int) (HZL : Hid (zs.length ≤ 4294967296)) (HZ : Hid (∀ z ∈ zs, -2147483648 ≤ z ∧ z ≤ 2147483647)) (o1 : 57 ≤ op) (o2 : op ≤ 57) (w : World)
    (HN : Hid (∀ W, Below w.heap.size w W → Calls Tryd.prog 29 #[.string (bs l)] W fun e w' => ∃ v, e = .returned v ∧ w'.ownsRow W.heap.size 2 1 v zs.length (zs.map (.int .i64 ·)) ∧ Below W.heap.size W w')) :
    Calls Tryd.prog 20 #[.int .i64 op, .int .i32 atom, .string (bs l)] w fun e w' => e = .returned (.tuple #[.agg (icells (guessS op atom zs).1), .bool (guessS op atom zs).2]) ∧ Below w.heap.size w w' := by
  obtain ⟨R, hR⟩ : ∃ R, R = guessS op atom zs := ⟨_, rfl⟩
  rw [← hR]
  have hb : bareS op atom = ⟨op, 0, 0, 0, 0⟩ := by unfold bareS; rw [if_neg (by omega)]
  have hm : manyS op = 3 := by unfold manyS offsS numS; (repeat (first | rw [if_pos (by omega)] | rw [if_neg (by omega)])); rfl
  have HRR := Lib.hid hR
  have HBA := Lib.hid hb
  have HMN := Lib.hid hm
  clear hR hb hm
  obtain ⟨w1, hw1⟩ : ∃ w1, w1 = w.alloc (.cells #[.int .i64 0, .int .i64 0, .int .i64 0, .int .i64 0, .int .i32 0] 23) := ⟨_, rfl⟩
  have HB1 := Lib.hid (show Below w.heap.size w w1 by rw [hw1]; exact (by repeat (first | with_reducible exact Below.refl _ _ | with_reducible refine below_drewN ?_ _ | ((with_reducible refine Below.setCell ?_ ?hq _); case hq => (first | (simp; done) | (simp; omega))) | ((with_reducible refine Below.alloc ?_ ?hq _); case hq => (first | (simp; done) | (simp; omega))))))
  have HI1 := Lib.hid (show I5 w1 w.heap.size ⟨0, 0, 0, 0, 0⟩ by rw [hw1]; exact ⟨⟨by go_cell, by go_cell, by go_cell, by go_cell, by go_cell⟩, World.frozen?_alloc_new _ _ _ _, World.frozen?_alloc_new _ _ _ _, World.frozen?_alloc_new _ _ _ _, World.frozen?_alloc_new _ _ _ _, World.frozen?_alloc_new _ _ _ _⟩)
  have hs1 : w.heap.size < w1.heap.size := by rw [hw1]; simp
  have HW1 := Lib.hid hw1
  have HN1 := Lib.hid (HN.out w1 HB1.out)
  clear HN hw1
  go_enter Tryd.func20, Tryd.ntmps20
  go_upto_region 1 with (fail)
  rw [← HW1.out]
  go_wp2_with fail
  refine HN1.out.mono ?_
  rintro e w2 ⟨v, rfl, hown, hb2⟩
  have hs2 : w.heap.size < w2.heap.size := Nat.lt_of_lt_of_le hs1 hb2.size
  have HB2 := Lib.hid (HB1.out.trans (hb2.mono HB1.out.size))
  have HO := Lib.hid hown
  have HI2 := Lib.hid (HI1.out.below hb2 hs1)
  clear hown hb2 HN1 HI1 HB1
  obtain ⟨w3, hw3⟩ : ∃ w3, w3 = w2.alloc (.cells #[.int .i64 op, .int .i64 0, .int .i64 0, .int .i64 0, .int .i32 0] 23) := ⟨_, rfl⟩
  have HW3 := Lib.hid hw3
  go_upto_region 3 with (fail)
  rw [← HW3.out]
  have HB3 := Lib.hid (show Below w2.heap.size w2 w3 by rw [hw3]; exact (by repeat (first | with_reducible exact Below.refl _ _ | with_reducible refine below_drewN ?_ _ | ((with_reducible refine Below.setCell ?_ ?hq _); case hq => (first | (simp; done) | (simp; omega))) | ((with_reducible refine Below.alloc ?_ ?hq _); case hq => (first | (simp; done) | (simp; omega))))))
  have hI3 : I5 w3 w2.heap.size ⟨op, 0, 0, 0, 0⟩ := by rw [hw3]; exact ⟨⟨by go_cell, by go_cell, by go_cell, by go_cell, by go_cell⟩, World.frozen?_alloc_new _ _ _ _, World.frozen?_alloc_new _ _ _ _, World.frozen?_alloc_new _ _ _ _, World.frozen?_alloc_new _ _ _ _, World.frozen?_alloc_new _ _ _ _⟩
  have hs3 : w3.heap.size = w2.heap.size + 1 := by rw [hw3]; simp
  have HS3 := Lib.hid hs3
  obtain ⟨⟨c0, c1, c2, c3, c4⟩, f0, f1, f2, f3, f4⟩ := hI3
  clear hw3
  have HRES := Lib.hid (HI2.out.below HB3.out hs2)
  have hzl := HZL.out
  obtain ⟨p, cap, hv⟩ : ∃ p cap, v = .slice p zs.length cap := by
    rcases HO.out.2 with ⟨h, h2⟩ | ⟨g, cap, cur, h, _⟩
    · exact ⟨none, 0, by rw [h, h2]⟩
    · exact ⟨_, cap, h⟩
  by_cases hlen : zs.length = 3
  · obtain ⟨n0, n1, n2, rfl⟩ : ∃ n0 n1 n2, zs = [n0, n1, n2] := by
      match zs, hlen with
      | [n0, n1, n2], _ => exact ⟨n0, n1, n2, rfl⟩
    have hRF : R = (⟨op, n0, n1, 0, n2⟩, true) := by
      rw [HRR.out]
      unfold guessS
      rw [if_pos (by rw [HMN.out]; rfl), HBA.out]
      unfold offsS numS
      (repeat (first | rw [if_pos (by omega)] | rw [if_neg (by omega)]))
      have hup : ¬ op ≤ 2 := by omega
      simp [fillS, setF, immG, hup]
    subst hRF
    rcases HO.out.2 with ⟨_, h2⟩ | ⟨g, cap2, cur, hv2, _, hg2, _⟩
    · simp at h2
    obtain rfl := hv2
    injection hv with hp1 hp2 hp3
    subst hp1 hp3
    have hgl : g < w2.heap.size := (Array.getElem?_eq_some_iff.1 hg2).1
    have q0 : w2.cell? ⟨g, 0, none⟩ = some (.int .i64 n0) := HO.out.cellAt 0 (by simp)
    have q1 : w2.cell? ⟨g, 1, none⟩ = some (.int .i64 n1) := HO.out.cellAt 1 (by simp)
    have q2 : w2.cell? ⟨g, 2, none⟩ = some (.int .i64 n2) := HO.out.cellAt 2 (by simp)
    have HQ := Lib.hid (And.intro q0 (And.intro q1 q2))
    have hgz : g < w2.heap.size + 1 + 1 := by omega
    clear HRR HO HZL HBA HMN HW1 HRES hg2 hlen hzl hp2 q0 q1 q2
    have t4 : (op == 4) = false := by simp <;> omega
    have t46 : (op == 46) = false := by simp <;> omega
    have t57 : (op == 57) = true := by simp <;> omega
    try simp only [icells]
    have HI3 := Lib.hid (show I5 w3 w2.heap.size ⟨op, 0, 0, 0, 0⟩ from ⟨⟨c0, c1, c2, c3, c4⟩, f0, f1, f2, f3, f4⟩)
    clear hgz
    go_wp2_with fail
    go_loopg [10, 101] 3 (fun gf s10 s101 wx => (gf = 3 ∧ s101 = .int .i64 0 ∧ (s10 = .slice (some ⟨w2.heap.size + 1, 0, none⟩) 2 2) ∧ Hid (Below w2.heap.size w2 wx ∧ I5 wx w2.heap.size ⟨op, 0, 0, 0, 0⟩ ∧ wx.cell? ⟨w2.heap.size + 1, 0, none⟩ = some (.pointer (some ⟨w2.heap.size, 1, none⟩)) ∧ wx.cell? ⟨w2.heap.size + 1, 1, none⟩ = some (.pointer (some ⟨w2.heap.size, 2, none⟩)))) ∨ (gf = 2 ∧ s101 = .int .i64 1 ∧ (s10 = .slice (some ⟨w2.heap.size + 1, 1, none⟩) 1 1) ∧ Hid (Below w2.heap.size w2 wx ∧ I5 wx w2.heap.size ⟨op, n0, 0, 0, 0⟩ ∧ wx.cell? ⟨w2.heap.size + 1, 0, none⟩ = some (.pointer (some ⟨w2.heap.size, 1, none⟩)) ∧ wx.cell? ⟨w2.heap.size + 1, 1, none⟩ = some (.pointer (some ⟨w2.heap.size, 2, none⟩)))) ∨ (gf = 1 ∧ s101 = .int .i64 2 ∧ (∃ pp, s10 = .slice pp 0 0) ∧ Hid (Below w2.heap.size w2 wx ∧ I5 wx w2.heap.size ⟨op, n0, n1, 0, 0⟩ ∧ wx.cell? ⟨w2.heap.size + 1, 0, none⟩ = some (.pointer (some ⟨w2.heap.size, 1, none⟩)) ∧ wx.cell? ⟨w2.heap.size + 1, 1, none⟩ = some (.pointer (some ⟨w2.heap.size, 2, none⟩)))) ∨ (gf = 0 ∧ s101 = .int .i64 3 ∧ (∃ pp, s10 = .slice pp 0 0) ∧ Hid (Below w2.heap.size w2 wx ∧ I5 wx w2.heap.size ⟨op, n0, n1, 0, n2⟩ ∧ wx.cell? ⟨w2.heap.size + 1, 0, none⟩ = some (.pointer (some ⟨w2.heap.size, 1, none⟩)) ∧ wx.cell? ⟨w2.heap.size + 1, 1, none⟩ = some (.pointer (some ⟨w2.heap.size, 2, none⟩)))))
    case atStart =>
      refine Or.inl ⟨rfl, rfl, rfl, Lib.hid ⟨HB3.out.alloc HB3.out.size _, HI3.out.alloc _, by rw [← HS3.out]; go_cell, by rw [← HS3.out]; go_cell⟩⟩
    case round =>
      clear c0 c1 c2 c3 c4 f0 f1 f2 f3 f4
      rcases hrel with ⟨rfl, rfl, rfl, H⟩ | ⟨rfl, rfl, rfl, H⟩ | ⟨rfl, rfl, ⟨pp, rfl⟩, H⟩ | ⟨rfl, rfl, ⟨pp, rfl⟩, H⟩
      · obtain ⟨hb, ⟨⟨c0, c1, c2, c3, c4⟩, f0, f1, f2, f3, f4⟩, p0, p1⟩ := H.out
        have qk := (hb.cell (p := ⟨g, 0, none⟩) hgl).trans HQ.out.1
        have HBK := Lib.hid hb
        clear hb H
        go_wp2_with fail
        go_roundg 2
        case measure => omega
        case rel => exact Or.inr (Or.inl ⟨rfl, rfl, rfl, Lib.hid ⟨HBK.out.setCell (Nat.le_refl _) _, ⟨⟨by go_cell, by go_cell, by go_cell, by go_cell, by go_cell⟩, by simpa using f0, by simpa using f1, by simpa using f2, by simpa using f3, by simpa using f4⟩, by go_cell, by go_cell⟩⟩)
      · obtain ⟨hb, ⟨⟨c0, c1, c2, c3, c4⟩, f0, f1, f2, f3, f4⟩, p0, p1⟩ := H.out
        have qk := (hb.cell (p := ⟨g, 1, none⟩) hgl).trans HQ.out.2.1
        have HBK := Lib.hid hb
        clear hb H
        go_wp2_with fail
        go_roundg 1
        case measure => omega
        case rel => exact Or.inr (Or.inr (Or.inl ⟨rfl, rfl, ⟨_, rfl⟩, Lib.hid ⟨HBK.out.setCell (Nat.le_refl _) _, ⟨⟨by go_cell, by go_cell, by go_cell, by go_cell, by go_cell⟩, by simpa using f0, by simpa using f1, by simpa using f2, by simpa using f3, by simpa using f4⟩, by go_cell, by go_cell⟩⟩))
      · obtain ⟨hb, ⟨⟨c0, c1, c2, c3, c4⟩, f0, f1, f2, f3, f4⟩, p0, p1⟩ := H.out
        have qk := (hb.cell (p := ⟨g, 2, none⟩) hgl).trans HQ.out.2.2
        have HBK := Lib.hid hb
        clear hb H
        have hwn : wrap32 n2 = n2 := by have := HZ.out n2 (by simp); unfold wrap32; omega
        go_wp2_with fail
        go_roundg 0
        case measure => omega
        case rel => exact Or.inr (Or.inr (Or.inr (⟨rfl, rfl, ⟨_, rfl⟩, Lib.hid ⟨HBK.out.setCell (Nat.le_refl _) _, ⟨⟨by go_cell, by go_cell, by go_cell, by go_cell, by go_cell⟩, by simpa using f0, by simpa using f1, by simpa using f2, by simpa using f3, by simpa using f4⟩, by go_cell, by go_cell⟩⟩)))
      · obtain ⟨hb, h5, p0, p1⟩ := H.out
        have HR2 := Lib.hid (HI2.out.below hb hs2)
        have HB9 := Lib.hid (HB2.out.trans (hb.mono HB2.out.size))
        obtain ⟨⟨c0, c1, c2, c3, c4⟩, f0, f1, f2, f3, f4⟩ := h5
        obtain ⟨⟨e0, e1, e2, e3, e4⟩, k0, k1, k2, k3, k4⟩ := HR2.out
        clear hb H HQ HI2 HI3
        go_wp2_with fail
        have hbs := below_set5 (b := w.heap.size) HB9.out (Nat.le_refl _) ⟨op, n0, n1, 0, n2⟩
        have hld := I5.load (HR2.out.set5 ⟨op, n0, n1, 0, n2⟩)
        unfold W.set5 at hbs hld
        refine bodyPost_ret (results_c1u (by rfl) _ (by rfl) hld) rfl ⟨rfl, ?_⟩
        exact hbs
  · have hRF : R = (bareS op atom, false) := by rw [HRR.out]; unfold guessS; rw [if_neg (by rw [HMN.out]; exact hlen)]
    rw [HBA.out] at hRF
    subst hRF
    subst hv
    have hne : ¬ ((zs.length : Int) = 3) := by omega
    obtain ⟨⟨e0, e1, e2, e3, e4⟩, k0, k1, k2, k3, k4⟩ := HRES.out
    have HBX := Lib.hid (HB2.out.trans (HB3.out.mono HB2.out.size))
    clear HRR HO HZL HBA HMN HW1 HI2 hlen
    try simp only [icells]
    have t4 : (op == 4) = false := by simp <;> omega
    have t46 : (op == 46) = false := by simp <;> omega
    have t57 : (op == 57) = true := by simp <;> omega
    go_wp2_with fail
    have hbs := below_set5 (b := w.heap.size) HBX.out (Nat.le_refl _) ⟨op, 0, 0, 0, 0⟩
    have hld := I5.load ((HRES.out.set5 ⟨op, 0, 0, 0, 0⟩).alloc (Obj.cells #[.pointer (some ⟨w2.heap.size, 1, none⟩), .pointer (some ⟨w2.heap.size, 2, none⟩)] 60))
    unfold W.set5 at hbs hld
    refine bodyPost_ret (results_c1u (by rfl) _ (by rfl) hld) rfl ⟨rfl, ?_⟩
    exact hbs.alloc hbs.size _
set_option maxRecDepth 100000 in
set_option maxHeartbeats 3200000 in
theorem guess_n (op atom : Int) (l : List UInt8) (zs : List Int) (HZL : Hid (zs.length ≤ 4294967296)) (HZ : Hid (∀ z ∈ zs, -2147483648 ≤ z ∧ z ≤ 2147483647)) (o1 : 58 ≤ op) (o2 : op ≤ 59) (w : World)
    (HN : Hid (∀ W, Below w.heap.size w W → Calls Tryd.prog 29 #[.string (bs l)] W fun e w' => ∃ v, e = .returned v ∧ w'.ownsRow W.heap.size 2 1 v zs.length (zs.map (.int .i64 ·)) ∧ Below W.heap.size W w')) :
    Calls Tryd.prog 20 #[.int .i64 op, .int .i32 atom, .string (bs l)] w fun e w' => e = .returned (.tuple #[.agg (icells (guessS op atom zs).1), .bool (guessS op atom zs).2]) ∧ Below w.heap.size w w' := by
  obtain ⟨R, hR⟩ : ∃ R, R = guessS op atom zs := ⟨_, rfl⟩
  rw [← hR]
  have hb : bareS op atom = ⟨op, 0, 0, 0, 0⟩ := by unfold bareS; rw [if_neg (by omega)]
  have hm : manyS op = 0 := by unfold manyS offsS numS; (repeat (first | rw [if_pos (by omega)] | rw [if_neg (by omega)])); rfl
  have HRR := Lib.hid hR
  have HBA := Lib.hid hb
  have HMN := Lib.hid hm
  clear hR hb hm
  obtain ⟨w1, hw1⟩ : ∃ w1, w1 = w.alloc (.cells #[.int .i64 0, .int .i64 0, .int .i64 0, .int .i64 0, .int .i32 0] 23) := ⟨_, rfl⟩
  have HB1 := Lib.hid (show Below w.heap.size w w1 by rw [hw1]; exact (by repeat (first | with_reducible exact Below.refl _ _ | with_reducible refine below_drewN ?_ _ | ((with_reducible refine Below.setCell ?_ ?hq _); case hq => (first | (simp; done) | (simp; omega))) | ((with_reducible refine Below.alloc ?_ ?hq _); case hq => (first | (simp; done) | (simp; omega))))))
  have HI1 := Lib.hid (show I5 w1 w.heap.size ⟨0, 0, 0, 0, 0⟩ by rw [hw1]; exact ⟨⟨by go_cell, by go_cell, by go_cell, by go_cell, by go_cell⟩, World.frozen?_alloc_new _ _ _ _, World.frozen?_alloc_new _ _ _ _, World.frozen?_alloc_new _ _ _ _, World.frozen?_alloc_new _ _ _ _, World.frozen?_alloc_new _ _ _ _⟩)
  have hs1 : w.heap.size < w1.heap.size := by rw [hw1]; simp
  have HW1 := Lib.hid hw1
  have HN1 := Lib.hid (HN.out w1 HB1.out)
  clear HN hw1
  go_enter Tryd.func20, Tryd.ntmps20
  go_upto_region 1 with (fail)
  rw [← HW1.out]
  go_wp2_with fail
  refine HN1.out.mono ?_
  rintro e w2 ⟨v, rfl, hown, hb2⟩
  have hs2 : w.heap.size < w2.heap.size := Nat.lt_of_lt_of_le hs1 hb2.size
  have HB2 := Lib.hid (HB1.out.trans (hb2.mono HB1.out.size))
  have HO := Lib.hid hown
  have HI2 := Lib.hid (HI1.out.below hb2 hs1)
  clear hown hb2 HN1 HI1 HB1
  obtain ⟨w3, hw3⟩ : ∃ w3, w3 = w2.alloc (.cells #[.int .i64 op, .int .i64 0, .int .i64 0, .int .i64 0, .int .i32 0] 23) := ⟨_, rfl⟩
  have HW3 := Lib.hid hw3
  go_upto_region 3 with (fail)
  rw [← HW3.out]
  have HB3 := Lib.hid (show Below w2.heap.size w2 w3 by rw [hw3]; exact (by repeat (first | with_reducible exact Below.refl _ _ | with_reducible refine below_drewN ?_ _ | ((with_reducible refine Below.setCell ?_ ?hq _); case hq => (first | (simp; done) | (simp; omega))) | ((with_reducible refine Below.alloc ?_ ?hq _); case hq => (first | (simp; done) | (simp; omega))))))
  have hI3 : I5 w3 w2.heap.size ⟨op, 0, 0, 0, 0⟩ := by rw [hw3]; exact ⟨⟨by go_cell, by go_cell, by go_cell, by go_cell, by go_cell⟩, World.frozen?_alloc_new _ _ _ _, World.frozen?_alloc_new _ _ _ _, World.frozen?_alloc_new _ _ _ _, World.frozen?_alloc_new _ _ _ _, World.frozen?_alloc_new _ _ _ _⟩
  have hs3 : w3.heap.size = w2.heap.size + 1 := by rw [hw3]; simp
  have HS3 := Lib.hid hs3
  obtain ⟨⟨c0, c1, c2, c3, c4⟩, f0, f1, f2, f3, f4⟩ := hI3
  clear hw3
  have HRES := Lib.hid (HI2.out.below HB3.out hs2)
  have hzl := HZL.out
  obtain ⟨p, cap, hv⟩ : ∃ p cap, v = .slice p zs.length cap := by
    rcases HO.out.2 with ⟨h, h2⟩ | ⟨g, cap, cur, h, _⟩
    · exact ⟨none, 0, by rw [h, h2]⟩
    · exact ⟨_, cap, h⟩
  by_cases hlen : zs.length = 0
  · obtain rfl : zs = [] := List.length_eq_zero_iff.1 hlen
    have hRF : R = (⟨op, 0, 0, 0, 0⟩, true) := by
      rw [HRR.out]
      unfold guessS
      rw [if_pos (by rw [HMN.out]; rfl), HBA.out]
      unfold offsS numS
      (repeat (first | rw [if_pos (by omega)] | rw [if_neg (by omega)]))
      have hup : ¬ op ≤ 2 := by omega
      simp [fillS, setF, immG, hup]
    subst hRF
    subst hv
    clear HRR HO HZL HBA HMN HW1 HRES hlen hzl
    have t4 : (op == 4) = false := by simp <;> omega
    have t46 : (op == 46) = false := by simp <;> omega
    have t57 : (op == 57) = false := by simp <;> omega
    try simp only [icells]
    have HI3 := Lib.hid (show I5 w3 w2.heap.size ⟨op, 0, 0, 0, 0⟩ from ⟨⟨c0, c1, c2, c3, c4⟩, f0, f1, f2, f3, f4⟩)
    go_wp2_with fail
    go_loopg [10, 101] 0 (fun gf s10 s101 wx => (gf = 0 ∧ s101 = .int .i64 0 ∧ (∃ pp, s10 = .slice pp 0 0) ∧ Hid (Below w2.heap.size w2 wx ∧ I5 wx w2.heap.size ⟨op, 0, 0, 0, 0⟩)))
    case atStart =>
      exact ⟨rfl, rfl, ⟨_, rfl⟩, Lib.hid ⟨HB3.out, HI3.out⟩⟩
    case round =>
      clear c0 c1 c2 c3 c4 f0 f1 f2 f3 f4
      rcases hrel with ⟨rfl, rfl, ⟨pp, rfl⟩, H⟩
      · obtain ⟨hb, h5⟩ := H.out
        have HR2 := Lib.hid (HI2.out.below hb hs2)
        have HB9 := Lib.hid (HB2.out.trans (hb.mono HB2.out.size))
        obtain ⟨⟨c0, c1, c2, c3, c4⟩, f0, f1, f2, f3, f4⟩ := h5
        obtain ⟨⟨e0, e1, e2, e3, e4⟩, k0, k1, k2, k3, k4⟩ := HR2.out
        clear hb H HI2 HI3
        go_wp2_with fail
        have hbs := below_set5 (b := w.heap.size) HB9.out (Nat.le_refl _) ⟨op, 0, 0, 0, 0⟩
        have hld := I5.load (HR2.out.set5 ⟨op, 0, 0, 0, 0⟩)
        unfold W.set5 at hbs hld
        refine bodyPost_ret (results_c1u (by rfl) _ (by rfl) hld) rfl ⟨rfl, ?_⟩
        exact hbs
  · have hRF : R = (bareS op atom, false) := by rw [HRR.out]; unfold guessS; rw [if_neg (by rw [HMN.out]; exact hlen)]
    rw [HBA.out] at hRF
    subst hRF
    subst hv
    have hne : ¬ ((zs.length : Int) = 0) := by omega
    obtain ⟨⟨e0, e1, e2, e3, e4⟩, k0, k1, k2, k3, k4⟩ := HRES.out
    have HBX := Lib.hid (HB2.out.trans (HB3.out.mono HB2.out.size))
    clear HRR HO HZL HBA HMN HW1 HI2 hlen
    try simp only [icells]
    have t4 : (op == 4) = false := by simp <;> omega
    have t46 : (op == 46) = false := by simp <;> omega
    have t57 : (op == 57) = false := by simp <;> omega
    go_wp2_with fail
    have hbs := below_set5 (b := w.heap.size) HBX.out (Nat.le_refl _) ⟨op, 0, 0, 0, 0⟩
    have hld := I5.load ((HRES.out.set5 ⟨op, 0, 0, 0, 0⟩))
    unfold W.set5 at hbs hld
    refine bodyPost_ret (results_c1u (by rfl) _ (by rfl) hld) rfl ⟨rfl, ?_⟩
    exact hbs
end Go.Proofs.YtlfnddmncbkjaacDoor.W
