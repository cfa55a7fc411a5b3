import Derived.Test.YtlfnddmncbkjaabZZC
set_option linter.unusedVariables false
set_option linter.unusedSimpArgs false
set_option maxRecDepth 100000
set_option maxHeartbeats 4000000
namespace Go.Proofs.Ytlfnddmncbkjaab.Fb
open Go.RowKit
theorem step_append_at {P : Program} {w : World} {ops : Array Oper} {o : Oper} {a : Act} {K : Act → World → Prop} {Q : Exit → Act → World → Prop} {E : Prop} (hgd : o.guard = none) (s x : Operand) (t : TypeId)
    (ho : o.op = .call { callee := .builtin .append, args := #[s, x], argTypes := #[t, t] })
    (base : Nat) (e : TypeId) (i : TypeInfo) (z : Value) (size bytes : Nat) (ht : P.underlying t = some (.slice e)) (hi : P.info? e = some i) (hz : i.zero = some z)
    (hsize : i.size = size) (hby : i.bytes = bytes) (hzs : z.cells.size = size) (hsz : 0 < size)
    (v : Value) (n : Nat) (xs : List Value) (hs : a.eval s = v) (hown : w.ownsRow base e size v n xs)
    (ad : Addr) (m c : Nat) (news : List Value) (hx : a.eval x = .slice (some ad) m c) (hl : news.length = m * size) (hnews : ∀ j u, news[j]? = some u → w.cell? (ad.add j) = some u) (h1 : ∀ u ∈ news, u.oneCell' = true)
    (h63 : n + m ≤ maxLen) (hbytes : (n + m) * bytes ≤ 140737488355328) (hbase : base ≤ w.heap.size)
    (h : ∀ v' w', w'.ownsRow base e size v' (n + m) (xs ++ news) → w.grownBy w' v.ownBlock → (∀ k, v'.ownBlock = some k → v.ownBlock = some k ∨ w.heap.size ≤ k) → K (a.put o.dst v') w') :
    if Region.wanted o (yielded ops a.tmps) = true then Oper.wp P o a w K Q else E := by
  have hw : Region.wanted o (yielded ops a.tmps) = true := by simp [Region.wanted, hgd]
  rw [if_pos hw]
  obtain ⟨v', w', hr, h2, h3, _, h5⟩ := run_append_own_at (P := P) w base t o.type e i z size bytes ht hi hz hsize hby hzs hsz v n xs hown ad m c news hl hnews h1 h63 hbytes hbase
  unfold Oper.wp execOp
  simp only [ho, resolve, invoke, builtin, Sem.run_bind, Sem.run_pure, Result.andThen_ok, List.map_toArray, List.map_cons, List.map_nil, hs, hx, hr]
  exact h v' w' h2 h3 (fun k e => h5.elim (fun e2 => .inl (e2 ▸ e)) (fun e2 => .inr (by rw [e] at e2; cases e2; exact Nat.le_refl _)))
end Go.Proofs.Ytlfnddmncbkjaab.Fb
namespace Go.Proofs.Ytlfnddmncbkjaab.W
open Go.RowKit Fb
theorem info_u32 : (Try.prog.info? 34).map (fun i => (i.zero, i.size, i.bytes)) = some (some (.int .u32 0), 1, 4) := by kernel_rfl
section
variable {rp : Nat} {w : World} {d : RunD} {vm vo vs : Value}
theorem one7_call0 (h : R7 rp 34 60 w d vm vo vs) (n steps : Int) (kd ka kb : Nat) (hr : d.h.reg 17 = 0) :
    Calls Try.prog 80 #[.pointer (some ⟨rp, 0, none⟩), .agg #[.int .i64 5, .int .i64 kd, .int .i64 ka, .int .i64 kb, .int .u32 n], .int .i64 steps] w fun e w' => e = .returned (.tuple #[]) ∧ ∃ vm' vo' vs', R7 rp 34 60 w' d.call vm' vo' vs' ∧ G7 rp w vo vs w' vo' vs' := by
  obtain ⟨w1, hw1⟩ : ∃ w1, w1 = w.alloc (.cells #[.int .i64 5, .int .i64 kd, .int .i64 ka, .int .i64 kb, .int .u32 n] 133) := ⟨_, rfl⟩
  have hb1 : Below w.heap.size w w1 := by rw [hw1]; exact Fb.blw
  have c0 : (w1).cell? ⟨w.heap.size, 0, none⟩ = some (.int .i64 5) := by rw [hw1]; go_cell
  have c1 : (w1).cell? ⟨w.heap.size, 1, none⟩ = some (.int .i64 kd) := by rw [hw1]; go_cell
  have c2 : (w1).cell? ⟨w.heap.size, 2, none⟩ = some (.int .i64 ka) := by rw [hw1]; go_cell
  have c3 : (w1).cell? ⟨w.heap.size, 3, none⟩ = some (.int .i64 kb) := by rw [hw1]; go_cell
  have c4 : (w1).cell? ⟨w.heap.size, 4, none⟩ = some (.int .u32 n) := by rw [hw1]; go_cell
  have H1 := h.below hb1
  have HG1 : Hid (G7 rp w vo vs w1 vo vs) := Lib.hid (G7.below hb1)
  have hres : d.call = { d with over := true, h := ({ d.h with state := 1 } : Hart).setPc d.here } := by unfold RunD.call; rw [if_pos hr]
  rw [hres]
  have c17 := H1.at_.get ((r7_hart h.wf.h.len (by omega)).trans (hlist_reg h.wf.h 17 (by omega)))
  have hr17 : d.h.regs.getD 17 0 = 0 := hr
  rw [hr17] at c17
  have c45 := H1.at_.get (r7_end h.wf.h.len h.wf.tlen 0)
  have c35 := H1.at_.get ((r7_hart h.wf.h.len (by omega)).trans (hlist_state h.wf.h))
  have f35 := H1.frz 35
  simp only [Nat.zero_add, Nat.reduceAdd] at c17 c45 c35
  have H2 := Lib.hid (r7_setCell (d' := { d with h := { d.h with state := 1 } }) H1 35 (by omega) (.int .i64 1) (r7_setHart h.wf.h.len (by omega) (hlist_setState h.wf.h.len 1)) rfl rfl rfl { h.wf with h := { h.wf.h with state := (show -9223372036854775808 ≤ (1 : Int) ∧ (1 : Int) ≤ 9223372036854775807 by omega) } })
  have HST := Lib.hid (stop7_any H2.out d.here h.wf.here)
  have HGS : Hid (G7 rp w1 vo vs (w1.setCell ⟨rp, 35, none⟩ (.int .i64 1)) vo vs) := Lib.hid (G7.set 35 _)
  have HW1 := Lib.hid hw1
  clear h H1 hb1 hw1 hres hr hr17
  go_enter Try.func80, Try.ntmps80
  go_upto_region 1 with (fail)
  rw [← HW1.out]
  go_wp2_with fail
  refine HST.out.mono ?_
  rintro e w9 ⟨rfl, h9, g9⟩
  go_wp2_with fail
  first
    | exact bodyPost_ret (results_none (by rfl) _ _ _) rfl ⟨rfl, _, _, _, h9, HG1.out.trans (HGS.out.trans g9)⟩
    | (go_end0; exact ⟨rfl, _, _, _, h9, HG1.out.trans (HGS.out.trans g9)⟩)
theorem one7_call5 (h : R7 rp 34 60 w d vm vo vs) (n steps : Int) (kd ka kb : Nat) (hr : ¬ d.h.reg 17 = 0) (hr1 : ¬ d.h.reg 17 = 1) :
    Calls Try.prog 80 #[.pointer (some ⟨rp, 0, none⟩), .agg #[.int .i64 5, .int .i64 kd, .int .i64 ka, .int .i64 kb, .int .u32 n], .int .i64 steps] w fun e w' => e = .returned (.tuple #[]) ∧ ∃ vm' vo' vs', R7 rp 34 60 w' d.call vm' vo' vs' ∧ G7 rp w vo vs w' vo' vs' := by
  obtain ⟨w1, hw1⟩ : ∃ w1, w1 = w.alloc (.cells #[.int .i64 5, .int .i64 kd, .int .i64 ka, .int .i64 kb, .int .u32 n] 133) := ⟨_, rfl⟩
  have hb1 : Below w.heap.size w w1 := by rw [hw1]; exact Fb.blw
  have c0 : (w1).cell? ⟨w.heap.size, 0, none⟩ = some (.int .i64 5) := by rw [hw1]; go_cell
  have c1 : (w1).cell? ⟨w.heap.size, 1, none⟩ = some (.int .i64 kd) := by rw [hw1]; go_cell
  have c2 : (w1).cell? ⟨w.heap.size, 2, none⟩ = some (.int .i64 ka) := by rw [hw1]; go_cell
  have c3 : (w1).cell? ⟨w.heap.size, 3, none⟩ = some (.int .i64 kb) := by rw [hw1]; go_cell
  have c4 : (w1).cell? ⟨w.heap.size, 4, none⟩ = some (.int .u32 n) := by rw [hw1]; go_cell
  have H1 := h.below hb1
  have HG1 : Hid (G7 rp w vo vs w1 vo vs) := Lib.hid (G7.below hb1)
  have hres : d.call = d.trap 5 := by unfold RunD.call; rw [if_neg hr, if_neg hr1]
  rw [hres]
  have c17 := H1.at_.get ((r7_hart h.wf.h.len (by omega)).trans (hlist_reg h.wf.h 17 (by omega)))
  obtain ⟨r17, hr17⟩ : ∃ r, r = d.h.regs.getD 17 0 := ⟨_, rfl⟩
  have p0 : (r17 == 0) = false := by rw [hr17]; simp; exact hr
  have p1 : (r17 == 1) = false := by rw [hr17]; simp; exact hr1
  rw [← hr17] at c17
  simp only [Nat.zero_add, Nat.reduceAdd] at c17
  have HTR := Lib.hid (trap7_any H1 5 ⟨by omega, by omega⟩)
  have HW1 := Lib.hid hw1
  clear h H1 hb1 hw1 hres hr hr17 hr1
  go_enter Try.func80, Try.ntmps80
  go_upto_region 1 with (fail)
  rw [← HW1.out]
  go_wp2_with fail
  refine HTR.out.mono ?_
  rintro e w9 ⟨rfl, h9, g9⟩
  go_wp2_with fail
  first
    | exact bodyPost_ret (results_none (by rfl) _ _ _) rfl ⟨rfl, _, _, _, h9, HG1.out.trans g9⟩
    | (go_end0; exact ⟨rfl, _, _, _, h9, HG1.out.trans g9⟩)
theorem one7_call1 (h : R7 rp 34 60 w d vm vo vs) (n steps : Int) (kd ka kb : Nat) (hr1 : d.h.reg 17 = 1) (hol : d.out.length ≤ 100000) :
    Calls Try.prog 80 #[.pointer (some ⟨rp, 0, none⟩), .agg #[.int .i64 5, .int .i64 kd, .int .i64 ka, .int .i64 kb, .int .u32 n], .int .i64 steps] w fun e w' => e = .returned (.tuple #[]) ∧ ∃ vm' vo' vs', R7 rp 34 60 w' d.call vm' vo' vs' ∧ G7 rp w vo vs w' vo' vs' := by
  obtain ⟨i0, hi, hi0, hi1, hi2⟩ := info_parts info_u32
  obtain ⟨w1, hw1⟩ : ∃ w1, w1 = w.alloc (.cells #[.int .i64 5, .int .i64 kd, .int .i64 ka, .int .i64 kb, .int .u32 n] 133) := ⟨_, rfl⟩
  have hb1 : Below w.heap.size w w1 := by rw [hw1]; exact Fb.blw
  have c0 : (w1).cell? ⟨w.heap.size, 0, none⟩ = some (.int .i64 5) := by rw [hw1]; go_cell
  have c1 : (w1).cell? ⟨w.heap.size, 1, none⟩ = some (.int .i64 kd) := by rw [hw1]; go_cell
  have c2 : (w1).cell? ⟨w.heap.size, 2, none⟩ = some (.int .i64 ka) := by rw [hw1]; go_cell
  have c3 : (w1).cell? ⟨w.heap.size, 3, none⟩ = some (.int .i64 kb) := by rw [hw1]; go_cell
  have c4 : (w1).cell? ⟨w.heap.size, 4, none⟩ = some (.int .u32 n) := by rw [hw1]; go_cell
  have H1 := h.below hb1
  have HG1 : Hid (G7 rp w vo vs w1 vo vs) := Lib.hid (G7.below hb1)
  have hres : d.call = { d with out := d.out ++ [d.h.reg 10] } := by unfold RunD.call; rw [if_neg (by omega), if_pos hr1]
  rw [hres]
  have c17 := H1.at_.get ((r7_hart h.wf.h.len (by omega)).trans (hlist_reg h.wf.h 17 (by omega)))
  have hr17 : d.h.regs.getD 17 0 = 1 := hr1
  rw [hr17] at c17
  have c10 := H1.at_.get ((r7_hart h.wf.h.len (by omega)).trans (hlist_reg h.wf.h 10 (by omega)))
  obtain ⟨r10, hr10⟩ : ∃ r, r = d.h.reg 10 := ⟨_, rfl⟩
  have hr10' : d.h.regs.getD 10 0 = r10 := hr10.symm
  rw [hr10'] at c10
  rw [← hr10]
  have hu10 : U32 r10 := by rw [hr10]; have := get_u32 h.wf 10; exact this
  obtain ⟨ao, co, hvo⟩ := owns_slice h.out
  have c38 := H1.at_.get ((r7_tail (vm := vm) (vo := vo) (vs := vs) h.wf.h.len 1).trans (show (r7tail d vm vo vs)[1]? = some vo from rfl))
  have f38 := H1.frz 38
  simp only [Nat.zero_add, Nat.reduceAdd] at c17 c10 c38
  have hlt := H1.lt
  have HH1 := Lib.hid H1
  have HVO := Lib.hid hvo
  rw [hvo] at c38 HH1
  have hrp : vo.ownBlock ≠ some rp := fun e => by have := (h.out.lt rp e).1; omega
  rw [hvo] at hrp
  have HRP := Lib.hid hrp
  have HW1 := Lib.hid hw1
  clear h H1 hb1 hw1 hres hr1 hr17 hr10 hr10' hvo hrp
  go_enter Try.func80, Try.ntmps80
  go_upto_region 1 with (fail)
  rw [← HW1.out]
  go_upto_region 23 with (fail)
  have HS : Hid (∀ W, Below w1.heap.size w1 W → W.cell? ⟨rp, 38, none⟩ = some (.slice ao d.out.length co) ∧ W.cell? ⟨rp, 10, none⟩ = some (.int .u32 r10)) := Lib.hid (fun W hW => ⟨(hW.cell (p := ⟨rp, 38, none⟩) hlt).trans c38, (hW.cell (p := ⟨rp, 10, none⟩) hlt).trans c10⟩)
  have hbd : Below w1.heap.size w1 w1.drew := Below.drew (Below.refl _ _)
  have HG1' : Hid (G7 rp w (.slice ao d.out.length co) vs w1 (.slice ao d.out.length co) vs) := Lib.hid (by rw [← HVO.out]; exact HG1.out)
  refine wp_region_held_drew (S := fun W => W.cell? ⟨rp, 10, none⟩ = some (.int .u32 r10)) (by kernel_rfl) (HS.out _ hbd).2 (fun hHeld => ?_)
  refine wpAnyH_take (i := 0) (v := .pointer (some ⟨rp, 0, none⟩)) rfl (by kernel_rfl) (by kernel_rfl) (by kernel_rfl) (fun _ _ _ h => h) (Or.inl ⟨by rfl, ?_⟩) (by assumption) ?_
  · (try simp only [List.getElem_toArray, List.getElem_cons_zero, List.getElem_cons_succ]); intro w hSw; (try dsimp only at hSw); go_simp
  try simp only [List.getElem_toArray, List.getElem_cons_zero, List.getElem_cons_succ, Act.put, List.setIfInBounds_toArray, List.set_cons_zero, List.set_cons_succ]
  refine wpAnyH_take (i := 1) (v := .pointer (some ⟨rp, 0, none⟩)) rfl (by kernel_rfl) (by kernel_rfl) (by kernel_rfl) (fun _ _ _ h => h) (Or.inl ⟨by rfl, ?_⟩) (by assumption) ?_
  · (try simp only [List.getElem_toArray, List.getElem_cons_zero, List.getElem_cons_succ]); intro w hSw; (try dsimp only at hSw); go_simp
  try simp only [List.getElem_toArray, List.getElem_cons_zero, List.getElem_cons_succ, Act.put, List.setIfInBounds_toArray, List.set_cons_zero, List.set_cons_succ]
  refine wpAnyH_take (i := 2) (v := .pointer (some ⟨rp, 0, none⟩)) rfl (by kernel_rfl) (by kernel_rfl) (by kernel_rfl) (fun _ _ _ h => h) (Or.inl ⟨by rfl, ?_⟩) (by assumption) ?_
  · (try simp only [List.getElem_toArray, List.getElem_cons_zero, List.getElem_cons_succ]); intro w hSw; (try dsimp only at hSw); go_simp
  try simp only [List.getElem_toArray, List.getElem_cons_zero, List.getElem_cons_succ, Act.put, List.setIfInBounds_toArray, List.set_cons_zero, List.set_cons_succ]
  refine wpAnyH_take (i := 3) (v := .pointer (some ⟨rp, 0, none⟩)) rfl (by kernel_rfl) (by kernel_rfl) (by kernel_rfl) (fun _ _ _ h => h) (Or.inl ⟨by rfl, ?_⟩) (by assumption) ?_
  · (try simp only [List.getElem_toArray, List.getElem_cons_zero, List.getElem_cons_succ]); intro w hSw; (try dsimp only at hSw); go_simp
  try simp only [List.getElem_toArray, List.getElem_cons_zero, List.getElem_cons_succ, Act.put, List.setIfInBounds_toArray, List.set_cons_zero, List.set_cons_succ]
  refine wpAnyH_take (i := 4) (v := .pointer (some ⟨rp, 38, none⟩)) rfl (by kernel_rfl) (by kernel_rfl) (by kernel_rfl) (fun _ _ _ h => h) (Or.inl ⟨by rfl, ?_⟩) (by assumption) ?_
  · (try simp only [List.getElem_toArray, List.getElem_cons_zero, List.getElem_cons_succ]); intro w hSw; (try dsimp only at hSw); go_simp
  try simp only [List.getElem_toArray, List.getElem_cons_zero, List.getElem_cons_succ, Act.put, List.setIfInBounds_toArray, List.set_cons_zero, List.set_cons_succ]
  refine wpAnyH_take (i := 6) (v := .pointer (some ⟨rp, 0, none⟩)) rfl (by kernel_rfl) (by kernel_rfl) (by kernel_rfl) (fun _ _ _ h => h) (Or.inl ⟨by rfl, ?_⟩) (by assumption) ?_
  · (try simp only [List.getElem_toArray, List.getElem_cons_zero, List.getElem_cons_succ]); intro w hSw; (try dsimp only at hSw); go_simp
  try simp only [List.getElem_toArray, List.getElem_cons_zero, List.getElem_cons_succ, Act.put, List.setIfInBounds_toArray, List.set_cons_zero, List.set_cons_succ]
  refine wpAnyH_take (i := 7) (v := .pointer (some ⟨rp, 0, none⟩)) rfl (by kernel_rfl) (by kernel_rfl) (by kernel_rfl) (fun _ _ _ h => h) (Or.inl ⟨by rfl, ?_⟩) (by assumption) ?_
  · (try simp only [List.getElem_toArray, List.getElem_cons_zero, List.getElem_cons_succ]); intro w hSw; (try dsimp only at hSw); go_simp
  try simp only [List.getElem_toArray, List.getElem_cons_zero, List.getElem_cons_succ, Act.put, List.setIfInBounds_toArray, List.set_cons_zero, List.set_cons_succ]
  refine wpAnyH_take (i := 8) (v := .pointer (some ⟨rp, 0, none⟩)) rfl (by kernel_rfl) (by kernel_rfl) (by kernel_rfl) (fun _ _ _ h => h) (Or.inl ⟨by rfl, ?_⟩) (by assumption) ?_
  · (try simp only [List.getElem_toArray, List.getElem_cons_zero, List.getElem_cons_succ]); intro w hSw; (try dsimp only at hSw); go_simp
  try simp only [List.getElem_toArray, List.getElem_cons_zero, List.getElem_cons_succ, Act.put, List.setIfInBounds_toArray, List.set_cons_zero, List.set_cons_succ]
  refine wpAnyH_take (i := 9) (v := .pointer (some ⟨rp, 0, none⟩)) rfl (by kernel_rfl) (by kernel_rfl) (by kernel_rfl) (fun _ _ _ h => h) (Or.inl ⟨by rfl, ?_⟩) (by assumption) ?_
  · (try simp only [List.getElem_toArray, List.getElem_cons_zero, List.getElem_cons_succ]); intro w hSw; (try dsimp only at hSw); go_simp
  try simp only [List.getElem_toArray, List.getElem_cons_zero, List.getElem_cons_succ, Act.put, List.setIfInBounds_toArray, List.set_cons_zero, List.set_cons_succ]
  refine wpAnyH_take (i := 10) (v := .pointer (some ⟨rp, 0, none⟩)) rfl (by kernel_rfl) (by kernel_rfl) (by kernel_rfl) (fun _ _ _ h => h) (Or.inl ⟨by rfl, ?_⟩) (by assumption) ?_
  · (try simp only [List.getElem_toArray, List.getElem_cons_zero, List.getElem_cons_succ]); intro w hSw; (try dsimp only at hSw); go_simp
  try simp only [List.getElem_toArray, List.getElem_cons_zero, List.getElem_cons_succ, Act.put, List.setIfInBounds_toArray, List.set_cons_zero, List.set_cons_succ]
  refine wpAnyH_take (i := 11) (v := .pointer (some ⟨rp, 10, none⟩)) rfl (by kernel_rfl) (by kernel_rfl) (by kernel_rfl) (fun _ _ _ h => h) (Or.inl ⟨by rfl, ?_⟩) (by assumption) ?_
  · (try simp only [List.getElem_toArray, List.getElem_cons_zero, List.getElem_cons_succ]); intro w hSw; (try dsimp only at hSw); go_simp
  try simp only [List.getElem_toArray, List.getElem_cons_zero, List.getElem_cons_succ, Act.put, List.setIfInBounds_toArray, List.set_cons_zero, List.set_cons_succ]
  refine wpAnyH_take (i := 12) (v := .int .u32 r10) rfl (by kernel_rfl) (by kernel_rfl) (by kernel_rfl) (fun _ _ _ h => h) (Or.inl ⟨by rfl, ?_⟩) (by assumption) ?_
  · (try simp only [List.getElem_toArray, List.getElem_cons_zero, List.getElem_cons_succ]); intro w hSw; (try dsimp only at hSw); go_simp
  try simp only [List.getElem_toArray, List.getElem_cons_zero, List.getElem_cons_succ, Act.put, List.setIfInBounds_toArray, List.set_cons_zero, List.set_cons_succ]
  refine wpAnyH_ready (rs := [5, 13]) (by kernel_rfl) (by simp) ?_
  refine AllReadyH.cons rfl (fun K hK => ?_) (AllReadyH.cons rfl (fun K hK => ?_) AllReadyH.nil)
  · have ld38 := (HS.out _ hbd).1
    go_simp
    refine hK.out _ _ hHeld (fun hHeldL => ?_)
    clear hK K
    clear ld38
    refine wpAnyH_ready (rs := [13]) (by kernel_rfl) (by simp) ?_
    refine AllReadyH.cons rfl (fun K hK => ?_) AllReadyH.nil
    go_simp
    obtain ⟨w2, hw2⟩ : ∃ w2, w2 = (w1.alloc (.cells #[.int .u32 r10] 34)).drew := ⟨_, rfl⟩
    have hb2 : Below w1.heap.size w1 w2 := by rw [hw2]; exact Below.drew (Below.alloc (Below.refl _ _) (Nat.le_refl _) _)
    have hs2 : w2.heap.size = w1.heap.size + 1 := by rw [hw2]; show (w1.alloc _).heap.size = _; simp
    have hn2 : ∀ j u, [Value.int .u32 r10][j]? = some u → w2.cell? ((⟨w1.heap.size, 0, none⟩ : Addr).add j) = some u := by rw [hw2]; exact cell_one_new w1 _ _
    have HW2 := Lib.hid hw2
    rw [← hw2]
    refine hK.out _ _ (HS.out _ hb2).2 (fun hHeld2 => ?_)
    clear hK K hw2
    refine wpAnyH_ready (rs := [14]) (by kernel_rfl) (by simp) ?_
    refine AllReadyH.cons rfl (fun K hK => ?_) AllReadyH.nil
    refine step_append_at (by rfl) _ _ _ (by rfl) (rp + 1) 34 i0 _ 1 4 Try.underlying61 hi hi0 hi1 hi2 rfl (by decide) (.slice ao d.out.length co) d.out.length (d.out.map (Value.int .u32)) (by rfl) (owns_below HH1.out.out hb2) ⟨w1.heap.size, 0, none⟩ 1 1 [.int .u32 r10] (by rfl) rfl hn2 (by intro u hu; rw [List.mem_singleton] at hu; subst hu; rfl) (by unfold maxLen; omega) (by omega) (by omega) ?_
    intro v' w3 hown hgrow hat'
    have HO := Lib.hid (r7_out (by decide) HH1.out hb2 hu10 hown hgrow hat')
    have e38 := (hgrow.cell_far ⟨rp, 38, none⟩ (by show rp < _; omega) (fun e => HRP.out e.symm)).trans (HS.out _ hb2).1
    have e10 := (hgrow.cell_far ⟨rp, 10, none⟩ (by show rp < _; omega) (fun e => HRP.out e.symm)).trans (HS.out _ hb2).2
    have g38 := (hgrow.frozen_far ⟨rp, 38, none⟩ (by show rp < _; omega) (fun e => HRP.out e.symm)).trans ((hb2.frozen (p := ⟨rp, 38, none⟩) hlt).trans f38)
    obtain ⟨a3, c3', rfl⟩ := owns_slice hown
    clear hown hgrow hat' hn2 c0 c1 c2 c3 c4 c10 c17 c38 f38 hHeld hHeld2
    refine hK.out _ _ e10 (fun hHeld3 => ?_)
    clear hK K
    refine wpAnyH_take (i := 15) (v := .pointer (some ⟨rp, 0, none⟩)) rfl (by kernel_rfl) (by kernel_rfl) (by kernel_rfl) (fun _ _ _ h => h) (Or.inl ⟨by rfl, ?_⟩) (by assumption) ?_
    · (try simp only [List.getElem_toArray, List.getElem_cons_zero, List.getElem_cons_succ]); intro w hSw; (try dsimp only at hSw); go_simp
    try simp only [List.getElem_toArray, List.getElem_cons_zero, List.getElem_cons_succ, Act.put, List.setIfInBounds_toArray, List.set_cons_zero, List.set_cons_succ]
    refine wpAnyH_take (i := 16) (v := .pointer (some ⟨rp, 0, none⟩)) rfl (by kernel_rfl) (by kernel_rfl) (by kernel_rfl) (fun _ _ _ h => h) (Or.inl ⟨by rfl, ?_⟩) (by assumption) ?_
    · (try simp only [List.getElem_toArray, List.getElem_cons_zero, List.getElem_cons_succ]); intro w hSw; (try dsimp only at hSw); go_simp
    try simp only [List.getElem_toArray, List.getElem_cons_zero, List.getElem_cons_succ, Act.put, List.setIfInBounds_toArray, List.set_cons_zero, List.set_cons_succ]
    refine wpAnyH_take (i := 17) (v := .pointer (some ⟨rp, 38, none⟩)) rfl (by kernel_rfl) (by kernel_rfl) (by kernel_rfl) (fun _ _ _ h => h) (Or.inl ⟨by rfl, ?_⟩) (by assumption) ?_
    · (try simp only [List.getElem_toArray, List.getElem_cons_zero, List.getElem_cons_succ]); intro w hSw; (try dsimp only at hSw); go_simp
    try simp only [List.getElem_toArray, List.getElem_cons_zero, List.getElem_cons_succ, Act.put, List.setIfInBounds_toArray, List.set_cons_zero, List.set_cons_succ]
    refine wpAnyH_ready (rs := [18]) (by kernel_rfl) (by simp) ?_
    refine AllReadyH.cons rfl (fun K hK => ?_) AllReadyH.nil
    go_simp
    refine hK.out _ _ ((World.cell?_setCell_other _ _ _ _ (by intro e; injection e with _ e2; omega)).trans e10) (fun hHeld4 => ?_)
    clear hK K
    refine wpAnyH_done (by kernel_rfl) ?_ _
    go_wp2_with fail
    rw [HVO.out]
    first
      | exact bodyPost_ret (results_none (by rfl) _ _ _) rfl ⟨rfl, _, _, _, HO.out.1, HG1'.out.trans HO.out.2⟩
      | (go_end0; exact ⟨rfl, _, _, _, HO.out.1, HG1'.out.trans HO.out.2⟩)
  · go_simp
    obtain ⟨w2, hw2⟩ : ∃ w2, w2 = (w1.alloc (.cells #[.int .u32 r10] 34)).drew := ⟨_, rfl⟩
    have hb2 : Below w1.heap.size w1 w2 := by rw [hw2]; exact Below.drew (Below.alloc (Below.refl _ _) (Nat.le_refl _) _)
    have hs2 : w2.heap.size = w1.heap.size + 1 := by rw [hw2]; show (w1.alloc _).heap.size = _; simp
    have hn2 : ∀ j u, [Value.int .u32 r10][j]? = some u → w2.cell? ((⟨w1.heap.size, 0, none⟩ : Addr).add j) = some u := by rw [hw2]; exact cell_one_new w1 _ _
    have HW2 := Lib.hid hw2
    rw [← hw2]
    refine hK.out _ _ (HS.out _ hb2).2 (fun hHeld2 => ?_)
    clear hK K hw2
    refine wpAnyH_ready (rs := [5]) (by kernel_rfl) (by simp) ?_
    refine AllReadyH.cons rfl (fun K hK => ?_) AllReadyH.nil
    have ld38 := (HS.out _ hb2).1
    go_simp
    refine hK.out _ _ (HS.out _ hb2).2 (fun hHeldL => ?_)
    clear hK K ld38
    refine wpAnyH_ready (rs := [14]) (by kernel_rfl) (by simp) ?_
    refine AllReadyH.cons rfl (fun K hK => ?_) AllReadyH.nil
    refine step_append_at (by rfl) _ _ _ (by rfl) (rp + 1) 34 i0 _ 1 4 Try.underlying61 hi hi0 hi1 hi2 rfl (by decide) (.slice ao d.out.length co) d.out.length (d.out.map (Value.int .u32)) (by rfl) (owns_below HH1.out.out hb2) ⟨w1.heap.size, 0, none⟩ 1 1 [.int .u32 r10] (by rfl) rfl hn2 (by intro u hu; rw [List.mem_singleton] at hu; subst hu; rfl) (by unfold maxLen; omega) (by omega) (by omega) ?_
    intro v' w3 hown hgrow hat'
    have HO := Lib.hid (r7_out (by decide) HH1.out hb2 hu10 hown hgrow hat')
    have e38 := (hgrow.cell_far ⟨rp, 38, none⟩ (by show rp < _; omega) (fun e => HRP.out e.symm)).trans (HS.out _ hb2).1
    have e10 := (hgrow.cell_far ⟨rp, 10, none⟩ (by show rp < _; omega) (fun e => HRP.out e.symm)).trans (HS.out _ hb2).2
    have g38 := (hgrow.frozen_far ⟨rp, 38, none⟩ (by show rp < _; omega) (fun e => HRP.out e.symm)).trans ((hb2.frozen (p := ⟨rp, 38, none⟩) hlt).trans f38)
    obtain ⟨a3, c3', rfl⟩ := owns_slice hown
    clear hown hgrow hat' hn2 c0 c1 c2 c3 c4 c10 c17 c38 f38 hHeld hHeld2
    refine hK.out _ _ e10 (fun hHeld3 => ?_)
    clear hK K
    refine wpAnyH_take (i := 15) (v := .pointer (some ⟨rp, 0, none⟩)) rfl (by kernel_rfl) (by kernel_rfl) (by kernel_rfl) (fun _ _ _ h => h) (Or.inl ⟨by rfl, ?_⟩) (by assumption) ?_
    · (try simp only [List.getElem_toArray, List.getElem_cons_zero, List.getElem_cons_succ]); intro w hSw; (try dsimp only at hSw); go_simp
    try simp only [List.getElem_toArray, List.getElem_cons_zero, List.getElem_cons_succ, Act.put, List.setIfInBounds_toArray, List.set_cons_zero, List.set_cons_succ]
    refine wpAnyH_take (i := 16) (v := .pointer (some ⟨rp, 0, none⟩)) rfl (by kernel_rfl) (by kernel_rfl) (by kernel_rfl) (fun _ _ _ h => h) (Or.inl ⟨by rfl, ?_⟩) (by assumption) ?_
    · (try simp only [List.getElem_toArray, List.getElem_cons_zero, List.getElem_cons_succ]); intro w hSw; (try dsimp only at hSw); go_simp
    try simp only [List.getElem_toArray, List.getElem_cons_zero, List.getElem_cons_succ, Act.put, List.setIfInBounds_toArray, List.set_cons_zero, List.set_cons_succ]
    refine wpAnyH_take (i := 17) (v := .pointer (some ⟨rp, 38, none⟩)) rfl (by kernel_rfl) (by kernel_rfl) (by kernel_rfl) (fun _ _ _ h => h) (Or.inl ⟨by rfl, ?_⟩) (by assumption) ?_
    · (try simp only [List.getElem_toArray, List.getElem_cons_zero, List.getElem_cons_succ]); intro w hSw; (try dsimp only at hSw); go_simp
    try simp only [List.getElem_toArray, List.getElem_cons_zero, List.getElem_cons_succ, Act.put, List.setIfInBounds_toArray, List.set_cons_zero, List.set_cons_succ]
    refine wpAnyH_ready (rs := [18]) (by kernel_rfl) (by simp) ?_
    refine AllReadyH.cons rfl (fun K hK => ?_) AllReadyH.nil
    go_simp
    refine hK.out _ _ ((World.cell?_setCell_other _ _ _ _ (by intro e; injection e with _ e2; omega)).trans e10) (fun hHeld4 => ?_)
    clear hK K
    refine wpAnyH_done (by kernel_rfl) ?_ _
    go_wp2_with fail
    rw [HVO.out]
    first
      | exact bodyPost_ret (results_none (by rfl) _ _ _) rfl ⟨rfl, _, _, _, HO.out.1, HG1'.out.trans HO.out.2⟩
      | (go_end0; exact ⟨rfl, _, _, _, HO.out.1, HG1'.out.trans HO.out.2⟩)
end
end Go.Proofs.Ytlfnddmncbkjaab.W
namespace Go.Proofs.Ytlfnddmncbkjaab.Fb
open Go.RowKit
theorem named_cls {op : Int} (h : 0 ≤ namedI op) : (op = 1 ∨ op = 2 ∨ op = 3 ∨ op = 4 ∨ op = 5 ∨ op = 6) ∨ (∃ s, op = 100 + s ∧ 5 ≤ s ∧ s ≤ 10) ∨ (∃ s, op = 200 + s ∧ 11 ≤ s ∧ s ≤ 15) ∨ (∃ s, op = 300 + s ∧ 16 ≤ s ∧ s ≤ 18) ∨ (∃ s, op = 400 + s ∧ 28 ≤ s ∧ s ≤ 45) ∨ (∃ s, op = 500 + s ∧ 28 ≤ s ∧ s ≤ 45) ∨ (∃ s, op = 600 + s ∧ 46 ≤ s ∧ s ≤ 56) := by
  by_cases hk : (op = 1 ∨ op = 3) ∨ op = 2 ∨ op = 4 ∨ (op = 5 ∨ op = 6)
  · left; omega
  rw [namedI_k ⟨fun e => hk (.inl e), fun e => hk (.inr (.inl e)), fun e => hk (.inr (.inr (.inl e))), fun e => hk (.inr (.inr (.inr e)))⟩] at h
  right
  obtain ⟨s, hs⟩ : ∃ s, s = op.tmod 100 := ⟨_, rfl⟩
  obtain ⟨c, hc⟩ : ∃ c, c = op - s := ⟨_, rfl⟩
  rw [← hs, ← hc] at h
  have e : op = c + s := by omega
  unfold namedK at h
  by_cases c1 : c = 100
  · rw [if_pos c1] at h; split at h
    · left; exact ⟨s, by omega, by omega, by omega⟩
    · omega
  rw [if_neg c1] at h
  by_cases c2 : c = 200
  · rw [if_pos c2] at h; split at h
    · right; left; exact ⟨s, by omega, by omega, by omega⟩
    · omega
  rw [if_neg c2] at h
  by_cases c3 : c = 300
  · rw [if_pos c3] at h; split at h
    · right; right; left; exact ⟨s, by omega, by omega, by omega⟩
    · omega
  rw [if_neg c3] at h
  by_cases c4 : c = 400
  · rw [if_pos c4] at h; split at h
    · right; right; right; left; exact ⟨s, by omega, by omega, by omega⟩
    · omega
  rw [if_neg c4] at h
  by_cases c5 : c = 500
  · rw [if_pos c5] at h; split at h
    · right; right; right; right; left; exact ⟨s, by omega, by omega, by omega⟩
    · omega
  rw [if_neg c5] at h
  by_cases c6 : c = 600
  · rw [if_pos c6] at h; split at h
    · right; right; right; right; right; exact ⟨s, by omega, by omega, by omega⟩
    · omega
  rw [if_neg c6] at h
  omega
theorem mayM_named {m : MicD} (h : mayM m = true) : 0 ≤ namedI m.op := by
  unfold mayM at h
  rw [Bool.and_eq_true, Bool.and_eq_true, Bool.and_eq_true, Bool.and_eq_true] at h
  have := h.1.1.1.1
  simp at this
  omega
end Go.Proofs.Ytlfnddmncbkjaab.Fb
namespace Go.Proofs.Ytlfnddmncbkjaab.W
open Go.RowKit Fb
section
variable {rp : Nat} {w : World} {d : RunD} {vm vo vs : Value}
theorem one7_any (h : R7 rp 34 60 w d vm vo vs) (m : MicD) (hm : mayM m = true) (hn : U32 m.n) (steps : Int) (hst : i64ok steps) (hds : 0 ≤ d.steps ∧ d.steps ≤ 100000) (hsl : d.stores.length ≤ 100000) (hol : d.out.length ≤ 100000) :
    Calls Try.prog 80 #[.pointer (some ⟨rp, 0, none⟩), .agg (mlist m).toArray, .int .i64 steps] w fun e w' => e = .returned (.tuple #[]) ∧ ∃ vm' vo' vs', R7 rp 34 60 w' (d.one m steps) vm' vo' vs' ∧ G7 rp w vo vs w' vo' vs' := by
  obtain ⟨r1, r2, r3⟩ := mayM_regs hm
  have hc := named_cls (mayM_named hm)
  obtain ⟨op, kd, ka, kb, n⟩ := m
  dsimp only at r1 r2 r3 hc hn
  obtain ⟨kd, rfl⟩ := Int.eq_ofNat_of_zero_le r1.1
  obtain ⟨ka, rfl⟩ := Int.eq_ofNat_of_zero_le r2.1
  obtain ⟨kb, rfl⟩ := Int.eq_ofNat_of_zero_le r3.1
  have hkd : kd < 36 := by omega
  have hka : ka < 36 := by omega
  have hkb : kb < 36 := by omega
  simp only [mlist]
  rcases hc with (e | e | e | e | e | e) | ⟨s, e, h1, h2⟩ | ⟨s, e, h1, h2⟩ | ⟨s, e, h1, h2⟩ | ⟨s, e, h1, h2⟩ | ⟨s, e, h1, h2⟩ | ⟨s, e, h1, h2⟩
  · by_cases hq : d.steps = steps ∨ d.own = true
    · exact one7_at_stop h op n steps kd ka kb hkd hka hkb hn hst hds hsl e hq
    · exact one7_at_go h op n steps kd ka kb hkd hka hkb hn hst hds hsl e (fun e => hq (.inl e)) (by cases hh : d.own with | false => rfl | true => exact absurd (.inr hh) hq)
  · exact one7_set h op n steps kd ka kb hkd hka hkb hn hst hds hsl e
  · exact one7_go h op n steps kd ka kb hkd hka hkb hn hst hds hsl e
  · exact one7_reg h op n steps kd ka kb hkd hka hkb hn hst hds hsl e
  · subst e
    have hres : d.one ⟨5, kd, ka, kb, n⟩ steps = d.call := by unfold RunD.one; dsimp only; rw [if_neg (by omega), if_neg (by omega), if_neg (by omega), if_neg (by omega), if_neg (by omega), if_pos rfl]
    rw [hres]
    by_cases q0 : d.h.reg 17 = 0
    · exact one7_call0 h n steps kd ka kb q0
    by_cases q1 : d.h.reg 17 = 1
    · exact one7_call1 h n steps kd ka kb q1 hol
    · exact one7_call5 h n steps kd ka kb q0 q1
  · exact one7_brk h op n steps kd ka kb hkd hka hkb hn hst hds hsl e
  · exact one7_if h op n steps kd ka kb hkd hka hkb hn hst hds hsl s e ⟨h1, h2⟩
  · exact one7_load h op n steps kd ka kb hkd hka hkb hn hst hds hsl s e ⟨h1, h2⟩
  · cases hok : mStoreOk d.m s (u32 (d.get ka + n)) with
    | false => exact one7_store_no h op n steps kd ka kb hkd hka hkb hn hst hds hsl s e ⟨h1, h2⟩ hok
    | true => exact one7_store_yes h op n steps kd ka kb hkd hka hkb hn hst hds hsl s e ⟨h1, h2⟩ hok
  · exact one7_alu h op n steps kd ka kb hkd hka hkb hn hst hds hsl s e ⟨h1, h2⟩
  · exact one7_alun h op n steps kd ka kb hkd hka hkb hn hst hds hsl s e ⟨h1, h2⟩
  · exact one7_atom h op n steps kd ka kb hkd hka hkb hn hst hds hsl s e ⟨h1, h2⟩
end
end Go.Proofs.Ytlfnddmncbkjaab.W
