import Derived.Test.YtlfnddmncbkjaaaZMB
import Derived.Test.YtlfnddmncbkjaaaZMA
set_option linter.unusedVariables false
set_option linter.unusedSimpArgs false
set_option maxRecDepth 100000
set_option maxHeartbeats 4000000
namespace Go.Proofs.Ytlfnddmncbkjaaa.W
open Go.RowKit Go.Shelf Fb
attribute [local go_sem] Oper.semAt_some
def UOk (m : Mach) (w0 : World) (x : UndD) : Prop := x.d.was.Wf ∧ Sl w0 x.vb 1 x.d.bytes.length (x.d.bytes.map (Value.int .u8)) ∧ Sl w0 x.vl 2 x.d.lost.length (x.d.lost.flatMap llist) ∧ (i64ok x.d.hart ∧ U32 x.d.frm ∧ Bytes x.d.bytes ∧ ∀ p ∈ x.d.lost, i64ok p.1 ∧ U32 p.2) ∧ fitsU m x.d = true
abbrev UA (m : Mach) (w0 : World) := { p : Nat × UndD // UOk m w0 p.2 }
def uenc {m : Mach} {w0 : World} (p : UA m w0) : Array Value := #[.int .i64 (p.1.1 : Int), .agg (ulist p.1.2).toArray]
def UKp (n₀ Bs : Nat) (A B : World) : Prop := Below n₀ A B ∧ ∀ v, A.cell? ⟨Bs, 0, none⟩ = some v → B.cell? ⟨Bs, 0, none⟩ = some v
theorem back1_in (n : Nat) (hn : 1 ≤ n) (l Bs n₀ : Nat) (ab : Option Addr) (cap : Nat) (m : Mach) (w0 : World) (xs : List UndD) (hxs : ∀ x ∈ xs, UOk m w0 x) (hl : xs.length ≤ 140737488355328) (J Jx : List (UA m w0) → World → Prop)
    (hY : ∀ pre x W, J pre W → pre.length < xs.length → YieldAt Fence.wide (n - 1) Try.prog l (uenc x) W fun e W' =>
      (e = .returned (.bool true) ∧ J (pre ++ [x]) W' ∧ UKp n₀ Bs W W') ∨ (e = .returned (.bool false) ∧ Jx (pre ++ [x]) W'))
    (W : World) (hBs : W.cell? ⟨Bs, 0, none⟩ = some (.slice ab xs.length cap)) (hat : xs ≠ [] → ∃ b off, ab = some ⟨b, off, none⟩ ∧ b < n₀ ∧ ∀ k (h : k < xs.length), At W b (off + k * 41) (ulist xs[k])) (hn0 : n₀ ≤ W.heap.size) (h0 : J [] W) :
    CallsIn Fence.wide n Try.prog 86 #[.func (.yield l) #[] #[], .pointer (some ⟨Bs, 0, none⟩)] W fun e W' => (∃ v, e = .returned v) ∧
      ((∃ ys : List (UA m w0), ys.map (·.1.2) = xs.reverse ∧ J ys W') ∨ (∃ pre, True ∧ Jx pre W')) := by
  refine callsIn_of_wp Try.func86 rfl trivial ?_ rfl
  simp only [Try.ntmps86, List.size_toArray, List.length_cons, List.length_nil, Nat.reduceAdd, Nat.reduceSub, Array.replicate_succ, Array.replicate_zero, List.push_toArray, List.append_toArray, List.nil_append, List.cons_append]
  gi_wp2
  gi_loopw [3] (fun i wr => ∃ (k : Nat) (pre : List (UA m w0)), k ≤ xs.length ∧ i = .int .i64 ((xs.length : Int) - 1 - (k : Int)) ∧ pre.length = k ∧ Hid (pre.map (·.1.2) = xs.reverse.take k ∧ J pre wr ∧ UKp n₀ Bs W wr))
    (fun i _ => (intOf i + 1).toNat)
  case atStart => exact ⟨0, [], Nat.zero_le _, by simp, rfl, Lib.hid ⟨rfl, h0, Below.refl _ _, fun _ h => h⟩⟩
  case round =>
    obtain ⟨k, pre, hk, hi, hpl, HR⟩ := hrel
    have hbs := HR.out.2.2.2 _ hBs
    by_cases hlt : k < xs.length
    · obtain ⟨q, hq⟩ := Int.eq_ofNat_of_zero_le (show 0 ≤ (xs.length : Int) - 1 - (k : Int) by omega)
      rw [hq] at hi
      subst hi
      have hql : q < xs.length := by omega
      obtain ⟨b, off, rfl, hb, hel⟩ := hat (by intro e; rw [e] at hlt; simp at hlt)
      have hatx : At wr b (off + q * 41) (ulist xs[q]).toArray.toList := (hel q hql).of_lt HR.out.2.2.1 hb
      have hx := hxs xs[q] (List.getElem_mem hql)
      have HTK : Hid (xs.reverse.take (k + 1) = xs.reverse.take k ++ [xs[q]]) := Lib.hid (by
        rw [List.take_succ_eq_append_getElem (by rw [List.length_reverse]; exact hlt), List.getElem_reverse]
        congr 2
        congr 1
        omega)
      obtain ⟨x, hxe⟩ : ∃ x, x = xs[q] := ⟨_, rfl⟩
      rw [← hxe] at hatx hx HTK
      obtain ⟨fn, tmps, assign, body, hy, hR⟩ := hY pre ⟨(q, x), hx⟩ wr HR.out.2.1 (by omega)
      have hx41 : (ulist x).toArray.size = 41 := by rw [List.size_toArray, ulist_len hx.1.len]
      have hszx : (Try.prog.info? 109).map (·.size) = some (ulist x).toArray.size := by rw [hx41]; kernel_rfl
      dsimp only [uenc] at hy
      have i0 : (0 : Int) ≤ (q : Int) := by omega
      have i1 : (q : Int) < (xs.length : Int) := by omega
      have HQ := Lib.hid hq
      clear hel hq hxe hat
      gi_wp2_with (first | (refine wpListIn_load_at0 rfl 109 _ rfl b (off + q * 41) rfl (ulist x).toArray _ hatx Try.underlying109 rfl hszx ?_))
      refine hR.mono ?_
      rintro e W3 (⟨rfl, hJ3, hk3⟩ | ⟨rfl, hJx3⟩)
      · gi_wp2
        go_roundw
        case rel => exact ⟨k + 1, pre ++ [⟨(q, x), hx⟩], hlt, by have := HQ.out; congr 1; omega, by simp [hpl], Lib.hid ⟨by rw [List.map_append, HR.out.1, HTK.out]; rfl, hJ3, HR.out.2.2.1.trans hk3.1, fun v h => hk3.2 v (HR.out.2.2.2 v h)⟩⟩
        case measure => (simp [intOf]) <;> omega
      · gi_wp2
        refine bodyPost_ret (results_none rfl _ _ _) rfl ?_
        exact ⟨⟨_, rfl⟩, .inr ⟨_, trivial, hJx3⟩⟩
    · obtain rfl : k = xs.length := by omega
      have hi2 : u3 = .int .i64 (-1) := by rw [hi]; congr 1; omega
      subst hi2
      have HP := Lib.hid (show pre.map (·.1.2) = xs.reverse by rw [HR.out.1, ← List.length_reverse, List.take_length])
      clear hi
      gi_wp2
      go_end0
      exact ⟨⟨_, rfl⟩, .inl ⟨_, HP.out, HR.out.2.1⟩⟩
theorem backward_any (a : Option Addr) (len cap : Nat) (w : World) :
    Calls Try.prog 59 #[.slice a len cap] w fun e w' => e = .returned (.func (.func 86) #[] #[.pointer (some ⟨w.heap.size, 0, none⟩)]) ∧ w' = w.alloc (.cells #[.slice a len cap] 47) := by
  go_enter Try.func59, Try.ntmps59
  go_wp2
  go_ret
  exact ⟨rfl, rfl⟩
theorem back_stops (n : Nat) (hn : 1 ≤ n) (Bs n₀ : Nat) (ab : Option Addr) (cap : Nat) (m : Mach) (w0 : World) (xs : List UndD) (hxs : ∀ x ∈ xs, UOk m w0 x) (hl : xs.length ≤ 140737488355328) (w : World) (hBl : Bs < w.heap.size) (hn0 : n₀ ≤ w.heap.size)
    (hBs : w.cell? ⟨Bs, 0, none⟩ = some (.slice ab xs.length cap)) (hat : xs ≠ [] → ∃ b off, ab = some ⟨b, off, none⟩ ∧ b < n₀ ∧ ∀ k (h : k < xs.length), At w b (off + k * 41) (ulist xs[k])) :
    SeqStopsK Fence.wide n Try.prog 86 #[.pointer (some ⟨Bs, 0, none⟩)] (uenc (m := m) (w0 := w0)) (UKp n₀ Bs) (fun ys => ys.map (·.1.2) = xs.reverse) (fun _ => True) xs.length w := fun l J Jx W hW _ _ hY h0 =>
  back1_in n hn l Bs n₀ ab cap m w0 xs hxs hl J Jx hY W ((hW.cell hBl).trans hBs) (fun hne => by
    obtain ⟨b, off, h1, h2, h3⟩ := hat hne
    exact ⟨b, off, h1, h2, fun k h => (h3 k h).of_lt hW (by omega)⟩) (Nat.le_trans hn0 hW.size) h0
theorem ukp_t {n₀ Bs : Nat} {A B C : World} (h : UKp n₀ Bs A B) (k : UKp n₀ Bs B C) : UKp n₀ Bs A C := ⟨h.1.trans k.1, fun v e => k.2 v (h.2 v e)⟩
theorem ukp_b {n₀ Bs : Nat} {w : World} (hn : n₀ ≤ w.heap.size) (W : World) (l : Nat) (o o' : Obj) (hl : w.heap.size ≤ l) (h : W.heap[l]? = some o) (hc : o.isCells = false) (hw : o.isWalk = false) : UKp n₀ Bs W (W.putObj l o') :=
  ⟨belowK_b hn W l o o' hl h hc hw, fun v e => cell_kept e (grownBy_putObj' W l o') (fun r e2 => by cases e2; exact ⟨o, h, hc⟩)⟩
end Go.Proofs.Ytlfnddmncbkjaaa.W
