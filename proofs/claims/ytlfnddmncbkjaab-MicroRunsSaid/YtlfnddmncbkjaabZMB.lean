/- Small steps: plain. No program in sight. -/
import Derived.Test.YtlfnddmncbkjaabZMA
import Derived.Test.YtlfnddmncbkjaabZFbEnc
import Derived.Test.YtlfnddmncbkjaabZFbEnc3
import Derived.Deep.MidRow
import Derived.StillTailTactics
namespace Go.Proofs.Ytlfnddmncbkjaab.Fb
set_option linter.unusedVariables false
set_option linter.unusedSimpArgs false
open Go.RowKit
structure MicD where
  op : Int
  d : Int
  a : Int
  b : Int
  n : Int
deriving DecidableEq
def mlist (m : MicD) : List Value := [.int .i64 m.op, .int .i64 m.d, .int .i64 m.a, .int .i64 m.b, .int .u32 m.n]
theorem mlist_one (m : MicD) : ∀ u ∈ mlist m, u.oneCell' = true := by
  intro u hu
  simp only [mlist, List.mem_cons, List.not_mem_nil, or_false] at hu
  rcases hu with rfl | rfl | rfl | rfl | rfl <;> rfl
/-- which of D, A, B, N (1, 2, 4, 8) a small step has; below 0: there is none such -/
def namedI (op : Int) : Int :=
  if op = 1 ∨ op = 3 then 8 else if op = 2 then 9 else if op = 4 then 10 else if op = 5 ∨ op = 6 then 0
  else if op - op.tmod 100 = 100 then (if 5 ≤ op.tmod 100 ∧ op.tmod 100 ≤ 10 then 14 else -1)
  else if op - op.tmod 100 = 200 then (if 11 ≤ op.tmod 100 ∧ op.tmod 100 ≤ 15 then 11 else -1)
  else if op - op.tmod 100 = 300 then (if 16 ≤ op.tmod 100 ∧ op.tmod 100 ≤ 18 then 14 else -1)
  else if op - op.tmod 100 = 400 then (if 28 ≤ op.tmod 100 ∧ op.tmod 100 ≤ 45 then 7 else -1)
  else if op - op.tmod 100 = 500 then (if 28 ≤ op.tmod 100 ∧ op.tmod 100 ≤ 45 then 11 else -1)
  else if op - op.tmod 100 = 600 then (if 46 ≤ op.tmod 100 ∧ op.tmod 100 ≤ 56 then 7 else -1)
  else -1
/-- a register that a small step has, or has not -/
def regOk (has : Bool) (r : Int) : Bool := !(!has && r != 0) && decide (0 ≤ r) && decide (r < 36)
def hasB1 (k : Int) : Bool := decide (k.tmod 2 = 1)
def mayM (m : MicD) : Bool :=
  !(decide (namedI m.op < 0)) && !(decide (namedI m.op < 8) && m.n != 0) && regOk (decide ((namedI m.op).tmod 2 = 1)) m.d && regOk (decide (((namedI m.op).tdiv 2).tmod 2 = 1)) m.a && regOk (decide (((namedI m.op).tdiv 4).tmod 2 = 1)) m.b
def mayL (l : List MicD) : Bool := decide (l.length ≤ 200) && l.all mayM
/-- operations of instructions with a number -/
def numOp (op : Int) : Int := if op = 19 then 28 else if op = 20 then 31 else if op = 21 then 32 else if op = 22 then 33 else if op = 23 then 36 else if op = 24 then 37 else if op = 25 then 30 else if op = 26 then 34 else 35
def numM (op rd rs1 n : Int) : List MicD :=
  if rd = 0 then []
  else if rs1 = 0 ∧ (op = 28 ∨ op = 36 ∨ op = 33) then [⟨2, rd, 0, 0, n⟩]
  else if rs1 = 0 ∧ (op = 37 ∨ op = 30 ∨ op = 34 ∨ op = 35) then [⟨2, rd, 0, 0, 0⟩]
  else [⟨500 + op, rd, rs1, 0, n⟩]
def u32 (x : Int) : Int := x % 4294967296
/-- the small steps of an instruction, behind the one that begins it -/
def bodyM (i : InsD) (pc : Int) : List MicD :=
  if i.op = 1 then [⟨2, i.rd, 0, 0, u32 i.imm⟩]
  else if i.op = 2 then [⟨2, i.rd, 0, 0, u32 (pc + u32 i.imm)⟩]
  else if i.op = 3 then [⟨2, i.rd, 0, 0, u32 (pc + 4)⟩, ⟨3, 0, 0, 0, u32 (pc + u32 i.imm)⟩]
  else if i.op = 4 then [⟨528, 32, i.rs1, 0, u32 i.imm⟩, ⟨2, i.rd, 0, 0, u32 (pc + 4)⟩, ⟨4, 0, 32, 0, 0⟩]
  else if i.op ≤ 10 then [⟨100 + i.op, 0, i.rs1, i.rs2, u32 (pc + u32 i.imm)⟩]
  else if i.op ≤ 15 then [⟨200 + i.op, i.rd, i.rs1, 0, u32 i.imm⟩]
  else if i.op ≤ 18 then [⟨300 + i.op, 0, i.rs1, i.rs2, u32 i.imm⟩]
  else if i.op ≤ 27 then numM (numOp i.op) i.rd i.rs1 (u32 i.imm)
  else if i.op ≤ 45 then (if i.rd = 0 then [] else [⟨400 + i.op, i.rd, i.rs1, i.rs2, 0⟩])
  else if i.op ≤ 56 then [⟨600 + i.op, i.rd, i.rs1, i.rs2, 0⟩]
  else if i.op = 58 then [⟨5, 0, 0, 0, 0⟩]
  else if i.op = 59 then [⟨6, 0, 0, 0, 0⟩]
  else []
def insM (i : InsD) (pc : Int) : List MicD := ⟨1, 0, 0, 0, pc⟩ :: bodyM i pc
/-- the small steps of instructions that lie from the k-th place on -/
def rowM (pc : Int) : Nat → List InsD → List MicD
  | _, [] => []
  | k, i :: r => insM i (u32 (pc + u32 (4 * (k : Int)))) ++ rowM pc (k + 1) r
def mkM (pc : Int) (l : List InsD) : List MicD := if 16 < l.length ∨ l.all isS = false then [] else rowM pc 0 l
theorem numM_len (op rd rs1 n : Int) : (numM op rd rs1 n).length ≤ 3 := by
  unfold numM
  by_cases c1 : rd = 0
  · rw [if_pos c1]; decide
  rw [if_neg c1]
  by_cases c2 : rs1 = 0 ∧ (op = 28 ∨ op = 36 ∨ op = 33)
  · rw [if_pos c2]; simp
  rw [if_neg c2]
  by_cases c3 : rs1 = 0 ∧ (op = 37 ∨ op = 30 ∨ op = 34 ∨ op = 35)
  · rw [if_pos c3]; simp
  rw [if_neg c3]; simp
theorem bodyM_len (i : InsD) (pc : Int) : (bodyM i pc).length ≤ 3 := by
  unfold bodyM
  by_cases c0 : i.op = 1
  · rw [if_pos c0]; simp
  rw [if_neg c0]
  by_cases c1 : i.op = 2
  · rw [if_pos c1]; simp
  rw [if_neg c1]
  by_cases c2 : i.op = 3
  · rw [if_pos c2]; simp
  rw [if_neg c2]
  by_cases c3 : i.op = 4
  · rw [if_pos c3]; simp
  rw [if_neg c3]
  by_cases c4 : i.op ≤ 10
  · rw [if_pos c4]; simp
  rw [if_neg c4]
  by_cases c5 : i.op ≤ 15
  · rw [if_pos c5]; simp
  rw [if_neg c5]
  by_cases c6 : i.op ≤ 18
  · rw [if_pos c6]; simp
  rw [if_neg c6]
  by_cases d1 : i.op ≤ 27
  · rw [if_pos d1]; exact numM_len _ _ _ _
  rw [if_neg d1]
  by_cases d2 : i.op ≤ 45
  · rw [if_pos d2]
    by_cases d3 : i.rd = 0
    · rw [if_pos d3]; decide
    · rw [if_neg d3]; simp
  rw [if_neg d2]
  by_cases d4 : i.op ≤ 56
  · rw [if_pos d4]; simp
  rw [if_neg d4]
  by_cases d5 : i.op = 58
  · rw [if_pos d5]; simp
  rw [if_neg d5]
  by_cases d6 : i.op = 59
  · rw [if_pos d6]; simp
  rw [if_neg d6]; decide
theorem rowM_len (pc : Int) : ∀ (l : List InsD) (k : Nat), (rowM pc k l).length ≤ 4 * l.length
  | [], _ => Nat.zero_le _
  | i :: r, k => by
    have := rowM_len pc r (k + 1)
    have h2 := bodyM_len i (u32 (pc + u32 (4 * (k : Int))))
    simp only [rowM, insM, List.length_append, List.length_cons]
    omega
theorem mkM_len (pc : Int) (l : List InsD) : (mkM pc l).length ≤ 4 * l.length := by
  unfold mkM; split
  · simp
  · exact rowM_len pc l 0
theorem isS_regs {i : InsD} (h : isS i = true) : (1 ≤ i.op ∧ i.op ≤ 59) ∧ (0 ≤ i.rd ∧ i.rd ≤ 31) ∧ (0 ≤ i.rs1 ∧ i.rs1 ≤ 31) ∧ (0 ≤ i.rs2 ∧ i.rs2 ≤ 31) := by
  unfold isS at h
  rw [Bool.and_eq_true] at h
  have := of_decide_eq_true h.1
  omega
theorem regOk_has {r : Int} (h : 0 ≤ r ∧ r < 36) : regOk true r = true := by simp [regOk, h]
theorem regOk_zero (b : Bool) : regOk b 0 = true := by cases b <;> rfl
theorem mayM_has {m : MicD} (k : Int) (hk : namedI m.op = k) (h0 : 0 ≤ k) (hn : k < 8 → m.n = 0) (hd : regOk (decide (k.tmod 2 = 1)) m.d = true) (ha : regOk (decide ((k.tdiv 2).tmod 2 = 1)) m.a = true) (hb : regOk (decide ((k.tdiv 4).tmod 2 = 1)) m.b = true) : mayM m = true := by
  unfold mayM
  rw [hk, hd, ha, hb]
  have h1 : decide (k < 0) = false := by simp; omega
  rw [h1]
  by_cases h8 : k < 8
  · rw [hn h8]; simp
  · have : decide (k < 8) = false := by simp; omega
    rw [this]; simp
theorem named_at (c s : Int) (hc : c = 100 ∨ c = 200 ∨ c = 300 ∨ c = 400 ∨ c = 500 ∨ c = 600) (h0 : 0 ≤ s) (h1 : s < 100) : (c + s).tmod 100 = s ∧ c + s - (c + s).tmod 100 = c := by
  have : (c + s).tmod 100 = s := by
    rw [Int.tmod_eq_emod_of_nonneg (by omega)]; omega
  omega
theorem named_if {s : Int} (h : 5 ≤ s ∧ s ≤ 10) : namedI (100 + s) = 14 := by
  obtain ⟨h1, h2⟩ := named_at 100 s (by omega) (by omega) (by omega)
  unfold namedI; rw [h2, h1]; repeat' split
  all_goals (first | rfl | omega)
theorem named_load {s : Int} (h : 11 ≤ s ∧ s ≤ 15) : namedI (200 + s) = 11 := by
  obtain ⟨h1, h2⟩ := named_at 200 s (by omega) (by omega) (by omega)
  unfold namedI; rw [h2, h1]; repeat' split
  all_goals (first | rfl | omega)
theorem named_store {s : Int} (h : 16 ≤ s ∧ s ≤ 18) : namedI (300 + s) = 14 := by
  obtain ⟨h1, h2⟩ := named_at 300 s (by omega) (by omega) (by omega)
  unfold namedI; rw [h2, h1]; repeat' split
  all_goals (first | rfl | omega)
theorem named_alu {s : Int} (h : 28 ≤ s ∧ s ≤ 45) : namedI (400 + s) = 7 := by
  obtain ⟨h1, h2⟩ := named_at 400 s (by omega) (by omega) (by omega)
  unfold namedI; rw [h2, h1]; repeat' split
  all_goals (first | rfl | omega)
theorem named_alun {s : Int} (h : 28 ≤ s ∧ s ≤ 45) : namedI (500 + s) = 11 := by
  obtain ⟨h1, h2⟩ := named_at 500 s (by omega) (by omega) (by omega)
  unfold namedI; rw [h2, h1]; repeat' split
  all_goals (first | rfl | omega)
theorem named_atom {s : Int} (h : 46 ≤ s ∧ s ≤ 56) : namedI (600 + s) = 7 := by
  obtain ⟨h1, h2⟩ := named_at 600 s (by omega) (by omega) (by omega)
  unfold namedI; rw [h2, h1]; repeat' split
  all_goals (first | rfl | omega)
theorem numOp_in (op : Int) : 28 ≤ numOp op ∧ numOp op ≤ 45 := by
  unfold numOp; repeat' split
  all_goals omega
theorem may_set {r n : Int} (h : 0 ≤ r ∧ r < 36) : mayM ⟨2, r, 0, 0, n⟩ = true := mayM_has 9 rfl (by omega) (by omega) (regOk_has h) (regOk_zero _) (regOk_zero _)
theorem may_alun {s d a n : Int} (h : 28 ≤ s ∧ s ≤ 45) (hd : 0 ≤ d ∧ d < 36) (ha : 0 ≤ a ∧ a < 36) : mayM ⟨500 + s, d, a, 0, n⟩ = true := mayM_has 11 (named_alun h) (by omega) (by omega) (regOk_has hd) (regOk_has ha) (regOk_zero _)
theorem bodyM_may {i : InsD} (h : isS i = true) (pc : Int) : ∀ m ∈ bodyM i pc, mayM m = true := by
  obtain ⟨h1, h2, h3, h4⟩ := isS_regs h
  clear h
  intro m hm
  unfold bodyM at hm
  by_cases c1 : i.op = 1
  · rw [if_pos c1] at hm
    rw [List.mem_singleton] at hm; subst hm
    exact may_set (by omega)
  rw [if_neg c1] at hm
  by_cases c2 : i.op = 2
  · rw [if_pos c2] at hm
    rw [List.mem_singleton] at hm; subst hm
    exact may_set (by omega)
  rw [if_neg c2] at hm
  by_cases c3 : i.op = 3
  · rw [if_pos c3] at hm
    simp only [List.mem_cons, List.not_mem_nil, or_false] at hm
    rcases hm with rfl | rfl
    · exact may_set (by omega)
    · exact mayM_has 8 rfl (by omega) (by omega) (regOk_zero _) (regOk_zero _) (regOk_zero _)
  rw [if_neg c3] at hm
  by_cases c4 : i.op = 4
  · rw [if_pos c4] at hm
    simp only [List.mem_cons, List.not_mem_nil, or_false] at hm
    rcases hm with rfl | rfl | rfl
    · exact may_alun (s := 28) (by omega) (by omega) (by omega)
    · exact may_set (by omega)
    · exact mayM_has 10 rfl (by omega) (by omega) (regOk_zero _) (regOk_has (by dsimp only; omega)) (regOk_zero _)
  rw [if_neg c4] at hm
  by_cases c5 : i.op ≤ 10
  · rw [if_pos c5] at hm
    rw [List.mem_singleton] at hm; subst hm
    exact mayM_has 14 (named_if (by omega)) (by omega) (by omega) (regOk_zero _) (regOk_has (by dsimp only; omega)) (regOk_has (by dsimp only; omega))
  rw [if_neg c5] at hm
  by_cases c6 : i.op ≤ 15
  · rw [if_pos c6] at hm
    rw [List.mem_singleton] at hm; subst hm
    exact mayM_has 11 (named_load (by omega)) (by omega) (by omega) (regOk_has (by dsimp only; omega)) (regOk_has (by dsimp only; omega)) (regOk_zero _)
  rw [if_neg c6] at hm
  by_cases c7 : i.op ≤ 18
  · rw [if_pos c7] at hm
    rw [List.mem_singleton] at hm; subst hm
    exact mayM_has 14 (named_store (by omega)) (by omega) (by omega) (regOk_zero _) (regOk_has (by dsimp only; omega)) (regOk_has (by dsimp only; omega))
  rw [if_neg c7] at hm
  by_cases c8 : i.op ≤ 27
  · rw [if_pos c8] at hm
    have hn := numOp_in i.op
    unfold numM at hm
    by_cases d1 : i.rd = 0
    · rw [if_pos d1] at hm; cases hm
    rw [if_neg d1] at hm
    generalize numOp i.op = q at hn hm
    by_cases d2 : i.rs1 = 0 ∧ (q = 28 ∨ q = 36 ∨ q = 33)
    · rw [if_pos d2] at hm; rw [List.mem_singleton] at hm; subst hm; exact may_set (by omega)
    rw [if_neg d2] at hm
    by_cases d3 : i.rs1 = 0 ∧ (q = 37 ∨ q = 30 ∨ q = 34 ∨ q = 35)
    · rw [if_pos d3] at hm; rw [List.mem_singleton] at hm; subst hm; exact may_set (by omega)
    rw [if_neg d3] at hm
    rw [List.mem_singleton] at hm; subst hm
    exact may_alun hn (by omega) (by omega)
  rw [if_neg c8] at hm
  by_cases c9 : i.op ≤ 45
  · rw [if_pos c9] at hm
    by_cases d1 : i.rd = 0
    · rw [if_pos d1] at hm; cases hm
    rw [if_neg d1] at hm
    rw [List.mem_singleton] at hm; subst hm
    exact mayM_has 7 (named_alu (by omega)) (by omega) (fun _ => rfl) (regOk_has (by dsimp only; omega)) (regOk_has (by dsimp only; omega)) (regOk_has (by dsimp only; omega))
  rw [if_neg c9] at hm
  by_cases c10 : i.op ≤ 56
  · rw [if_pos c10] at hm
    rw [List.mem_singleton] at hm; subst hm
    exact mayM_has 7 (named_atom (by omega)) (by omega) (fun _ => rfl) (regOk_has (by dsimp only; omega)) (regOk_has (by dsimp only; omega)) (regOk_has (by dsimp only; omega))
  rw [if_neg c10] at hm
  by_cases c11 : i.op = 58
  · rw [if_pos c11] at hm
    rw [List.mem_singleton] at hm; subst hm
    rfl
  rw [if_neg c11] at hm
  by_cases c12 : i.op = 59
  · rw [if_pos c12] at hm
    rw [List.mem_singleton] at hm; subst hm
    rfl
  rw [if_neg c12] at hm
  cases hm
theorem rowM_may (pc : Int) : ∀ (l : List InsD) (k : Nat), l.all isS = true → (rowM pc k l).all mayM = true
  | [], _, _ => rfl
  | i :: r, k, h => by
    simp only [List.all_cons, Bool.and_eq_true] at h
    simp only [rowM, insM, List.all_append, List.all_cons, Bool.and_eq_true]
    exact ⟨⟨rfl, List.all_eq_true.2 (bodyM_may h.1 _)⟩, rowM_may pc r (k + 1) h.2⟩
theorem mkM_may (pc : Int) (l : List InsD) : mayL (mkM pc l) = true := by
  have h := mkM_len pc l
  unfold mayL
  rw [Bool.and_eq_true, decide_eq_true_eq]
  unfold mkM at h ⊢
  split
  · exact ⟨by simp, rfl⟩
  · rename_i hc
    rw [if_neg hc] at h
    have hl : ¬ 16 < l.length := fun e => hc (.inl e)
    have ha : l.all isS = true := by
      cases e : l.all isS
      · exact absurd (.inr e) hc
      · rfl
    exact ⟨by omega, rowM_may pc l 0 ha⟩
end Go.Proofs.Ytlfnddmncbkjaab.Fb

/- Small steps that were made may be. No program in sight. -/
namespace Go.Proofs.Ytlfnddmncbkjaab.Fb
set_option linter.unusedVariables false
set_option linter.unusedSimpArgs false
open Go.RowKit
structure MicD.Ok (m : MicD) : Prop where
  op : -9223372036854775808 ≤ m.op ∧ m.op ≤ 9223372036854775807
  d : -9223372036854775808 ≤ m.d ∧ m.d ≤ 9223372036854775807
  a : -9223372036854775808 ≤ m.a ∧ m.a ≤ 9223372036854775807
  b : -9223372036854775808 ≤ m.b ∧ m.b ≤ 9223372036854775807
  n : U32 m.n
theorem u32_ok (x : Int) : U32 (u32 x) := by unfold u32; exact ⟨by omega, by omega⟩
theorem u32_0 : U32 0 := ⟨by omega, by omega⟩
theorem bodyM_opn {i : InsD} (h : isS i = true) (pc : Int) : ∀ m ∈ bodyM i pc, (1 ≤ m.op ∧ m.op ≤ 656) ∧ U32 m.n := by
  obtain ⟨h1, -⟩ := isS_regs h
  clear h
  intro m hm
  unfold bodyM at hm
  by_cases c1 : i.op = 1
  · rw [if_pos c1] at hm
    rw [List.mem_singleton] at hm; subst hm
    exact ⟨by dsimp only; omega, u32_ok _⟩
  rw [if_neg c1] at hm
  by_cases c2 : i.op = 2
  · rw [if_pos c2] at hm
    rw [List.mem_singleton] at hm; subst hm
    exact ⟨by dsimp only; omega, u32_ok _⟩
  rw [if_neg c2] at hm
  by_cases c3 : i.op = 3
  · rw [if_pos c3] at hm
    simp only [List.mem_cons, List.not_mem_nil, or_false] at hm
    rcases hm with rfl | rfl
    · exact ⟨by dsimp only; omega, u32_ok _⟩
    · exact ⟨by dsimp only; omega, u32_ok _⟩
  rw [if_neg c3] at hm
  by_cases c4 : i.op = 4
  · rw [if_pos c4] at hm
    simp only [List.mem_cons, List.not_mem_nil, or_false] at hm
    rcases hm with rfl | rfl | rfl
    · exact ⟨by dsimp only; omega, u32_ok _⟩
    · exact ⟨by dsimp only; omega, u32_ok _⟩
    · exact ⟨by dsimp only; omega, u32_0⟩
  rw [if_neg c4] at hm
  by_cases c5 : i.op ≤ 10
  · rw [if_pos c5] at hm
    rw [List.mem_singleton] at hm; subst hm
    exact ⟨by dsimp only; omega, u32_ok _⟩
  rw [if_neg c5] at hm
  by_cases c6 : i.op ≤ 15
  · rw [if_pos c6] at hm
    rw [List.mem_singleton] at hm; subst hm
    exact ⟨by dsimp only; omega, u32_ok _⟩
  rw [if_neg c6] at hm
  by_cases c7 : i.op ≤ 18
  · rw [if_pos c7] at hm
    rw [List.mem_singleton] at hm; subst hm
    exact ⟨by dsimp only; omega, u32_ok _⟩
  rw [if_neg c7] at hm
  by_cases c8 : i.op ≤ 27
  · rw [if_pos c8] at hm
    have hn := numOp_in i.op
    unfold numM at hm
    by_cases d1 : i.rd = 0
    · rw [if_pos d1] at hm; cases hm
    rw [if_neg d1] at hm
    generalize numOp i.op = q at hn hm
    by_cases d2 : i.rs1 = 0 ∧ (q = 28 ∨ q = 36 ∨ q = 33)
    · rw [if_pos d2] at hm; rw [List.mem_singleton] at hm; subst hm; exact ⟨by dsimp only; omega, u32_ok _⟩
    rw [if_neg d2] at hm
    by_cases d3 : i.rs1 = 0 ∧ (q = 37 ∨ q = 30 ∨ q = 34 ∨ q = 35)
    · rw [if_pos d3] at hm; rw [List.mem_singleton] at hm; subst hm; exact ⟨by dsimp only; omega, u32_0⟩
    rw [if_neg d3] at hm
    rw [List.mem_singleton] at hm; subst hm
    exact ⟨by dsimp only; omega, u32_ok _⟩
  rw [if_neg c8] at hm
  by_cases c9 : i.op ≤ 45
  · rw [if_pos c9] at hm
    by_cases d1 : i.rd = 0
    · rw [if_pos d1] at hm; cases hm
    rw [if_neg d1] at hm
    rw [List.mem_singleton] at hm; subst hm
    exact ⟨by dsimp only; omega, u32_0⟩
  rw [if_neg c9] at hm
  by_cases c10 : i.op ≤ 56
  · rw [if_pos c10] at hm
    rw [List.mem_singleton] at hm; subst hm
    exact ⟨by dsimp only; omega, u32_0⟩
  rw [if_neg c10] at hm
  by_cases c11 : i.op = 58
  · rw [if_pos c11] at hm
    rw [List.mem_singleton] at hm; subst hm
    exact ⟨by dsimp only; omega, u32_0⟩
  rw [if_neg c11] at hm
  by_cases c12 : i.op = 59
  · rw [if_pos c12] at hm
    rw [List.mem_singleton] at hm; subst hm
    exact ⟨by dsimp only; omega, u32_0⟩
  rw [if_neg c12] at hm
  cases hm
theorem regOk_in {b : Bool} {r : Int} (h : regOk b r = true) : 0 ≤ r ∧ r < 36 := by
  unfold regOk at h
  simp at h
  omega
theorem mayM_regs {m : MicD} (h : mayM m = true) : (0 ≤ m.d ∧ m.d < 36) ∧ (0 ≤ m.a ∧ m.a < 36) ∧ (0 ≤ m.b ∧ m.b < 36) := by
  unfold mayM at h
  rw [Bool.and_eq_true, Bool.and_eq_true, Bool.and_eq_true] at h
  exact ⟨regOk_in h.1.1.2, regOk_in h.1.2, regOk_in h.2⟩
theorem rowM_opn (pc : Int) : ∀ (l : List InsD) (k : Nat), l.all isS = true → ∀ m ∈ rowM pc k l, (1 ≤ m.op ∧ m.op ≤ 656) ∧ U32 m.n
  | [], _, _, m, hm => by cases hm
  | i :: r, k, h, m, hm => by
    simp only [List.all_cons, Bool.and_eq_true] at h
    simp only [rowM, insM, List.mem_append, List.mem_cons] at hm
    rcases hm with (hm | hm) | hm
    · subst hm; exact ⟨by dsimp only; omega, u32_ok _⟩
    · exact bodyM_opn h.1 _ m hm
    · exact rowM_opn pc r (k + 1) h.2 m hm
theorem mkM_ok (pc : Int) (l : List InsD) : ∀ m ∈ mkM pc l, m.Ok := fun m hm => by
  have h1 := mkM_may pc l
  unfold mayL at h1
  rw [Bool.and_eq_true, List.all_eq_true] at h1
  have h2 := mayM_regs (h1.2 m hm)
  have h3 : (1 ≤ m.op ∧ m.op ≤ 656) ∧ U32 m.n := by
    unfold mkM at hm
    split at hm
    · cases hm
    · rename_i hc
      have ha : l.all isS = true := by
        cases e : l.all isS
        · exact absurd (.inr e) hc
        · rfl
      exact rowM_opn pc l 0 ha m hm
  exact ⟨by omega, by omega, by omega, by omega, h3.2⟩
theorem rowS_is (l : List Int) : ∀ n pc, ∀ i ∈ rowS l n pc, isS i = true ∧ I32 i.imm
  | 0, _, i, hi => by cases hi
  | n + 1, pc, i, hi => by
    unfold rowS at hi
    split at hi
    · cases hd : dec (mLoad l 13 pc) with
      | none => rw [hd] at hi; cases hi
      | some x =>
        rw [hd] at hi
        dsimp only at hi
        rcases List.mem_cons.1 hi with rfl | hi
        · exact dec_is _ _ hd
        · split at hi
          · cases hi
          · exact rowS_is l n _ i hi
    · cases hi
theorem makeS_is (l : List Int) (pc : Int) : ∀ i ∈ (makeS l pc).2, isS i = true ∧ I32 i.imm := fun i hi => by
  unfold makeS at hi
  split at hi
  · cases hi
  · exact rowS_is l 16 pc i hi
end Go.Proofs.Ytlfnddmncbkjaab.Fb

/- A step as data: what it keeps. No program in sight. -/
namespace Go.Proofs.Ytlfnddmncbkjaab.Fb
set_option linter.unusedVariables false
set_option linter.unusedSimpArgs false
open Go.RowKit

theorem mLoad_u (l : List Int) (op pc : Int) (hop : 11 ≤ op ∧ op ≤ 15) (hpc : U32 pc) (hb : ∀ i, 0 ≤ l.getD i 0 ∧ l.getD i 0 < 256) : U32 (mLoad l op pc) := by
  by_cases h : mLoadOk l op pc = true
  · obtain ⟨k, rfl⟩ := Int.eq_ofNat_of_zero_le hpc.1
    have h0 := hb k
    have h1 := hb (k + 1)
    have h2 := hb (k + 2)
    have h3 := hb (k + 3)
    have ho : op = 11 ∨ op = 12 ∨ op = 13 ∨ op = 14 ∨ op = 15 := by omega
    rcases ho with rfl | rfl | rfl | rfl | rfl
    · rw [mLoad_11 h]; exact mod_lo _
    · rw [mLoad_12 h]; exact mod_lo _
    · rw [mLoad_13 h]; unfold U32; omega
    · rw [mLoad_14 h]; unfold U32; omega
    · rw [mLoad_15 h]; unfold U32; omega
  · unfold mLoad; rw [if_neg h]; unfold U32; omega
theorem reg_u {h : Hart} (wf : h.Wf) (r : Int) : U32 (h.reg r) := by
  unfold Hart.reg
  by_cases hr : r.toNat < h.regs.length
  · rw [List.getD, List.getElem?_eq_getElem hr]; exact wf.regs _ (List.getElem_mem hr)
  · rw [List.getD, List.getElem?_eq_none (by omega)]; show U32 0; unfold U32; omega
theorem CoreD.Wf.set {d : CoreD} (wf : d.Wf) (r x : Int) (hx : U32 x) : (d.set r x).Wf := by
  refine ⟨?_, wf.m, wf.out, wf.fr, wf.tw, wf.mlen, wf.olen⟩
  show (d.h.setReg r x).Wf
  unfold Hart.setReg
  split
  · refine ⟨by simp [wf.h.len], fun y hy => ?_, wf.h.pc, wf.h.heldAt, wf.h.state, wf.h.cause⟩
    rcases List.mem_or_eq_of_mem_set hy with h | rfl
    · exact wf.h.regs _ h
    · exact hx
  · exact wf.h
theorem CoreD.Wf.setPc {d : CoreD} (wf : d.Wf) (x : Int) (hx : U32 x) : (d.setPc x).Wf :=
  ⟨⟨wf.h.len, wf.h.regs, hx, wf.h.heldAt, wf.h.state, wf.h.cause⟩, wf.m, wf.out, wf.fr, wf.tw, wf.mlen, wf.olen⟩
theorem CoreD.Wf.trap {d : CoreD} (wf : d.Wf) (c : Int) (hc : 1 ≤ c ∧ c ≤ 6) : (d.trap c).Wf :=
  ⟨⟨wf.h.len, wf.h.regs, wf.h.pc, wf.h.heldAt, ⟨(by decide : (-9223372036854775808 : Int) ≤ 2), (by decide : (2 : Int) ≤ 9223372036854775807)⟩, by show _ ≤ c ∧ c ≤ _; omega⟩, wf.m, wf.out, wf.fr, wf.tw, wf.mlen, wf.olen⟩
theorem CoreD.Wf.hold {d : CoreD} (wf : d.Wf) (b : Bool) (x : Int) (hx : U32 x) : (d.hold b x).Wf :=
  ⟨⟨wf.h.len, wf.h.regs, wf.h.pc, hx, wf.h.state, wf.h.cause⟩, wf.m, wf.out, wf.fr, wf.tw, wf.mlen, wf.olen⟩
theorem lay_bytes {l : List Int} (hb : Bytes l) (at_ w : Int) : ∀ m, Bytes (lay l at_ w m)
  | 0 => hb
  | m + 1 => fun x hx => by
    rcases List.mem_or_eq_of_mem_set hx with h | rfl
    · exact lay_bytes hb at_ w m x h
    · omega
theorem CoreD.Wf.put {d : CoreD} (wf : d.Wf) (op at_ x : Int) (ha : U32 at_) : (d.put op at_ x).Wf := by
  unfold CoreD.put
  split
  · rename_i hok
    have e : mStore d.m op at_ x = lay d.m at_ x (msize op).toNat := by unfold mStore; rw [if_pos hok]
    exact ⟨wf.h, by show Bytes (mStore d.m op at_ x); rw [e]; exact lay_bytes wf.m _ _ _, wf.out, ha, mod_lo _, by show (mStore d.m op at_ x).length ≤ _; rw [mStore_length]; exact wf.mlen, wf.olen⟩
  · exact wf
theorem CoreD.put_h (d : CoreD) (op at_ x : Int) : (d.put op at_ x).h = d.h := by unfold CoreD.put; split <;> rfl
theorem CoreD.put_out (d : CoreD) (op at_ x : Int) : (d.put op at_ x).out = d.out := by unfold CoreD.put; split <;> rfl
theorem CoreD.put_mlen (d : CoreD) (op at_ x : Int) : (d.put op at_ x).m.length = d.m.length := by unfold CoreD.put; split <;> simp [mStore_length]
theorem immOp_u (op : Int) : 28 ≤ immOp op ∧ immOp op ≤ 37 := by unfold immOp; repeat' split <;> omega
theorem atomS_wf {d : CoreD} (wf : d.Wf) (op a b : Int) (ha : U32 a) (hb : U32 b) : (atomS d op a b).1.Wf ∧ U32 (atomS d op a b).2.1 := by
  have hl := mLoad_u d.m 13 a (by omega) ha wf.m.getD
  unfold atomS
  split
  · split
    · exact ⟨wf.hold _ _ ha, hl⟩
    · split
      · split
        · exact ⟨(wf.put _ _ _ ha).hold _ _ (by unfold U32; omega), by show U32 0; unfold U32; omega⟩
        · exact ⟨wf.hold _ _ (by unfold U32; omega), by show U32 1; unfold U32; omega⟩
      · exact ⟨wf.put _ _ _ ha, hl⟩
  · exact ⟨wf.trap _ (by split <;> omega), by show U32 0; unfold U32; omega⟩
theorem callS_wf {d : CoreD} (wf : d.Wf) (ho : d.out.length < 1099511627776) : (callS d).1.Wf := by
  unfold callS
  split
  · exact ⟨⟨wf.h.len, wf.h.regs, wf.h.pc, wf.h.heldAt, ⟨(by decide : (-9223372036854775808 : Int) ≤ 1), (by decide : (1 : Int) ≤ 9223372036854775807)⟩, wf.h.cause⟩, wf.m, wf.out, wf.fr, wf.tw, wf.mlen, wf.olen⟩
  · split
    · refine ⟨wf.h, wf.m, fun x hx => ?_, wf.fr, wf.tw, wf.mlen, by show (d.out ++ [d.h.reg 10]).length ≤ _; rw [List.length_append, List.length_singleton]; omega⟩
      rcases List.mem_append.1 hx with h | h
      · exact wf.out x h
      · rw [List.mem_singleton] at h; subst h; exact reg_u wf.h _
    · exact wf.trap _ (by omega)
theorem ite_ind {α : Type} {P : α → Prop} {c : Prop} [Decidable c] {x y : α} (h1 : c → P x) (h2 : ¬ c → P y) : P (if c then x else y) := by
  by_cases h : c
  · rw [if_pos h]; exact h1 h
  · rw [if_neg h]; exact h2 h
theorem doS_wf {d : CoreD} (wf : d.Wf) (i : InsD) (ho : d.out.length < 1099511627776) : (doS i d).Wf := by
  have ha := reg_u wf.h i.rs1
  have hb := reg_u wf.h i.rs2
  have hn : U32 (i.imm % 4294967296) := mod_lo _
  unfold doS
  dsimp only
  repeat' (refine ite_ind (P := CoreD.Wf) (fun _ => ?_) (fun _ => ?_))
  all_goals first
    | exact wf.setPc _ (ite_lo (mod_lo _) (mod_lo _))
    | exact (wf.set _ _ (mod_lo _)).setPc _ (mod_lo _)
    | exact (wf.set _ _ (mod_lo _)).setPc _ (by unfold U32; omega)
    | exact wf.setPc _ (mod_lo _)
    | exact (wf.set _ _ (mLoad_u _ _ _ (by omega) (mod_lo _) wf.m.getD)).setPc _ (mod_lo _)
    | exact (wf.put _ _ _ (mod_lo _)).setPc _ (mod_lo _)
    | exact (wf.set _ _ (alu_lo _ _ _ ha hn)).setPc _ (mod_lo _)
    | exact (wf.set _ _ (alu_lo _ _ _ ha hb)).setPc _ (mod_lo _)
    | exact ((atomS_wf wf _ _ _ ha hb).1.set _ _ (atomS_wf wf _ _ _ ha hb).2).setPc _ (mod_lo _)
    | exact (atomS_wf wf _ _ _ ha hb).1
    | exact (callS_wf wf ho).setPc _ (mod_lo _)
    | exact callS_wf wf ho
    | exact wf.trap _ (by omega)
theorem CoreD.Wf.none {d : CoreD} (wf : d.Wf) : d.none.Wf := ⟨wf.h, wf.m, wf.out, by show U32 0; unfold U32; omega, by show U32 0; unfold U32; omega, wf.mlen, wf.olen⟩
theorem fetchS_c (l : List Int) (pc : Int) : (fetchS l pc).2 = 0 ∨ (fetchS l pc).2 = 1 ∨ (fetchS l pc).2 = 2 := by
  unfold fetchS
  split
  · cases dec (mLoad l 13 pc) <;> simp
  · simp
theorem goS_wf {d : CoreD} (wf : d.Wf) (ho : d.out.length < 1099511627776) : (goS d).Wf := by
  unfold goS
  have := fetchS_c d.m d.h.pc
  split
  · exact doS_wf wf.none _ ho
  · exact wf.none.trap _ (by omega)
theorem andNot1 (x : Int) (hx : U32 x) : bits .andNot .u32 x 1 = x - x % 2 := by
  obtain ⟨n, rfl⟩ := Int.eq_ofNat_of_zero_le hx.1
  have hn : n < 4294967296 := by have := hx.2; omega
  show IntKind.u32.wrap (((BitVec.ofInt 32 (n : Int) &&& ~~~ BitVec.ofInt 32 1).toNat : Nat) : Int) = _
  have hb : ∀ i : Fin 32, (BitVec.ofInt 32 1).getLsbD i.val = decide (i.val < 1) := by decide
  have e : BitVec.ofInt 32 (n : Int) &&& ~~~ BitVec.ofInt 32 1 = (BitVec.ofInt 32 (n : Int) >>> 1) <<< 1 := by
    apply BitVec.eq_of_getLsbD_eq
    intro i hi
    rw [BitVec.getLsbD_and, BitVec.getLsbD_not, hb ⟨i, hi⟩, BitVec.getLsbD_shiftLeft, BitVec.getLsbD_ushiftRight]
    by_cases h : i < 1
    · simp [h, hi]
    · simp [h, hi]; rw [show 1 + (i - 1) = i from by omega, BitVec.getLsbD_eq_getElem hi]
  rw [e, BitVec.toNat_shiftLeft, BitVec.toNat_ushiftRight, BitVec.ofInt_natCast, BitVec.toNat_ofNat, IntKind.wrap_u32, Nat.shiftLeft_eq, Nat.shiftRight_eq_div_pow]
  omega
end Go.Proofs.Ytlfnddmncbkjaab.Fb

/- A hart at work begins; a struct laid whole into cells that are there. No program in sight. -/
namespace Go.Proofs.Ytlfnddmncbkjaab.Fb
set_option linter.unusedVariables false
set_option linter.unusedSimpArgs false
open Go.RowKit
theorem below_setCells {B : Nat} {a : World} {b : Nat} (hb : B ≤ b) : ∀ (vs : List Value) (o : Nat) (w : World), Below B a w → Below B a (w.setCells b o vs)
  | [], _, _, h => h
  | v :: r, o, w, h => below_setCells hb r (o + 1) _ (h.setCell hb v)
theorem at_setCells {b' off : Nat} {xs : List Value} {b : Nat} (hne : b ≠ b') : ∀ (vs : List Value) (o : Nat) (w : World), At w b' off xs → At (w.setCells b o vs) b' off xs
  | [], _, _, h => h
  | v :: r, o, w, h => at_setCells hne r (o + 1) _ (h.set_other hne v)
theorem sl_setCells {v : Value} {s n : Nat} {xs : List Value} {b : Nat} (hne : ∀ b' off n c, v = .slice (some ⟨b', off, none⟩) n c → b ≠ b') : ∀ (vs : List Value) (o : Nat) (w : World), Sl w v s n xs → Sl (w.setCells b o vs) v s n xs
  | [], _, _, h => h
  | u :: r, o, w, h => sl_setCells hne r (o + 1) _ (h.set_other hne u)
/-- the cells that are there take a struct -/
theorem there_at {w : World} {b o n : Nat} {xs : List Value} (h : At w b o xs) (hn : xs.length = n) (hf : ∀ o, w.frozen? ⟨b, o, none⟩ = false) : w.there b o n := fun j hj => by
  have h1 := h j (by omega)
  exact ⟨by rw [h1]; rfl, hf _⟩
theorem load_setCells {P : Program} {w : World} {b o : Nat} {cs : Array Value} {ty : TypeId} {d : TypeDesc} (ht : w.there b o cs.size) (hu : P.underlying ty = some d) (hd : d.isRow = true) (hi : (P.info? ty).map (·.size) = some cs.size) :
    (loadVar ty ⟨b, o, none⟩).run P (w.setCells b o cs.toList) = .ok (.agg cs) (w.setCells b o cs.toList) := by
  have hr := World.rangeAt_setCells_same w b o cs.toList (by simpa using ht)
  have := run_loadVar_mid (P := P) (w.setCells b o cs.toList) b o ty cs.toList d hr hu hd (by simpa using hi)
  simpa using this
theorem results_c3 {P : Program} {fn : Func} {a x y z : Tmp} {t : TypeId} (h : fn.results = #[.cell a t, .tmp x, .tmp y, .tmp z]) (tmps : Array Value) {p : Addr} {w : World} {v : Value} (hp : tmps.getD a undef = .pointer (some p)) (hl : (loadVar t p).run P w = .ok v w) :
    (results fn tmps).run P w = .ok (.tuple #[v, tmps.getD x undef, tmps.getD y undef, tmps.getD z undef]) w := by
  have hp' : tmps[a]?.getD undef = .pointer (some p) := by rw [← hp]; simp
  simp [results, h, hp', hl, Sem.run_bind, asAddr]
/-- a read in a region whose last store alone writes -/
theorem wpStill_load_at {P : Program} {ops : Array Oper} {w : World} {Q : Act → Prop} {a : Act} {o : Oper} {rest : List Oper} (hgd : o.guard = none) (ty : TypeId) (x : Operand) (ho : o.op = .load ty x) (p : Addr) (hx : a.eval x = .pointer (some p)) (v : Value)
    (hr : (Instr.loadAt ty (.pointer (some p))).run P w = .ok v w) (h : wpStill P ops w Q rest (a.put o.dst v)) : wpStill P ops w Q (o :: rest) a := by
  refine wpStill_step (fun K hK => ?_)
  rw [if_pos (by simp [Region.wanted, hgd])]
  unfold Oper.still execOp
  simp only [ho, hx, Sem.run_bind, Sem.run_pure, hr]
  exact ⟨rfl, hK _ h⟩
theorem CoreAt.init {w : World} {hb ho : Nat} {vm : Value} {ty tC : TypeId} {h : Hart} {l : List Int} (hat : At w hb ho (hlist h)) (hfz : ∀ o, w.frozen? ⟨hb, o, none⟩ = false) (hlt : hb < w.heap.size)
    (hv : Ints .u8 w vm l) (hm : ∀ b off n c, vm = .slice (some ⟨b, off, none⟩) n c → b ≠ hb ∧ b < w.heap.size ∧ ∀ o, w.frozen? ⟨b, o, none⟩ = false) (hml : ∀ k, vm.ownBlock = some k → k < w.heap.size) :
    CoreAt w.heap.size hb ho vm ty (w.alloc (.cells #[.pointer (some ⟨hb, ho, none⟩), vm, .slice none 0 0, .int .u32 0, .int .u32 0] tC)) ⟨h, l, [], 0, 0⟩ := by
  have hB : Below w.heap.size w (w.alloc (.cells #[.pointer (some ⟨hb, ho, none⟩), vm, .slice none 0 0, .int .u32 0, .int .u32 0] tC)) := Below.alloc (Below.refl _ _) (Nat.le_refl _) _
  refine ⟨hlt, by simp, by simp, by simp, by simp, fun o => ?_, hat.below hB, fun o => ?_, hv.below hB, fun b off n c e => ?_, ⟨.slice none 0 0, by simp, World.ownsRow_nil _ _ _ _⟩, hml⟩
  · unfold World.frozen?; rw [heap_alloc_new]; simp
  · exact (hB.frozen (p := ⟨hb, o, none⟩) hlt).trans (hfz o)
  · obtain ⟨x1, x2, x3⟩ := hm b off n c e
    exact ⟨x2, x1, by simp; omega, fun o => (hB.frozen (p := ⟨b, o, none⟩) x2).trans (x3 o)⟩
/-- a row of the call's own as a hart's bytes -/
theorem owns_mem {w : World} {B hb : Nat} {e : TypeId} {vm : Value} {n : Nat} {xs : List Value} (h : w.ownsRow B e 1 vm n xs) (hB : hb < B) :
    (∀ b off n c, vm = .slice (some ⟨b, off, none⟩) n c → b ≠ hb ∧ b < w.heap.size ∧ ∀ o, w.frozen? ⟨b, o, none⟩ = false) ∧ (∀ k, vm.ownBlock = some k → k < w.heap.size) := by
  refine ⟨fun b off m c e => ?_, fun k e => (h.lt k e).2⟩
  rcases owns_open h with ⟨rfl, _⟩ | ⟨g, cap, rfl, h1, h2, _, _, _, h3⟩
  · cases e
  · injection e with e1
    injection e1 with e1
    injection e1 with e1
    subst e1
    exact ⟨by omega, h2, h3⟩
def hart0 : Hart := ⟨List.replicate 32 0, 0, false, 0, 0, 0⟩
def stepOk (h : Hart) (l : List Int) : Bool := h.ok && (h.state == 0) && decide (l.length ≤ 4096)
def stepD (h : Hart) (l : List Int) : CoreD := if stepOk h l = true then goS ⟨h, l, [], 0, 0⟩ else ⟨hart0, [], [], 0, 0⟩
end Go.Proofs.Ytlfnddmncbkjaab.Fb

/- A machine read from its bytes. No program in sight. -/
namespace Go.Proofs.Ytlfnddmncbkjaab.Fb
set_option linter.unusedVariables false
set_option linter.unusedSimpArgs false
open Go.RowKit
/-- the number whose four bytes are ahead -/
def leW (l : List Int) : Int := l.getD 0 0 + 256 * l.getD 1 0 + 65536 * l.getD 2 0 + 16777216 * l.getD 3 0
abbrev Rd := List Int × Bool
def takeR (n : Nat) (s : Rd) : List Int × Rd := if s.2 = true ∨ s.1.length < n then ([], s.1, true) else (s.1.take n, s.1.drop n, false)
def numR (s : Rd) : Int × Rd := if s.2 = true ∨ s.1.length < 4 then (0, s.1, true) else (leW s.1, s.1.drop 4, false)
def numsR : Nat → Rd → List Int × Rd
  | 0, s => ([], s)
  | n + 1, s => ((numsR n s).1 ++ [(numR (numsR n s).2).1], (numR (numsR n s).2).2)
def hartT (a : List Int × Rd) : Hart × Rd :=
  let b := numR a.2
  let c := numR b.2
  let d := numR (c.2.1, c.2.2 || decide (1 < c.1))
  let e := numR d.2
  let f := numR e.2
  (⟨a.1, b.1, c.1 == 1, d.1, e.1, f.1⟩, f.2)
def hartR (s : Rd) : Hart × Rd := hartT (numsR 32 s)
/-- harts are read while there are more to be read, at most five -/
def hartsR : Nat → Nat → Rd → List Hart × Rd
  | 0, _, s => ([], s)
  | f + 1, n, s => if n = 0 ∨ s.2 = true then ([], s) else ((hartR s).1 :: (hartsR f (n - 1) (hartR s).2).1, (hartsR f (n - 1) (hartR s).2).2)
def getR (b : List Int) : Mach × Rd :=
  let a := numR (b, false)
  let m := takeR a.1.toNat a.2
  let k := numR m.2
  let h := hartsR 5 k.1.toNat k.2
  (⟨m.1, h.1⟩, h.2)
def getOk (b : List Int) : Bool := !(getR b).2.2 && (getR b).2.1.isEmpty && (wrong (getR b).1 [] == 0)
/-- the machine that bytes are -/
def isM (b : List Int) (m : Mach) : Prop := m.Wf ∧ wrong m [] = 0 ∧ mbytes m = b
open Classical in
noncomputable def getS (b : List Int) : Mach × Int := if h : ∃ m, isM b m then (h.choose, 0) else (⟨[], []⟩, 2)
theorem getS_yes {b : List Int} {m : Mach} (h : isM b m) : getS b = (m, 0) := by
  have h2 : ∃ m, isM b m := ⟨m, h⟩
  unfold getS
  rw [dif_pos h2]
  have h3 := h2.choose_spec
  rw [mbytes_inj h3.1 h.1 h3.2.1 h.2.1 (h3.2.2.trans h.2.2.symm)]
theorem getS_no {b : List Int} (h : ∀ m, ¬ isM b m) : getS b = (⟨[], []⟩, 2) := by
  unfold getS
  rw [dif_neg (fun ⟨m, hm⟩ => h m hm)]
theorem leW_quad {x : Int} (h : U32 x) (r : List Int) : leW (quad x ++ r) = x := by
  unfold U32 at h
  simp [leW, quad]
  omega
theorem getD_b {l : List Int} (h : Bytes l) (i : Nat) : 0 ≤ l.getD i 0 ∧ l.getD i 0 < 256 := h.getD i
theorem leW_u {l : List Int} (h : Bytes l) : U32 (leW l) := by
  have h0 := h.getD 0
  have h1 := h.getD 1
  have h2 := h.getD 2
  have h3 := h.getD 3
  unfold leW U32
  omega
theorem quad_leW {l : List Int} (h : Bytes l) (hl : 4 ≤ l.length) : l = quad (leW l) ++ l.drop 4 := by
  match l, hl with
  | a :: b :: c :: d :: r, _ =>
    have h0 := h a (by simp)
    have h1 := h b (by simp)
    have h2 := h c (by simp)
    have h3 := h d (by simp)
    have e : leW (a :: b :: c :: d :: r) = a + 256 * b + 65536 * c + 16777216 * d := by simp [leW]
    rw [e]
    have e1 : (a + 256 * b + 65536 * c + 16777216 * d) % 256 = a := by omega
    have e2 : (a + 256 * b + 65536 * c + 16777216 * d) / 256 % 256 = b := by omega
    have e3 : (a + 256 * b + 65536 * c + 16777216 * d) / 65536 % 256 = c := by omega
    have e4 : (a + 256 * b + 65536 * c + 16777216 * d) / 16777216 % 256 = d := by omega
    simp [quad, e1, e2, e3, e4]
theorem Bytes.drop {l : List Int} (h : Bytes l) (n : Nat) : Bytes (l.drop n) := fun x hx => h x (List.mem_of_mem_drop hx)
theorem Bytes.take {l : List Int} (h : Bytes l) (n : Nat) : Bytes (l.take n) := fun x hx => h x (List.mem_of_mem_take hx)
/-- a number read -/
theorem numR_fwd {x : Int} (h : U32 x) (r : List Int) : numR (quad x ++ r, false) = (x, r, false) := by
  unfold numR
  rw [if_neg (by simp [quad_len]), leW_quad h]
  simp [quad]
theorem numR_bwd {s : Rd} (hb : Bytes s.1) (h : (numR s).2.2 = false) : s.2 = false ∧ s.1 = quad (numR s).1 ++ (numR s).2.1 ∧ U32 (numR s).1 := by
  unfold numR at h ⊢
  split
  · rename_i hc; rw [if_pos hc] at h; cases h
  · rename_i hc
    refine ⟨by cases e : s.2 <;> simp_all, quad_leW hb (by omega), leW_u hb⟩
theorem numR_b {s : Rd} (hb : Bytes s.1) : Bytes (numR s).2.1 := by
  unfold numR; split
  · exact hb
  · exact hb.drop 4
theorem numR_u {s : Rd} (hb : Bytes s.1) : U32 (numR s).1 := by
  unfold numR; split
  · exact (⟨by decide, by decide⟩ : U32 0)
  · exact leW_u hb
theorem numsR_b {s : Rd} (hb : Bytes s.1) : ∀ n, Bytes (numsR n s).2.1
  | 0 => hb
  | n + 1 => numR_b (numsR_b hb n)
theorem numsR_len (s : Rd) : ∀ n, (numsR n s).1.length = n
  | 0 => rfl
  | n + 1 => by unfold numsR; simp [numsR_len s n]
theorem numsR_u {s : Rd} (hb : Bytes s.1) : ∀ n, ∀ x ∈ (numsR n s).1, U32 x
  | 0 => by intro x hx; cases hx
  | n + 1 => by
    intro x hx
    unfold numsR at hx
    rcases List.mem_append.1 hx with hx | hx
    · exact numsR_u hb n x hx
    · rw [List.mem_singleton] at hx; subst hx; exact numR_u (numsR_b hb n)
theorem numsR_fwd : ∀ {l : List Int} (_ : ∀ x ∈ l, U32 x) (n : Nat) (_ : n ≤ l.length) (r : List Int), numsR n (l.flatMap quad ++ r, false) = (l.take n, (l.drop n).flatMap quad ++ r, false)
  | l, _, 0, _, r => by simp [numsR]
  | l, h, n + 1, hn, r => by
    unfold numsR
    rw [numsR_fwd h n (by omega) r]
    dsimp only
    have hn' : n < l.length := by omega
    rw [List.drop_eq_getElem_cons hn', List.flatMap_cons, List.append_assoc, numR_fwd (h _ (List.getElem_mem hn')), List.take_succ_eq_append_getElem hn']
theorem numsR_bwd {s : Rd} (hb : Bytes s.1) : ∀ n, (numsR n s).2.2 = false → s.2 = false ∧ s.1 = (numsR n s).1.flatMap quad ++ (numsR n s).2.1
  | 0, h => ⟨h, by simp [numsR]⟩
  | n + 1, h => by
    unfold numsR at h ⊢
    dsimp only at h ⊢
    obtain ⟨h1, h2, _⟩ := numR_bwd (numsR_b hb n) h
    obtain ⟨h3, h4⟩ := numsR_bwd hb n h1
    refine ⟨h3, ?_⟩
    rw [List.flatMap_append, List.append_assoc]
    show _ = _ ++ (([(numR (numsR n s).2).1] : List Int).flatMap quad ++ (numR (numsR n s).2).2.1)
    rw [List.flatMap_cons, List.flatMap_nil, List.append_nil, ← h2]
    exact h4
theorem hartR_fwd {h : Hart} (wf : h.Wf) (ok : h.ok = true) (r : List Int) : hartR (hbytes h ++ r, false) = (h, r, false) := by
  have hu := hwords_u wf ok
  unfold hwords at hu
  have u1 := hu h.pc (by simp)
  have u2 := hu h.heldInt (by simp)
  have u3 := hu h.heldAt (by simp)
  have u4 := hu h.state (by simp)
  have u5 := hu h.cause (by simp)
  have e : hbytes h ++ r = h.regs.flatMap quad ++ (quad h.pc ++ (quad h.heldInt ++ (quad h.heldAt ++ (quad h.state ++ (quad h.cause ++ r))))) := by
    rw [hbytes_parts]; simp [List.flatMap_cons]
  rw [e]
  unfold hartR
  have e1 := numsR_fwd wf.regs 32 (by rw [wf.len]; omega) (quad h.pc ++ (quad h.heldInt ++ (quad h.heldAt ++ (quad h.state ++ (quad h.cause ++ r)))))
  rw [show h.regs.take 32 = h.regs by rw [← wf.len]; exact List.take_length, show h.regs.drop 32 = [] by rw [← wf.len]; exact List.drop_length] at e1
  simp only [List.flatMap_nil, List.nil_append] at e1
  rw [e1]
  unfold hartT
  dsimp only
  rw [numR_fwd u1]
  dsimp only
  rw [numR_fwd u2]
  dsimp only
  have hd : decide (1 < h.heldInt) = false := decide_eq_false (by unfold Hart.heldInt; split <;> omega)
  rw [hd, Bool.or_false, numR_fwd u3]
  dsimp only
  rw [numR_fwd u4]
  dsimp only
  rw [numR_fwd u5]
  dsimp only
  have hb : (h.heldInt == 1) = h.held := by unfold Hart.heldInt; cases h.held <;> rfl
  rw [hb]
theorem u32_i64 {x : Int} (h : U32 x) : -9223372036854775808 ≤ x ∧ x ≤ 9223372036854775807 := by unfold U32 at h; omega
section
variable {a : List Int × Rd}
theorem hartT_b (b0 : Bytes a.2.1) : Bytes (hartT a).2.1 := by
  have b1 := numR_b b0
  have b2 := numR_b b1
  have b3 := numR_b (s := ((numR (numR a.2).2).2.1, (numR (numR a.2).2).2.2 || decide (1 < (numR (numR a.2).2).1))) b2
  have b4 := numR_b b3
  have b5 := numR_b b4
  exact b5
theorem hartT_wf (b0 : Bytes a.2.1) (hl : a.1.length = 32) (hu : ∀ x ∈ a.1, U32 x) : (hartT a).1.Wf := by
  have b1 := numR_b b0
  have b2 := numR_b b1
  have u3 := numR_u (s := ((numR (numR a.2).2).2.1, (numR (numR a.2).2).2.2 || decide (1 < (numR (numR a.2).2).1))) b2
  have b3 := numR_b (s := ((numR (numR a.2).2).2.1, (numR (numR a.2).2).2.2 || decide (1 < (numR (numR a.2).2).1))) b2
  have b4 := numR_b b3
  exact ⟨hl, hu, numR_u b0, u3, u32_i64 (numR_u b3), u32_i64 (numR_u b4)⟩
theorem hartT_bwd (b0 : Bytes a.2.1) (h : (hartT a).2.2 = false) : a.2.2 = false ∧ a.1.flatMap quad ++ a.2.1 = hbytes (hartT a).1 ++ (hartT a).2.1 := by
  have b1 := numR_b b0
  have b2 := numR_b b1
  have b3 := numR_b (s := ((numR (numR a.2).2).2.1, (numR (numR a.2).2).2.2 || decide (1 < (numR (numR a.2).2).1))) b2
  have b4 := numR_b b3
  unfold hartT at h ⊢
  dsimp only at h ⊢
  obtain ⟨f1, f2, _⟩ := numR_bwd b4 h
  obtain ⟨e1, e2, _⟩ := numR_bwd b3 f1
  obtain ⟨d1, d2, _⟩ := numR_bwd (s := ((numR (numR a.2).2).2.1, (numR (numR a.2).2).2.2 || decide (1 < (numR (numR a.2).2).1))) b2 e1
  simp only [Bool.or_eq_false_iff, decide_eq_false_iff_not] at d1
  obtain ⟨c1, c2, c3⟩ := numR_bwd b1 d1.1
  obtain ⟨a1, a2, _⟩ := numR_bwd b0 c1
  refine ⟨a1, ?_⟩
  rw [hbytes_parts]
  have hh : ∀ (r : List Int) (p x y z : Int), (⟨r, p, (numR (numR a.2).2).1 == 1, x, y, z⟩ : Hart).heldInt = (numR (numR a.2).2).1 := fun r p x y z => by
    unfold Hart.heldInt
    dsimp only
    unfold U32 at c3
    by_cases e : (numR (numR a.2).2).1 = 1
    · rw [e]; rfl
    · rw [if_neg (by simpa using e)]; omega
  rw [hh]
  dsimp only
  simp only [List.flatMap_cons, List.flatMap_nil, List.append_nil, List.append_assoc]
  rw [← f2, ← e2]
  dsimp only at d2
  rw [← d2, ← c2, ← a2]
end
theorem hartR_b {s : Rd} (hb : Bytes s.1) : Bytes (hartR s).2.1 := hartT_b (numsR_b hb 32)
theorem hartR_wf {s : Rd} (hb : Bytes s.1) : (hartR s).1.Wf := hartT_wf (numsR_b hb 32) (numsR_len s 32) (numsR_u hb 32)
theorem hartR_bwd {s : Rd} (hb : Bytes s.1) (h : (hartR s).2.2 = false) : s.2 = false ∧ s.1 = hbytes (hartR s).1 ++ (hartR s).2.1 := by
  obtain ⟨h1, h2⟩ := hartT_bwd (numsR_b hb 32) h
  obtain ⟨h3, h4⟩ := numsR_bwd hb 32 h1
  exact ⟨h3, h4.trans h2⟩
theorem hartsR_b : ∀ (f n : Nat) {s : Rd}, Bytes s.1 → Bytes (hartsR f n s).2.1
  | 0, _, _, h => h
  | f + 1, n, s, h => by
    unfold hartsR; split
    · exact h
    · exact hartsR_b f _ (hartR_b h)
theorem hartsR_wf : ∀ (f n : Nat) {s : Rd}, Bytes s.1 → ∀ h ∈ (hartsR f n s).1, h.Wf
  | 0, _, _, _ => by intro h hh; cases hh
  | f + 1, n, s, hb => by
    intro h hh
    unfold hartsR at hh
    split at hh
    · cases hh
    · rcases List.mem_cons.1 hh with rfl | hh
      · exact hartR_wf hb
      · exact hartsR_wf f _ (hartR_b hb) h hh
theorem hartsR_fwd : ∀ {hs : List Hart} (_ : ∀ h ∈ hs, h.Wf ∧ h.ok = true) (f : Nat) (_ : hs.length ≤ f) (r : List Int), hartsR f hs.length (hs.flatMap hbytes ++ r, false) = (hs, r, false)
  | [], _, 0, _, r => by simp [hartsR]
  | [], _, f + 1, _, r => by simp [hartsR]
  | h :: t, hw, 0, hf, r => by simp at hf
  | h :: t, hw, f + 1, hf, r => by
    have h1 := hw h (by simp)
    unfold hartsR
    rw [if_neg (by simp), List.flatMap_cons, List.append_assoc, hartR_fwd h1.1 h1.2]
    dsimp only
    rw [show (h :: t).length - 1 = t.length by simp, hartsR_fwd (fun x hx => hw x (by simp [hx])) f (by simpa using hf) r]
theorem hartsR_bwd : ∀ (f n : Nat) {s : Rd}, Bytes s.1 → (hartsR f n s).2.2 = false → s.2 = false ∧ s.1 = (hartsR f n s).1.flatMap hbytes ++ (hartsR f n s).2.1 ∧ (hartsR f n s).1.length = min f n
  | 0, n, s, _, h => ⟨h, by simp [hartsR], by simp [hartsR]⟩
  | f + 1, n, s, hb, h => by
    unfold hartsR at h ⊢
    split
    · rename_i hc
      rw [if_pos hc] at h
      refine ⟨h, by simp, ?_⟩
      rcases hc with rfl | hc
      · simp
      · rw [show s.2 = false from h] at hc; cases hc
    · rename_i hc
      rw [if_neg hc] at h
      dsimp only at h ⊢
      obtain ⟨h1, h2, h3⟩ := hartsR_bwd f (n - 1) (hartR_b hb) h
      obtain ⟨h4, h5⟩ := hartR_bwd hb h1
      refine ⟨h4, ?_, ?_⟩
      · rw [List.flatMap_cons, List.append_assoc, ← h2]; exact h5
      · rw [List.length_cons, h3]; omega
theorem getR_wf {b : List Int} (hb : Bytes b) : (getR b).1.Wf := by
  have b1 := numR_b (s := (b, false)) hb
  have b2 : Bytes (takeR (numR (b, false)).1.toNat (numR (b, false)).2).2.1 := by
    unfold takeR; split
    · exact b1
    · exact b1.drop _
  unfold getR
  refine ⟨?_, hartsR_wf 5 _ (numR_b b2)⟩
  show Bytes (takeR _ _).1
  unfold takeR; split
  · intro x hx; cases hx
  · exact b1.take _
/-- what is read whole, and may be, has just these bytes -/
theorem getR_bwd {b : List Int} (hb : Bytes b) (h : getOk b = true) : isM b (getR b).1 := by
  have hwf := getR_wf hb
  unfold getOk at h
  simp only [Bool.and_eq_true, Bool.not_eq_true', beq_iff_eq, List.isEmpty_iff] at h
  obtain ⟨⟨h1, h2⟩, h3⟩ := h
  refine ⟨hwf, h3, ?_⟩
  obtain ⟨w1, w2, w3⟩ := wrong_mem h3
  have b1 := numR_b (s := (b, false)) hb
  have b2 : Bytes (takeR (numR (b, false)).1.toNat (numR (b, false)).2).2.1 := by
    unfold takeR; split
    · exact b1
    · exact b1.drop _
  have b3 := numR_b b2
  unfold getR at h1 h2 w1 w2 w3 ⊢
  dsimp only at h1 h2 w1 w2 w3 ⊢
  obtain ⟨e1, e2, e3⟩ := hartsR_bwd 5 _ b3 h1
  obtain ⟨d1, d2, d3⟩ := numR_bwd b2 e1
  have c1 : (numR (b, false)).2.2 = false ∧ ¬ (numR (b, false)).2.1.length < (numR (b, false)).1.toNat := by
    unfold takeR at d1
    split at d1
    · cases d1
    · rename_i hc
      exact ⟨by cases e : (numR (b, false)).2.2 <;> simp_all, by omega⟩
  obtain ⟨a1, a2, a3⟩ := numR_bwd (s := (b, false)) hb c1.1
  have tk : takeR (numR (b, false)).1.toNat (numR (b, false)).2 = ((numR (b, false)).2.1.take (numR (b, false)).1.toNat, (numR (b, false)).2.1.drop (numR (b, false)).1.toNat, false) := by
    unfold takeR; rw [if_neg (by rw [c1.1]; simp; omega)]
  unfold mbytes
  dsimp only
  have l1 : ((takeR (numR (b, false)).1.toNat (numR (b, false)).2).1.length : Int) = (numR (b, false)).1 := by
    rw [tk]; unfold U32 at a3; rw [List.length_take]; omega
  rw [l1]
  have l2 : ((hartsR 5 (numR (takeR (numR (b, false)).1.toNat (numR (b, false)).2).2).1.toNat (numR (takeR (numR (b, false)).1.toNat (numR (b, false)).2).2).2).1.length : Int) = (numR (takeR (numR (b, false)).1.toNat (numR (b, false)).2).2).1 := by
    unfold U32 at d3; omega
  rw [l2]
  rw [h2, List.append_nil] at e2
  rw [← e2, List.append_assoc, List.append_assoc, ← d2, tk]
  show quad _ ++ (_ ++ _) = _
  rw [List.take_append_drop, ← a2]
/-- the bytes of a machine that may be are read as it -/
theorem getR_fwd {m : Mach} (wf : m.Wf) (hw : wrong m [] = 0) : getR (mbytes m) = (m, [], false) := by
  obtain ⟨h1, h2, h3⟩ := wrong_mem hw
  have e : mbytes m = quad m.mem.length ++ (m.mem ++ (quad m.harts.length ++ (m.harts.flatMap hbytes ++ []))) := by simp [mbytes]
  rw [e]
  unfold getR
  rw [numR_fwd (by unfold U32; omega)]
  dsimp only
  have tk : takeR (m.mem.length : Int).toNat (m.mem ++ (quad m.harts.length ++ (m.harts.flatMap hbytes ++ [])), false) = (m.mem, quad m.harts.length ++ (m.harts.flatMap hbytes ++ []), false) := by
    unfold takeR
    rw [if_neg (by simp), Int.toNat_natCast]
    simp
  rw [tk]
  dsimp only
  rw [numR_fwd (by unfold U32; omega)]
  dsimp only
  rw [Int.toNat_natCast, hartsR_fwd (fun h hh => ⟨wf.harts h hh, wrong_harts hw h hh⟩) 5 (by omega) []]
theorem getS_ok {b : List Int} (hb : Bytes b) : getS b = if getOk b = true then ((getR b).1, 0) else (⟨[], []⟩, 2) := by
  by_cases h : getOk b = true
  · rw [if_pos h]; exact getS_yes (getR_bwd hb h)
  · rw [if_neg h]
    refine getS_no fun m hm => h ?_
    obtain ⟨wf, hw, rfl⟩ := hm
    unfold getOk
    rw [getR_fwd wf hw]
    simp [hw]
end Go.Proofs.Ytlfnddmncbkjaab.Fb

/- A step keeps a hart that may be; a trap leaves the rest. No program in sight. -/
namespace Go.Proofs.Ytlfnddmncbkjaab.Fb
set_option linter.unusedVariables false
set_option linter.unusedSimpArgs false
open Go.RowKit
structure Run (n : Nat) (d : CoreD) : Prop where
  ok : d.h.ok = true
  st : d.h.state = 0
  ml : d.m.length = n
  ol : d.out.length ≤ 1
structure Fin0 (d0 d : CoreD) : Prop where
  ok : d.h.ok = true
  ml : d.m.length = d0.m.length
  ol : d.out.length ≤ 1
  no : ¬ d.h.state = 0 → { d.h with state := d0.h.state, cause := d0.h.cause } = d0.h ∧ d.m = d0.m ∧ d.out = d0.out
theorem Run.fin {d0 d : CoreD} (h : Run d0.m.length d) : Fin0 d0 d := ⟨h.ok, h.ml, h.ol, fun e => absurd h.st e⟩
theorem ok_parts {h : Hart} (hs : h.state = 0) : h.ok = true ↔ h.regs.getD 0 0 = 0 ∧ (h.held = true ∨ h.heldAt = 0) ∧ h.cause = 0 := by
  unfold Hart.ok
  rw [hs]
  simp only [Bool.and_eq_true, Bool.or_eq_true, beq_iff_eq, decide_eq_true_eq]
  constructor
  · rintro ⟨⟨h1, h2⟩, h3 | h3⟩
    · exact absurd h3.1.1 (by decide)
    · exact ⟨h1, h2, h3.2⟩
  · rintro ⟨h1, h2, h3⟩
    exact ⟨⟨h1, h2⟩, .inr ⟨.inl (by first | rfl | trivial), h3⟩⟩
theorem Run.set {n : Nat} {d : CoreD} (h : Run n d) (r x : Int) : Run n (d.set r x) := by
  refine ⟨?_, ?_, h.ml, h.ol⟩
  · have hs : (d.set r x).h.state = 0 := by unfold CoreD.set Hart.setReg; split <;> exact h.st
    rw [ok_parts hs]
    have h0 := (ok_parts h.st).1 h.ok
    unfold CoreD.set Hart.setReg
    split
    · refine ⟨?_, h0.2⟩
      show (d.h.regs.set r.toNat x).getD 0 0 = 0
      rw [List.getD, List.getElem?_set_ne (by omega)]
      exact h0.1
    · exact h0
  · unfold CoreD.set Hart.setReg; split <;> exact h.st
theorem Run.setPc {n : Nat} {d : CoreD} (h : Run n d) (x : Int) : Run n (d.setPc x) := ⟨h.ok, h.st, h.ml, h.ol⟩
theorem Run.hold {n : Nat} {d : CoreD} (h : Run n d) (b : Bool) (x : Int) (hx : b = true ∨ x = 0) : Run n (d.hold b x) := by
  refine ⟨?_, h.st, h.ml, h.ol⟩
  have h0 := (ok_parts h.st).1 h.ok
  exact (ok_parts (h := (d.hold b x).h) h.st).2 ⟨h0.1, hx, h0.2.2⟩
theorem Run.put {n : Nat} {d : CoreD} (h : Run n d) (op at_ x : Int) : Run n (d.put op at_ x) :=
  ⟨by rw [CoreD.put_h]; exact h.ok, by rw [CoreD.put_h]; exact h.st, by rw [CoreD.put_mlen]; exact h.ml, by rw [CoreD.put_out]; exact h.ol⟩
theorem Run.trap {d : CoreD} (h : Run d.m.length d) (c : Int) (hc : 1 ≤ c ∧ c ≤ 6) : Fin0 d (d.trap c) := by
  refine ⟨?_, rfl, h.ol, fun _ => ⟨rfl, rfl, rfl⟩⟩
  have h0 := (ok_parts h.st).1 h.ok
  unfold Hart.ok CoreD.trap Hart.trap
  simp only [Bool.and_eq_true, Bool.or_eq_true, beq_iff_eq, decide_eq_true_eq]
  exact ⟨⟨h0.1, h0.2.1⟩, .inl ⟨⟨by first | rfl | trivial, hc.1⟩, hc.2⟩⟩
theorem atomS_run {d : CoreD} (h : Run d.m.length d) (op a b : Int) : ((atomS d op a b).2.2 = true ∧ Run d.m.length (atomS d op a b).1) ∨ ((atomS d op a b).2.2 = false ∧ Fin0 d (atomS d op a b).1) := by
  unfold atomS
  split
  · split
    · exact .inl ⟨rfl, h.hold true a (.inl (by first | rfl | trivial))⟩
    · split
      · split
        · exact .inl ⟨by first | rfl | trivial, (h.put _ _ _).hold false 0 (.inr rfl)⟩
        · exact .inl ⟨rfl, h.hold false 0 (.inr rfl)⟩
      · exact .inl ⟨rfl, h.put _ _ _⟩
  · exact .inr ⟨rfl, h.trap _ (by split <;> omega)⟩
theorem callS_run {d : CoreD} (h : Run d.m.length d) (ho : d.out = []) : ((callS d).2 = true ∧ Run d.m.length (callS d).1) ∨ ((callS d).2 = false ∧ Fin0 d (callS d).1) := by
  unfold callS
  split
  · refine .inr ⟨rfl, ?_, rfl, h.ol, fun _ => ⟨rfl, rfl, rfl⟩⟩
    have h0 := (ok_parts h.st).1 h.ok
    unfold Hart.ok
    simp only [Bool.and_eq_true, Bool.or_eq_true, beq_iff_eq, decide_eq_true_eq]
    exact ⟨⟨h0.1, h0.2.1⟩, .inr ⟨.inr trivial, h0.2.2⟩⟩
  · split
    · exact .inl ⟨rfl, h.ok, h.st, rfl, by show (d.out ++ [d.h.reg 10]).length ≤ 1; rw [ho]; simp⟩
    · exact .inr ⟨rfl, h.trap 5 (by omega)⟩
theorem doS_fin {d : CoreD} (h : Run d.m.length d) (ho : d.out = []) (i : InsD) : Fin0 d (doS i d) := by
  unfold doS
  dsimp only
  repeat' (refine ite_ind (P := Fin0 d) (fun _ => ?_) (fun _ => ?_))
  all_goals first
    | exact Run.fin ((h.set _ _).setPc _)
    | exact Run.fin (h.setPc _)
    | exact Run.fin ((h.put _ _ _).setPc _)
    | exact h.trap _ (by omega)
    | (rename_i hq; rcases atomS_run h i.op (d.h.reg i.rs1) (d.h.reg i.rs2) with ⟨e, hr⟩ | ⟨e, hr⟩
       · exact Run.fin ((hr.set _ _).setPc _)
       · exact absurd hq (by rw [e]; decide))
    | (rename_i hq; rcases atomS_run h i.op (d.h.reg i.rs1) (d.h.reg i.rs2) with ⟨e, hr⟩ | ⟨e, hr⟩
       · exact absurd e hq
       · exact hr)
    | (rename_i hq; rcases callS_run h ho with ⟨e, hr⟩ | ⟨e, hr⟩
       · exact Run.fin (hr.setPc _)
       · exact absurd hq (by rw [e]; decide))
    | (rename_i hq; rcases callS_run h ho with ⟨e, hr⟩ | ⟨e, hr⟩
       · exact absurd e hq
       · exact hr)
theorem goS_fin (h : Hart) (l : List Int) (hok : h.ok = true) (hst : h.state = 0) : Fin0 ⟨h, l, [], 0, 0⟩ (goS ⟨h, l, [], 0, 0⟩) := by
  have hr : Run l.length ⟨h, l, [], 0, 0⟩ := ⟨hok, hst, rfl, by simp⟩
  have hc := fetchS_c l h.pc
  unfold goS
  dsimp only
  split
  · exact doS_fin (d := CoreD.none ⟨h, l, [], 0, 0⟩) hr rfl _
  · exact Run.trap (d := CoreD.none ⟨h, l, [], 0, 0⟩) hr _ (by omega)
theorem stepD_fin (h : Hart) (l : List Int) (hs : stepOk h l = true) :
    (stepD h l).h.ok = true ∧ (stepD h l).m.length = l.length ∧ (stepD h l).h.regs.getD 0 0 = 0 ∧ (stepD h l).out.length ≤ 1 ∧
      (¬ (stepD h l).h.state = 0 → { (stepD h l).h with state := h.state, cause := h.cause } = h ∧ (stepD h l).m = l ∧ (stepD h l).out = []) := by
  unfold stepD
  rw [if_pos hs]
  unfold stepOk at hs
  simp only [Bool.and_eq_true, beq_iff_eq, decide_eq_true_eq] at hs
  have h1 := goS_fin h l hs.1.1 hs.1.2
  refine ⟨h1.ok, h1.ml, ?_, h1.ol, h1.no⟩
  have h2 := h1.ok
  unfold Hart.ok at h2
  simp only [Bool.and_eq_true, beq_iff_eq] at h2
  exact h2.1.1
end Go.Proofs.Ytlfnddmncbkjaab.Fb

/- Harts that take turns, as data. No program in sight. -/
namespace Go.Proofs.Ytlfnddmncbkjaab.Fb
set_option linter.unusedVariables false
set_option linter.unusedSimpArgs false
open Go.RowKit

def lose (fr tw : Int) (h : Hart) : Hart := if (h.held && decide (fr < (h.heldAt + 4) % 4294967296) && decide (h.heldAt < tw)) = true then { h with held := false, heldAt := 0 } else h
/-- the first n harts, but k, lose what they had reserved -/
def loseTo (k : Nat) (fr tw : Int) (n : Nat) (hs : List Hart) : List Hart := hs.mapIdx fun j h => if j < n ∧ j ≠ k then lose fr tw h else h
theorem loseTo_zero (k : Nat) (fr tw : Int) (hs : List Hart) : loseTo k fr tw 0 hs = hs := by
  unfold loseTo
  apply List.ext_getElem
  · simp
  · intro i h1 h2; simp
theorem loseTo_len (k : Nat) (fr tw : Int) (n : Nat) (hs : List Hart) : (loseTo k fr tw n hs).length = hs.length := by simp [loseTo]
theorem loseTo_get (k : Nat) (fr tw : Int) (n : Nat) (hs : List Hart) (i : Nat) (h : i < hs.length) : (loseTo k fr tw n hs)[i]'(by rw [loseTo_len]; exact h) = if i < n ∧ i ≠ k then lose fr tw hs[i] else hs[i] := by simp [loseTo]
theorem loseTo_self (k : Nat) (fr tw : Int) (hs : List Hart) : loseTo k fr tw (k + 1) hs = loseTo k fr tw k hs := by
  apply List.ext_getElem
  · simp [loseTo_len]
  · intro i h1 h2
    rw [loseTo_len] at h1
    rw [loseTo_get _ _ _ _ _ _ h1, loseTo_get _ _ _ _ _ _ h1]
    by_cases e : i = k
    · subst e; simp
    · simp only [show (i < k + 1) = (i < k) from propext ⟨fun h => by omega, fun h => by omega⟩]
theorem loseTo_succ {k n : Nat} (fr tw : Int) (hs : List Hart) (hn : n < hs.length) (hk : n ≠ k) : loseTo k fr tw (n + 1) hs = (loseTo k fr tw n hs).set n (lose fr tw hs[n]) := by
  apply List.ext_getElem
  · simp [loseTo_len]
  · intro i h1 h2
    rw [loseTo_len] at h1
    rw [loseTo_get _ _ _ _ _ _ h1, List.getElem_set]
    by_cases e : n = i
    · subst e; rw [if_pos rfl, if_pos ⟨by omega, hk⟩]
    · rw [if_neg e, loseTo_get _ _ _ _ _ _ h1]
      simp only [show (i < n + 1) = (i < n) from propext ⟨fun h => by omega, fun h => by omega⟩]
theorem loseTo_keep {k n : Nat} (fr tw : Int) (hs : List Hart) (hn : n < hs.length) (hl : lose fr tw hs[n] = hs[n]) : loseTo k fr tw (n + 1) hs = loseTo k fr tw n hs := by
  by_cases hk : n = k
  · subst hk; exact loseTo_self _ _ _ _
  · rw [loseTo_succ fr tw hs hn hk, hl]
    apply List.ext_getElem
    · simp
    · intro i h1 h2
      rw [List.getElem_set]
      split
      · rename_i e; subst e; rw [loseTo_get _ _ _ _ _ _ hn, if_neg (by omega)]
      · rfl
theorem loseTo_at {k n : Nat} (fr tw : Int) (hs : List Hart) (hn : n < hs.length) : (loseTo k fr tw n hs)[n]'(by rw [loseTo_len]; exact hn) = hs[n] := by
  rw [loseTo_get _ _ _ _ _ _ hn, if_neg (by omega)]
theorem loseTo_all {k n : Nat} (fr tw : Int) (hs : List Hart) (hn : hs.length ≤ n) : loseTo k fr tw n hs = loseTo k fr tw hs.length hs := by
  apply List.ext_getElem
  · simp [loseTo_len]
  · intro i h1 h2
    rw [loseTo_len] at h1
    rw [loseTo_get _ _ _ _ _ _ h1, loseTo_get _ _ _ _ _ _ h1]
    simp only [show (i < n) = (i < hs.length) from propext ⟨fun h => by omega, fun h => by omega⟩]

/-- a board at work -/
structure St where
  harts : List Hart
  mem : List Int
  out : List Int
  steps : Nat
def St.hart (s : St) (k : Nat) : Hart := s.harts.getD k hart0
/-- one step of hart k -/
def goM (k : Nat) (s : St) : St :=
  let d := goS (⟨s.hart k, s.mem, [], 0, 0⟩ : CoreD)
  ⟨loseTo k d.fr d.tw s.harts.length (s.harts.set k d.h), d.m, s.out ++ d.out, s.steps + 1⟩
/-- a pick: up to n steps -/
def pickM (k : Nat) : Nat → St → St
  | 0, s => s
  | n + 1, s => if (s.hart k).state = 0 then pickM k n (goM k s) else s
def playM : List (Int × Int) → St → St
  | [], s => s
  | p :: r, s => playM r (pickM p.1.toNat p.2.toNat s)
def startM (m : Mach) : St := ⟨m.harts, m.mem, [], 0⟩
/-- what a run shows -/
def runM (m : Mach) (l : List (Int × Int)) : St := if wrong m l = 0 then playM l (startM m) else ⟨[], [], [], 0⟩

/-- what came out ahead, laid ahead -/
def CoreD.pre (o : List Int) (d : CoreD) : CoreD := { d with out := o ++ d.out }
theorem pre_ite {c : Prop} [Decidable c] (o : List Int) (x y : CoreD) : (if c then x else y).pre o = if c then x.pre o else y.pre o := by split <;> rfl
theorem pre_put (o : List Int) (d : CoreD) (op a x : Int) : (d.pre o).put op a x = (d.put op a x).pre o := by
  unfold CoreD.put CoreD.pre
  dsimp only
  split <;> rfl
theorem pre_atom (o : List Int) (d : CoreD) (op a b : Int) : atomS (d.pre o) op a b = ((atomS d op a b).1.pre o, (atomS d op a b).2) := by
  unfold atomS
  simp only [pre_put]
  show (if mLoadOk d.m 13 a = true then _ else _) = _
  split
  · split
    · rfl
    · split
      · show (if (d.h.held && d.h.heldAt == a) = true then _ else _) = _
        split <;> rfl
      · rfl
  · rfl
theorem pre_call (o : List Int) (d : CoreD) : callS (d.pre o) = ((callS d).1.pre o, (callS d).2) := by
  unfold callS
  show (if d.h.reg 17 = 0 then _ else _) = _
  split
  · rfl
  · show (if d.h.reg 17 = 1 then _ else _) = _
    split
    · show (({ d with out := (o ++ d.out) ++ [d.h.reg 10] } : CoreD), true) = _
      rw [List.append_assoc]; rfl
    · rfl
theorem pre_do (o : List Int) (d : CoreD) (i : InsD) : doS i (d.pre o) = (doS i d).pre o := by
  unfold doS
  dsimp only
  simp only [pre_put, pre_atom, pre_call, pre_ite]
  rfl
theorem pre_go (o : List Int) (d : CoreD) : goS (d.pre o) = (goS d).pre o := by
  unfold goS
  show (if (fetchS d.m d.h.pc).2 = 0 then doS (fetchS d.m d.h.pc).1 (d.none.pre o) else (d.none.trap (fetchS d.m d.h.pc).2).pre o) = _
  rw [pre_do, pre_ite]
theorem goS_out (d : CoreD) : goS d = (goS (⟨d.h, d.m, [], 0, 0⟩ : CoreD)).pre d.out := by
  rw [← pre_go]
  show goS d = goS (⟨d.h, d.m, d.out ++ [], 0, 0⟩ : CoreD)
  rw [List.append_nil]
  rfl

structure St.Wf (s : St) : Prop where
  harts : ∀ h ∈ s.harts, h.Wf
  mem : Bytes s.mem
  mlen : s.mem.length ≤ 4096
  out : ∀ x ∈ s.out, U32 x
theorem hart0_wf : hart0.Wf := ⟨rfl, by intro x hx; have := List.eq_of_mem_replicate hx; subst this; exact ⟨by decide, by decide⟩, ⟨by decide, by decide⟩, ⟨by decide, by decide⟩, ⟨by decide, by decide⟩, ⟨by decide, by decide⟩⟩
theorem St.hart_at {s : St} {k : Nat} (h : k < s.harts.length) : s.hart k = s.harts[k] := by
  unfold St.hart; rw [List.getD, List.getElem?_eq_getElem h]; rfl
theorem St.Wf.hart {s : St} (h : s.Wf) (k : Nat) : (s.hart k).Wf := by
  by_cases hk : k < s.harts.length
  · rw [St.hart_at hk]; exact h.harts _ (List.getElem_mem hk)
  · unfold St.hart; rw [List.getD, List.getElem?_eq_none (by omega)]; exact hart0_wf
theorem St.Wf.core {s : St} (h : s.Wf) (k : Nat) : (⟨s.hart k, s.mem, [], 0, 0⟩ : CoreD).Wf :=
  ⟨h.hart k, h.mem, by simp, (⟨by decide, by decide⟩ : U32 0), (⟨by decide, by decide⟩ : U32 0), (by show s.mem.length ≤ _; have := h.mlen; omega), by simp⟩
theorem lose_wf {fr tw : Int} {h : Hart} (wf : h.Wf) : (lose fr tw h).Wf := by
  unfold lose
  split
  · exact ⟨wf.len, wf.regs, wf.pc, (⟨by decide, by decide⟩ : U32 0), wf.state, wf.cause⟩
  · exact wf
theorem lose_ok {fr tw : Int} {h : Hart} (ok : h.ok = true) : (lose fr tw h).ok = true := by
  unfold lose
  split
  · unfold Hart.ok at ok ⊢
    simp only [Bool.and_eq_true, Bool.or_eq_true, beq_iff_eq, decide_eq_true_eq] at ok ⊢
    exact ⟨⟨ok.1.1, .inr trivial⟩, ok.2⟩
  · exact ok
theorem mem_loseTo {k : Nat} {fr tw : Int} {n : Nat} {hs : List Hart} {P : Hart → Prop} (hp : ∀ h ∈ hs, P h) (hl : ∀ h, P h → P (lose fr tw h)) : ∀ h ∈ loseTo k fr tw n hs, P h := by
  intro h hh
  obtain ⟨i, hi, rfl⟩ := List.getElem_of_mem hh
  have hi' : i < hs.length := by rw [loseTo_len] at hi; exact hi
  rw [loseTo_get _ _ _ _ _ _ hi']
  split
  · exact hl _ (hp _ (List.getElem_mem hi'))
  · exact hp _ (List.getElem_mem hi')
theorem goS_mlen (d : CoreD) (i : InsD) : (doS i d).m.length = d.m.length := by
  unfold doS
  dsimp only
  have ha : (atomS d i.op (d.h.reg i.rs1) (d.h.reg i.rs2)).1.m.length = d.m.length := by
    unfold atomS
    repeat' (refine ite_ind (P := fun p : CoreD × Int × Bool => p.1.m.length = d.m.length) (fun _ => ?_) (fun _ => ?_))
    all_goals first | rfl | exact CoreD.put_mlen _ _ _ _
  have hc : (callS d).1.m = d.m := by
    unfold callS
    repeat' (refine ite_ind (P := fun p : CoreD × Bool => p.1.m = d.m) (fun _ => ?_) (fun _ => ?_))
    all_goals rfl
  repeat' (refine ite_ind (P := fun p : CoreD => p.m.length = d.m.length) (fun _ => ?_) (fun _ => ?_))
  all_goals first
    | rfl
    | exact CoreD.put_mlen _ _ _ _
    | exact ha
    | exact mStore_length _ _ _ _
    | (show (callS d).1.m.length = _; rw [hc])
theorem goS_ml (d : CoreD) : (goS d).m.length = d.m.length := by
  unfold goS
  split
  · exact goS_mlen _ _
  · rfl
theorem goM_len (k : Nat) (s : St) : (goM k s).harts.length = s.harts.length := by
  show (loseTo _ _ _ _ _).length = _
  rw [loseTo_len, List.length_set]
theorem goM_wf {k : Nat} {s : St} (wf : s.Wf) : (goM k s).Wf := by
  have h := goS_wf (wf.core k) (by simp)
  refine ⟨mem_loseTo (P := Hart.Wf) ?_ (fun _ => lose_wf), h.m, ?_, ?_⟩
  · intro x hx
    rcases List.mem_or_eq_of_mem_set hx with hx | rfl
    · exact wf.harts _ hx
    · exact h.h
  · show (goS _).m.length ≤ _
    rw [goS_ml]; exact wf.mlen
  · intro x hx
    rcases List.mem_append.1 hx with hx | hx
    · exact wf.out _ hx
    · exact h.out _ hx
theorem pickM_wf {k : Nat} : ∀ (n : Nat) {s : St}, s.Wf → (pickM k n s).Wf
  | 0, _, h => h
  | n + 1, s, h => by
    unfold pickM
    split
    · exact pickM_wf n (goM_wf h)
    · exact h
theorem pickM_len {k : Nat} : ∀ (n : Nat) (s : St), (pickM k n s).harts.length = s.harts.length
  | 0, _ => rfl
  | n + 1, s => by
    unfold pickM
    split
    · rw [pickM_len n, goM_len]
    · rfl
theorem playM_wf : ∀ (l : List (Int × Int)) {s : St}, s.Wf → (playM l s).Wf
  | [], _, h => h
  | _ :: r, _, h => playM_wf r (pickM_wf _ h)
theorem playM_len : ∀ (l : List (Int × Int)) (s : St), (playM l s).harts.length = s.harts.length
  | [], _ => rfl
  | _ :: r, _ => by unfold playM; rw [playM_len r, pickM_len]
theorem pickM_stop {k : Nat} {s : St} (h : ¬ (s.hart k).state = 0) (n : Nat) : pickM k n s = s := by
  cases n with
  | zero => rfl
  | succ n => unfold pickM; rw [if_neg h]
theorem wrong_parts {m : Mach} {l : List (Int × Int)} (h : wrong m l = 0) : m.mem.length ≤ 4096 ∧ 1 ≤ m.harts.length ∧ m.harts.length ≤ 4 ∧ (∀ x ∈ m.harts, x.ok = true) ∧ l.length ≤ 300 ∧ ∀ p ∈ l, 0 ≤ p.1 ∧ p.1 < m.harts.length ∧ 0 ≤ p.2 ∧ p.2 ≤ 400 := by
  unfold wrong at h
  split at h
  · cases h
  split at h
  · cases h
  split at h
  · cases h
  split at h
  · cases h
  rename_i h1 h2 h3 h4
  refine ⟨by omega, by omega, by omega, fun x hx => ?_, by omega, fun p hp => ?_⟩
  · cases e : x.ok with
    | true => rfl
    | false => exact absurd (List.any_eq_true.2 ⟨x, hx, by simp [e]⟩) h2
  · have : badPick m.harts.length p = false := by
      cases e : badPick m.harts.length p with
      | false => rfl
      | true => exact absurd (List.any_eq_true.2 ⟨p, hp, e⟩) h4
    unfold badPick at this
    simp only [Bool.or_eq_false_iff, decide_eq_false_iff_not] at this
    omega
end Go.Proofs.Ytlfnddmncbkjaab.Fb

/- A board at work, in memory. No program in sight. -/
namespace Go.Proofs.Ytlfnddmncbkjaab.Fb
set_option linter.unusedVariables false
set_option linter.unusedSimpArgs false
open Go.RowKit
theorem owns_block {B : Nat} {e : TypeId} {k : Nat} {v : Value} {n : Nat} {xs : List Value} {w w' : World} (h : w.ownsRow B e k v n xs) (hb : ∀ g, v.ownBlock = some g → w'.heap[g]? = w.heap[g]?) : w'.ownsRow B e k v n xs := by
  obtain ⟨h1, h2⟩ := h
  refine ⟨h1, ?_⟩
  rcases h2 with ⟨rfl, rfl⟩ | ⟨g, cap, cur, rfl, hB, hh, h3⟩
  · exact .inl ⟨rfl, rfl⟩
  · exact .inr ⟨g, cap, cur, rfl, hB, (hb g rfl).trans hh, h3⟩
theorem cell_block {w w' : World} {b : Nat} (h : w'.heap[b]? = w.heap[b]?) (o : Nat) : w'.cell? ⟨b, o, none⟩ = w.cell? ⟨b, o, none⟩ := World.cell?_of_block (a := ⟨b, o, none⟩) h
theorem frozen_block {w w' : World} {b : Nat} (h : w'.heap[b]? = w.heap[b]?) (o : Nat) : w'.frozen? ⟨b, o, none⟩ = w.frozen? ⟨b, o, none⟩ := World.frozen?_of_block (a := ⟨b, o, none⟩) h
theorem sl_block {w w' : World} {v : Value} {s n : Nat} {xs : List Value} (h : Sl w v s n xs) (hb : ∀ g, v.ownBlock = some g → w'.heap[g]? = w.heap[g]?) : Sl w' v s n xs := by
  obtain ⟨h1, ao, cap, h2, h3, h4, h5, h6⟩ := h
  refine ⟨h1, ao, cap, h2, h3, h4, h5, fun a ha hx => ⟨(h6 a ha hx).1, ?_⟩⟩
  obtain ⟨b, off, sp⟩ := a
  have h7 := h6 _ ha hx
  have hs := h7.1
  simp only at hs
  subst hs
  intro j hj
  exact (cell_block (hb b (by rw [h2, ha]; rfl)) _).trans (h7.2 j hj)
theorem At.flat {α : Type} {w : World} {b : Nat} (f : α → List Value) (s : Nat) : ∀ {l : List α} {off : Nat}, (∀ x ∈ l, (f x).length = s) → (∀ i (h : i < l.length), At w b (off + i * s) (f l[i])) → At w b off (l.flatMap f)
  | [], _, _, _ => fun j hj => by simp at hj
  | x :: r, off, hf, h => by
    rw [List.flatMap_cons]
    have hx := hf x (by simp)
    have h0 := h 0 (by simp)
    rw [Nat.zero_mul, Nat.add_zero] at h0
    refine At.append h0 ?_
    rw [hx]
    refine At.flat f s (fun y hy => hf y (by simp [hy])) (fun i hi => ?_)
    have := h (i + 1) (by simp; omega)
    rw [Nat.add_mul, Nat.one_mul] at this
    rw [show off + s + i * s = off + (i * s + s) by omega]
    exact this
/-- one hart of a row is another: the rest is as it was -/
theorem at_harts_set {w w' : World} {b : Nat} {hs : List Hart} {k : Nat} {h' : Hart} (ha : At w b 0 (hs.flatMap hlist)) (hl : ∀ h ∈ hs, (hlist h).length = 37) (hl' : (hlist h').length = 37)
    (hk : At w' b (k * 37) (hlist h')) (hc : ∀ o, (o < k * 37 ∨ k * 37 + 37 ≤ o) → w'.cell? ⟨b, o, none⟩ = w.cell? ⟨b, o, none⟩) : At w' b 0 ((hs.set k h').flatMap hlist) := by
  refine At.flat hlist 37 (fun x hx => ?_) (fun i hi => ?_)
  · rcases List.mem_or_eq_of_mem_set hx with hx | rfl
    · exact hl x hx
    · exact hl'
  · rw [List.length_set] at hi
    rw [List.getElem_set]
    split
    · rename_i e; subst e; rw [Nat.zero_add]; exact hk
    · rename_i e
      have h1 := At.elem hlist 37 hl ha i hi
      intro j hj
      rw [hl _ (List.getElem_mem hi)] at hj
      rw [hc _ (by omega)]
      exact h1 j (by rw [hl _ (List.getElem_mem hi)]; exact hj)
theorem at_hart {w : World} {b : Nat} {hs : List Hart} {k : Nat} (ha : At w b 0 (hs.flatMap hlist)) (hl : ∀ h ∈ hs, (hlist h).length = 37) (hk : k < hs.length) : At w b (k * 37) (hlist hs[k]) := by
  have := At.elem hlist 37 hl ha k hk
  rw [Nat.zero_add] at this
  exact this
/-- the board at bp: its harts at bh, its bytes vm, what came out vo -/
structure Bd (bp bh hc : Nat) (vm vo : Value) (ty : TypeId) (w : World) (s : St) : Prop where
  b1 : bh < bp
  c0 : w.cell? ⟨bp, 0, none⟩ = some vm
  c1 : w.cell? ⟨bp, 1, none⟩ = some (.slice (some ⟨bh, 0, none⟩) s.harts.length hc)
  c2 : w.cell? ⟨bp, 2, none⟩ = some vo
  c3 : w.cell? ⟨bp, 3, none⟩ = some (.int .i64 s.steps)
  frz : ∀ o, w.frozen? ⟨bp, o, none⟩ = false
  harts : At w bh 0 (s.harts.flatMap hlist)
  hlt : bh < w.heap.size
  hfz : ∀ o, w.frozen? ⟨bh, o, none⟩ = false
  bytes : Ints .u8 w vm s.mem
  mfz : ∀ b off n c, vm = .slice (some ⟨b, off, none⟩) n c → b < w.heap.size ∧ ∀ o, w.frozen? ⟨b, o, none⟩ = false
  mlt : ∀ k, vm.ownBlock = some k → k < bp ∧ k ≠ bh
  own : w.ownsRow (bp + 1) ty 1 vo s.out.length (s.out.map (Value.int .u32))
  hcap : s.harts.length ≤ hc ∧ hc ≤ maxLen
/-- a board whose hart k is at work, at cp: o has come out of it, o0 ahead of it -/
structure Wk (bp bh hc cp k : Nat) (vm vo : Value) (ty : TypeId) (o0 o : List Int) (fr tw : Int) (w : World) (s : St) : Prop where
  core : CoreAt cp bh (k * 37) vm ty w ⟨s.hart k, s.mem, o, fr, tw⟩
  b1 : bh < bp
  b2 : bp < cp
  c0 : w.cell? ⟨bp, 0, none⟩ = some vm
  c1 : w.cell? ⟨bp, 1, none⟩ = some (.slice (some ⟨bh, 0, none⟩) s.harts.length hc)
  c2 : w.cell? ⟨bp, 2, none⟩ = some vo
  c3 : w.cell? ⟨bp, 3, none⟩ = some (.int .i64 s.steps)
  frz : ∀ o, w.frozen? ⟨bp, o, none⟩ = false
  harts : At w bh 0 (s.harts.flatMap hlist)
  mlt : ∀ k, vm.ownBlock = some k → k < bp ∧ k ≠ bh
  own : w.ownsRow (bp + 1) ty 1 vo o0.length (o0.map (Value.int .u32))
  vlt : ∀ g, vo.ownBlock = some g → g < cp
  kl : k < s.harts.length
  hcap : s.harts.length ≤ hc ∧ hc ≤ maxLen
/-- a board begins: two rows of its own -/
theorem Bd.begin {w : World} {m : Mach} {vm vh : Value} {B1 B2 : Nat} {t1 t2 tB ty : TypeId} (h1 : w.ownsRow B1 t1 1 vm m.mem.length (m.mem.map (Value.int .u8))) (h2 : w.ownsRow B2 t2 37 vh m.harts.length (m.harts.flatMap hlist))
    (hne : ∀ k, vm.ownBlock = some k → vh.ownBlock ≠ some k) (hl : 1 ≤ m.harts.length) :
    ∃ bh hc, vh = .slice (some ⟨bh, 0, none⟩) m.harts.length hc ∧ B2 ≤ bh ∧ Bd w.heap.size bh hc vm (.slice none 0 0) ty (w.alloc (.cells #[vm, vh, .slice none 0 0, .int .i64 0] tB)) (startM m) := by
  rcases owns_open h2 with ⟨_, e, _⟩ | ⟨g, cap, rfl, hB, hg, hn, hm, hat, hf⟩
  · omega
  have hb : Below w.heap.size w (w.alloc (.cells #[vm, .slice (some ⟨g, 0, none⟩) m.harts.length cap, .slice none 0 0, .int .i64 0] tB)) := Below.alloc (Below.refl _ _) (Nat.le_refl _) _
  refine ⟨g, cap, rfl, hB, hg, by simp, by simp [startM], by simp, by simp [startM], fun o => by unfold World.frozen?; rw [heap_alloc_new]; simp, hat.below hb, Nat.lt_of_lt_of_le hg hb.size, fun o => (hb.frozen (p := ⟨g, o, none⟩) hg).trans (hf o), (owns_sl h1).below hb, fun b off n c e => ?_, fun k e => ?_, World.ownsRow_nil _ _ _ _, hn, hm⟩
  · rcases owns_open h1 with ⟨rfl, _⟩ | ⟨g1, c1, rfl, _, hg1, _, _, _, hf1⟩
    · cases e
    · cases e
      exact ⟨Nat.lt_of_lt_of_le hg1 hb.size, fun o => (hb.frozen (p := ⟨b, o, none⟩) hg1).trans (hf1 o)⟩
  · exact ⟨(h1.lt k e).2, fun e2 => hne k e (by rw [e2]; rfl)⟩
section
variable {bp bh hc cp k : Nat} {vm vo : Value} {ty : TypeId} {o0 o : List Int} {fr tw : Int} {w w' : World} {s : St}
theorem CoreAt.move {hb ho : Nat} {d : CoreD} {h' : Hart} (h : CoreAt cp hb ho vm ty w d) (hcp : w'.heap[cp]? = w.heap[cp]?) (hvm : ∀ k, vm.ownBlock = some k → w'.heap[k]? = w.heap[k]?) (hrow : ∀ k, cp < k → k < w.heap.size → w'.heap[k]? = w.heap[k]?)
    (hsz : w.heap.size ≤ w'.heap.size) (hat : At w' hb ho (hlist h')) (hfz : ∀ o, w'.frozen? ⟨hb, o, none⟩ = false) : CoreAt cp hb ho vm ty w' { d with h := h' } := by
  refine ⟨h.hbl, (cell_block hcp _).trans h.ptr, (cell_block hcp _).trans h.mem, (cell_block hcp _).trans h.fr, (cell_block hcp _).trans h.tw, fun o => (frozen_block hcp o).trans (h.frz o), hat, hfz, sl_block h.bytes hvm, fun b off n c e => ?_, ?_, h.mlt⟩
  · obtain ⟨x1, x2, x3, x4⟩ := h.mfz b off n c e
    exact ⟨x1, x2, by omega, fun o => (frozen_block (hvm b (by rw [e]; rfl)) o).trans (x4 o)⟩
  · obtain ⟨vo', y1, y2⟩ := h.row
    refine ⟨vo', (cell_block hcp _).trans y1, owns_block y2 (fun g hg => ?_)⟩
    have := y2.lt g hg
    exact hrow g (by omega) this.2
theorem Bd.lt (h : Bd bp bh hc vm vo ty w s) : bp < w.heap.size := lt_of_cell h.c0
theorem Bd.below (h : Bd bp bh hc vm vo ty w s) (hb : Below w.heap.size w w') : Bd bp bh hc vm vo ty w' s := by
  have hl := h.lt
  have e := hb.block bp hl
  have eh := hb.block bh h.hlt
  refine ⟨h.b1, (cell_block e _).trans h.c0, (cell_block e _).trans h.c1, (cell_block e _).trans h.c2, (cell_block e _).trans h.c3, fun o => (frozen_block e o).trans (h.frz o), h.harts.below hb, Nat.lt_of_lt_of_le h.hlt hb.size, fun o => (frozen_block eh o).trans (h.hfz o), h.bytes.below hb, fun b off n c e => ?_, h.mlt, owns_below h.own hb, h.hcap⟩
  obtain ⟨x1, x2⟩ := h.mfz b off n c e
  exact ⟨Nat.lt_of_lt_of_le x1 hb.size, fun o => (frozen_block (hb.block b x1) o).trans (x2 o)⟩
/-- a hart goes to work -/
theorem Bd.start {tC : TypeId} (h : Bd bp bh hc vm vo ty w s) (wf : s.Wf) (hk : k < s.harts.length) :
    Wk bp bh hc w.heap.size k vm vo ty s.out [] 0 0 (w.alloc (.cells #[.pointer (some ⟨bh, k * 37, none⟩), vm, .slice none 0 0, .int .u32 0, .int .u32 0] tC)) s := by
  have hB : Below w.heap.size w (w.alloc (.cells #[.pointer (some ⟨bh, k * 37, none⟩), vm, .slice none 0 0, .int .u32 0, .int .u32 0] tC)) := Below.alloc (Below.refl _ _) (Nat.le_refl _) _
  have h2 := h.below hB
  have hat := at_hart h.harts (fun x hx => hlist_length (wf.harts x hx)) hk
  rw [← St.hart_at hk] at hat
  refine ⟨CoreAt.init hat h.hfz h.hlt h.bytes (fun b off n c e => ⟨(h.mlt b (by rw [e]; rfl)).2, h.mfz b off n c e⟩) (fun k e => Nat.lt_trans (h.mlt k e).1 h.lt), h.b1, h.lt, h2.c0, h2.c1, h2.c2, h2.c3, h2.frz, h2.harts, h.mlt, h2.own, fun g hg => (h.own.lt g hg).2, hk, h.hcap⟩
theorem Wk.clt (h : Wk bp bh hc cp k vm vo ty o0 o fr tw w s) : cp < w.heap.size := h.core.lt
theorem Wk.below (h : Wk bp bh hc cp k vm vo ty o0 o fr tw w s) (hb : Below w.heap.size w w') : Wk bp bh hc cp k vm vo ty o0 o fr tw w' s := by
  have e := hb.block bp (Nat.lt_trans h.b2 h.clt)
  exact ⟨h.core.below hb, h.b1, h.b2, (cell_block e _).trans h.c0, (cell_block e _).trans h.c1, (cell_block e _).trans h.c2, (cell_block e _).trans h.c3, fun o => (frozen_block e o).trans (h.frz o), h.harts.below hb, h.mlt, owns_below h.own hb, h.vlt, h.kl, h.hcap⟩
theorem Wk.drewN (h : Wk bp bh hc cp k vm vo ty o0 o fr tw w s) (n : Nat) : Wk bp bh hc cp k vm vo ty o0 o fr tw (w.drewN n) s := h.below (below_drewN (Below.refl _ _) _)
/-- the steps are told -/
theorem Wk.tick (h : Wk bp bh hc cp k vm vo ty o0 o fr tw w s) (n : Nat) : Wk bp bh hc cp k vm vo ty o0 o fr tw (w.setCell ⟨bp, 3, none⟩ (.int .i64 n)) { s with steps := n } := by
  have b1 := h.b1
  have b2 := h.b2
  have hbk : ∀ j, j ≠ bp → (w.setCell ⟨bp, 3, none⟩ (.int .i64 n)).heap[j]? = w.heap[j]? := fun j hj => Below.heap_setCell _ _ _ _ (by show j ≠ bp; exact hj)
  have hc : ∀ j, j ≠ 3 → (w.setCell ⟨bp, 3, none⟩ (.int .i64 n)).cell? ⟨bp, j, none⟩ = w.cell? ⟨bp, j, none⟩ := fun j hj => World.cell?_setCell_other _ _ _ _ (by intro e; injection e with _ e2; omega)
  refine ⟨h.core.move (h' := s.hart k) (hbk cp (by omega)) (fun g hg => hbk g (by have := h.mlt g hg; omega)) (fun g hg _ => hbk g (by omega)) (by simp) (h.core.hart.set_other (by show bp ≠ bh; omega) _) (fun o => (World.frozen?_setCell _ _ _ _).trans (h.core.hfz o)), h.b1, h.b2, (hc 0 (by omega)).trans h.c0, (hc 1 (by omega)).trans h.c1, (hc 2 (by omega)).trans h.c2, World.cell?_setCell_same _ _ _ h.c3, fun o => (World.frozen?_setCell _ _ _ _).trans (h.frz o), h.harts.set_other (by show bp ≠ bh; omega) _, h.mlt, owns_block h.own (fun g hg => hbk g (by have := h.own.lt g hg; omega)), h.vlt, h.kl, h.hcap⟩
/-- the hart at work does a step -/
theorem Wk.go {d : CoreD} (h : Wk bp bh hc cp k vm vo ty o0 o fr tw w s) (wf : s.Wf) (hd : d.h.Wf) (hc' : CoreAt cp bh (k * 37) vm ty w' d) (hg : Cgo cp bh (k * 37) vm ty w w') :
    Wk bp bh hc cp k vm vo ty o0 d.out d.fr d.tw w' ⟨s.harts.set k d.h, d.m, s.out, s.steps⟩ := by
  have b1 := h.b1
  have b2 := h.b2
  have hl := h.clt
  have e := hg.block bp (by omega) (by omega) (fun e => by have := h.mlt _ e; omega) (.inl h.b2)
  have ek : (⟨s.harts.set k d.h, d.m, s.out, s.steps⟩ : St).hart k = d.h := by
    rw [St.hart_at (by show k < (s.harts.set k d.h).length; rw [List.length_set]; exact h.kl)]
    show (s.harts.set k d.h)[k]'_ = _
    rw [List.getElem_set, if_pos rfl]
  refine ⟨by rw [ek]; exact hc', h.b1, h.b2, (cell_block e _).trans h.c0, (cell_block e _).trans (by rw [h.c1]; simp), (cell_block e _).trans h.c2, (cell_block e _).trans h.c3, fun o => (frozen_block e o).trans (h.frz o),
    at_harts_set h.harts (fun x hx => hlist_length (wf.harts x hx)) (hlist_length hd) hc'.hart hg.cell, h.mlt, owns_block h.own (fun g hg' => ?_), h.vlt, by show k < (s.harts.set k d.h).length; rw [List.length_set]; exact h.kl, by show (s.harts.set k d.h).length ≤ _ ∧ _; rw [List.length_set]; exact h.hcap⟩
  have := h.own.lt g hg'
  exact hg.block g this.2 (by omega) (fun e => by have := h.mlt _ e; omega) (.inl (h.vlt g hg'))
/-- others have lost what they had reserved -/
theorem Wk.lost {hs : List Hart} (h : Wk bp bh hc cp k vm vo ty o0 o fr tw w s) (wf : ∀ h ∈ hs, h.Wf) (hl : hs.length = s.harts.length) (hk : ∀ h' : k < hs.length, hs[k] = s.hart k) (ha : At w' bh 0 (hs.flatMap hlist)) (hg : Chg (fun p => p.block = bh) w w') :
    Wk bp bh hc cp k vm vo ty o0 o fr tw w' { s with harts := hs } := by
  have b1 := h.b1
  have b2 := h.b2
  have hlt := h.clt
  have kl : k < hs.length := by rw [hl]; exact h.kl
  have hbk : ∀ j, j < w.heap.size → j ≠ bh → w'.heap[j]? = w.heap[j]? := fun j hj hn => hg.block j hj (fun o e => hn e)
  have e := hbk bp (by omega) (by omega)
  have ek : (⟨hs, s.mem, s.out, s.steps⟩ : St).hart k = s.hart k := (St.hart_at kl).trans (hk kl)
  have hat := at_hart ha (fun x hx => hlist_length (wf x hx)) kl
  rw [hk kl] at hat
  refine ⟨by
      show CoreAt cp bh (k * 37) vm ty w' ⟨(⟨hs, s.mem, s.out, s.steps⟩ : St).hart k, s.mem, o, fr, tw⟩
      rw [ek]
      exact h.core.move (h' := s.hart k) (hbk cp hlt (by omega)) (fun g hg => hbk g (by have := h.mlt g hg; omega) (h.mlt g hg).2) (fun g hg hg2 => hbk g hg2 (by omega)) hg.size hat (fun o => (hg.frozen ⟨bh, o, none⟩ (by show bh < _; omega)).trans (h.core.hfz o)), h.b1, h.b2, (cell_block e _).trans h.c0, (cell_block e _).trans (by rw [h.c1, ← hl]), (cell_block e _).trans h.c2, (cell_block e _).trans h.c3, fun o => (frozen_block e o).trans (h.frz o),
    ha, h.mlt, owns_block h.own (fun g hg' => ?_), h.vlt, kl, by rw [show ({ s with harts := hs } : St).harts.length = s.harts.length from hl]; exact h.hcap⟩
  have := h.own.lt g hg'
  exact hbk g this.2 (by omega)
/-- what came out is laid behind what had come out -/
theorem Wk.stop {v' : Value} {w1 : World} (h : Wk bp bh hc cp k vm vo ty o0 o fr tw w s) (hown : w1.ownsRow (bp + 1) ty 1 v' (o0.length + o.length) (o0.map (Value.int .u32) ++ o.map (Value.int .u32))) (hg : w.grownBy w1 vo.ownBlock) :
    Bd bp bh hc vm v' ty (w1.setCell ⟨bp, 2, none⟩ v') { s with out := o0 ++ o } := by
  have b1 := h.b1
  have b2 := h.b2
  have hlt := h.clt
  have hfar : ∀ j, j < w.heap.size → j ≤ bp → w1.heap[j]? = w.heap[j]? := fun j hj hn => hg.block j hj (fun e => by have := h.own.lt j e.symm; omega)
  have hbk : ∀ j, j < bp → (w1.setCell ⟨bp, 2, none⟩ v').heap[j]? = w.heap[j]? := fun j hj => (Below.heap_setCell _ _ _ _ (by show j ≠ bp; omega)).trans (hfar j (by omega) (by omega))
  have e := hfar bp (by omega) (Nat.le_refl _)
  have hc : ∀ j, j ≠ 2 → (w1.setCell ⟨bp, 2, none⟩ v').cell? ⟨bp, j, none⟩ = w.cell? ⟨bp, j, none⟩ := fun j hj => (World.cell?_setCell_other _ _ _ _ (by intro e; injection e with _ e2; omega)).trans (cell_block e _)
  have hs := hg.size
  refine ⟨h.b1, (hc 0 (by omega)).trans h.c0, (hc 1 (by omega)).trans h.c1, World.cell?_setCell_same _ _ _ ((cell_block e 2).trans h.c2), (hc 3 (by omega)).trans h.c3, fun o => (World.frozen?_setCell _ _ _ _).trans ((frozen_block e o).trans (h.frz o)), fun j hj => (cell_block (hbk bh b1) _).trans (h.harts j hj), by simp; omega, fun o => (frozen_block (hbk bh b1) o).trans (h.core.hfz o), sl_block h.core.bytes (fun g hg' => hbk g (h.mlt g hg').1), fun b off n c e => ?_, h.mlt, ?_, h.hcap⟩
  · have hb := (h.mlt b (by rw [e]; rfl)).1
    exact ⟨by simp; omega, fun o => (frozen_block (hbk b hb) o).trans ((h.core.mfz b off n c e).2.2.2 o)⟩
  · have := ownsRow_setCell_below hown (a := ⟨bp, 2, none⟩) (Nat.lt_succ_self bp) v'
    simpa using this
end
end Go.Proofs.Ytlfnddmncbkjaab.Fb

/- The reader of bytes, in memory. No program in sight. -/
namespace Go.Proofs.Ytlfnddmncbkjaab.Fb
set_option linter.unusedVariables false
set_option linter.unusedSimpArgs false
open Go.RowKit
/-- the reader at rp: what is left, and whether it is bad -/
structure RdAt (rp : Nat) (w : World) (s : Rd) : Prop where
  v : ∃ v, w.cell? ⟨rp, 0, none⟩ = some v ∧ Ints .u8 w v s.1 ∧ (s.1 ≠ [] → ∀ k, v.ownBlock = some k → k < rp)
  bad : w.cell? ⟨rp, 1, none⟩ = some (.bool s.2)
  frz : ∀ o, w.frozen? ⟨rp, o, none⟩ = false
  lt : rp < w.heap.size
theorem RdAt.below {rp : Nat} {w w' : World} {s : Rd} (h : RdAt rp w s) (hb : Below w.heap.size w w') : RdAt rp w' s := by
  obtain ⟨v, h1, h2, h3⟩ := h.v
  have e := hb.block rp h.lt
  exact ⟨⟨v, (cell_block e _).trans h1, h2.below hb, h3⟩, (cell_block e _).trans h.bad, fun o => (frozen_block e o).trans (h.frz o), Nat.lt_of_lt_of_le h.lt hb.size⟩
theorem ints_set {k : IntKind} {w : World} {v : Value} {l : List Int} {rp : Nat} (h : Ints k w v l) (hn : l ≠ [] → ∀ k, v.ownBlock = some k → k < rp) {p : Addr} (hp : rp ≤ p.block) (u : Value) : Ints k (w.setCell p u) v l := by
  by_cases hl : l = []
  · subst hl
    obtain ⟨h1, ao, cap, h2, h3, h4, h5, h6⟩ := h
    exact ⟨h1, ao, cap, h2, h3, h4, h5, fun a _ hx => absurd rfl hx⟩
  · exact Sl.set_other h (fun b off n c e => by have := hn hl b (by rw [e]; rfl); omega) u
theorem RdAt.setBad {rp : Nat} {w : World} {s : Rd} (h : RdAt rp w s) (b : Bool) : RdAt rp (w.setCell ⟨rp, 1, none⟩ (.bool b)) (s.1, b) := by
  obtain ⟨v, h1, h2, h3⟩ := h.v
  exact ⟨⟨v, (World.cell?_setCell_other _ _ _ _ (by intro e; injection e with _ e2; omega)).trans h1, ints_set h2 h3 (Nat.le_refl _) _, h3⟩, World.cell?_setCell_same _ _ _ h.bad, fun o => (World.frozen?_setCell _ _ _ _).trans (h.frz o), by simpa using h.lt⟩
theorem RdAt.setV {rp : Nat} {w : World} {s : Rd} (h : RdAt rp w s) {v : Value} {l : List Int} (hv : Ints .u8 w v l) (hn : l ≠ [] → ∀ k, v.ownBlock = some k → k < rp) : RdAt rp (w.setCell ⟨rp, 0, none⟩ v) (l, s.2) := by
  obtain ⟨v0, h1, h2, h3⟩ := h.v
  exact ⟨⟨v, World.cell?_setCell_same _ _ _ h1, ints_set hv hn (Nat.le_refl _) _, hn⟩, (World.cell?_setCell_other _ _ _ _ (by intro e; injection e with _ e2; omega)).trans h.bad, fun o => (World.frozen?_setCell _ _ _ _).trans (h.frz o), by simpa using h.lt⟩
theorem chg_set {w0 w : World} {rp : Nat} (h : Chg (fun p => p.block = rp) w0 w) (o : Nat) (u : Value) : Chg (fun p => p.block = rp) w0 (w.setCell ⟨rp, o, none⟩ u) :=
  ⟨h.os, h.tape, h.output, by simpa using h.size, fun k hk hn => (Below.heap_setCell _ _ _ _ (by show k ≠ rp; intro e; exact hn 0 e)).trans (h.block k hk hn), fun p hp hn => (World.cell?_setCell_other _ _ _ _ (by intro e; exact hn (by rw [← e]))).trans (h.cell p hp hn), fun p hp => (World.frozen?_setCell _ _ _ _).trans (h.frozen p hp)⟩
/-- a slice cut at n: the first part, and the rest -/
theorem Ints.cut {k : IntKind} {w : World} {ao : Option Addr} {cap : Nat} {l : List Int} (h : Ints k w (.slice ao l.length cap) l) (n : Nat) (hn : n ≤ l.length) : Ints k w (.slice ao n cap) (l.take n) := by
  obtain ⟨h1, ao', cap', h2, h3, h4, h5, h6⟩ := h
  cases h2
  refine ⟨by simp, ao, cap, by rw [List.length_take, Nat.min_eq_left hn], by rw [List.length_take]; omega, h4, h5, fun a ha hx => ?_⟩
  have hne : l.map (Value.int k) ≠ [] := by intro e; rw [List.map_eq_nil_iff] at e; subst e; simp at hx
  obtain ⟨h7, h8⟩ := h6 a ha hne
  refine ⟨h7, fun j hj => ?_⟩
  rw [List.length_map, List.length_take] at hj
  rw [h8 j (by rw [List.length_map]; omega)]
  simp
theorem Ints.rest {k : IntKind} {w : World} {b off cap : Nat} {l : List Int} (h : Ints k w (.slice (some ⟨b, off, none⟩) l.length cap) l) (n : Nat) (hn : n ≤ l.length) : Ints k w (.slice (some ⟨b, off + n, none⟩) (l.length - n) (cap - n)) (l.drop n) := by
  obtain ⟨h1, ao', cap', h2, h3, h4, h5, h6⟩ := h
  cases h2
  refine ⟨by simp, _, cap - n, by rw [List.length_drop], by rw [List.length_drop]; omega, by unfold maxLen at *; omega, (by intro e; cases e), fun a ha hx => ?_⟩
  cases ha
  have hne : l.map (Value.int k) ≠ [] := by intro e; rw [List.map_eq_nil_iff] at e; subst e; simp at hx
  obtain ⟨h7, h8⟩ := h6 _ rfl hne
  refine ⟨rfl, fun j hj => ?_⟩
  rw [List.length_map, List.length_drop] at hj
  have := h8 (n + j) (by rw [List.length_map]; omega)
  rw [show off + n + j = off + (n + j) by omega]
  rw [this]
  simp
theorem Ints.empty {k : IntKind} {w : World} (ao : Option Addr) (cap : Nat) (h1 : cap ≤ maxLen) (h2 : ao = none → cap = 0) : Ints k w (.slice ao 0 cap) [] :=
  ⟨rfl, ao, cap, rfl, Nat.zero_le _, h1, h2, fun a _ hx => absurd rfl hx⟩
end Go.Proofs.Ytlfnddmncbkjaab.Fb

/- The document's step, as a struct of 41 cells. No program in sight. -/
namespace Go.Proofs.Ytlfnddmncbkjaab.Fb
set_option linter.unusedVariables false
set_option linter.unusedSimpArgs false
open Go.RowKit
structure DidD where
  h : Hart
  vm : Value
  vo : Value
  fr : Int
  many : Int
def dtail (d : DidD) : List Value := [d.vm, d.vo, .int .u32 d.fr, .int .i64 d.many]
def dlist (d : DidD) : List Value := hlist d.h ++ dtail d
def dcells (d : DidD) : Array Value := (dlist d).toArray
def DidD.set (d : DidD) (r x : Int) : DidD := { d with h := d.h.setReg r x }
def DidD.trap (d : DidD) (c : Int) : DidD := { d with h := d.h.trap c }
def did0 : DidD := ⟨hart0, .slice none 0 0, .slice none 0 0, 0, 0⟩
structure DidD.Ok (d : DidD) : Prop where
  len : d.h.regs.length = 32
  m1 : d.vm.oneCell' = true
  o1 : d.vo.oneCell' = true
theorem hlist_len {h : Hart} (wf : h.regs.length = 32) : (hlist h).length = 37 := by simp [hlist, wf]
theorem dlist_len {d : DidD} (h : d.Ok) : (dlist d).length = 41 := by
  rw [dlist, List.length_append, hlist_len h.len]; rfl
theorem dcells_size {d : DidD} (h : d.Ok) : (dcells d).size = 41 := by simp [dcells, dlist_len h]
theorem dlist_one {d : DidD} (h : d.Ok) : ∀ v ∈ (dcells d).toList, v.oneCell' = true := by
  intro v hv
  have hv' : v ∈ dlist d := by simpa [dcells] using hv
  rcases List.mem_append.1 hv' with h1 | h1
  · exact hlist_one d.h v (by simpa [hcells] using h1)
  · simp only [dtail, List.mem_cons, List.not_mem_nil, or_false] at h1
    rcases h1 with rfl | rfl | rfl | rfl
    · exact h.m1
    · exact h.o1
    · rfl
    · rfl
theorem dlist_all {d : DidD} (h : d.Ok) : (dcells d).all (·.oneCell') = true := Array.all_eq_true_iff_forall_mem.2 (fun v hv => dlist_one h v (by simpa using hv))
theorem dlist_h {d : DidD} {j : Nat} {v : Value} (h : (hlist d.h)[j]? = some v) : (dlist d)[j]? = some v := by
  rw [dlist, List.getElem?_append_left (List.getElem?_eq_some_iff.1 h).1]; exact h
theorem dlist_t {d : DidD} (h : d.h.regs.length = 32) (j : Nat) : (dlist d)[37 + j]? = (dtail d)[j]? := by
  rw [dlist, List.getElem?_append_right (by rw [hlist_len h]; omega), hlist_len h, Nat.add_sub_cancel_left]
theorem dlist_setH {d : DidD} {h' : Hart} {j : Nat} {v : Value} (hl : hlist h' = (hlist d.h).set j v) (hj : j < (hlist d.h).length) : dlist { d with h := h' } = (dlist d).set j v := by
  unfold dlist
  rw [List.set_append_left _ _ hj]
  show hlist h' ++ dtail d = _
  rw [hl]
theorem dlist_setT {d d' : DidD} (hh : d'.h = d.h) (h : d.h.regs.length = 32) {j : Nat} {v : Value} (ht : dtail d' = (dtail d).set j v) : dlist d' = (dlist d).set (37 + j) v := by
  unfold dlist
  rw [List.set_append_right _ _ (by rw [hlist_len h]; omega), hlist_len h, Nat.add_sub_cancel_left, hh, ht]
theorem box_did (d : DidD) (w : World) (t : TypeId) : At (w.alloc (.cells (dcells d) t)) w.heap.size 0 (dlist d) := at_alloc w (dlist d) t (0, 0)
theorem results_c1 {P : Program} {fn : Func} {a : Tmp} {t : TypeId} (h : fn.results = #[.cell a t]) (tmps : Array Value) {p : Addr} {w : World} {v : Value} (hp : tmps.getD a undef = .pointer (some p)) (hl : (loadVar t p).run P w = .ok v w) :
    (results fn tmps).run P w = .ok v w := by
  have hp' : tmps[a]?.getD undef = .pointer (some p) := by rw [← hp]; simp
  simp [results, h, hp', hl, Sem.run_bind, asAddr]
theorem results_c1t {P : Program} {fn : Func} {a x : Tmp} {t : TypeId} (h : fn.results = #[.cell a t, .tmp x]) (tmps : Array Value) {p : Addr} {w : World} {v : Value} (hp : tmps.getD a undef = .pointer (some p)) (hl : (loadVar t p).run P w = .ok v w) :
    (results fn tmps).run P w = .ok (.tuple #[v, tmps.getD x undef]) w := by
  have hp' : tmps[a]?.getD undef = .pointer (some p) := by rw [← hp]; simp
  simp [results, h, hp', hl, Sem.run_bind, asAddr]
theorem did0_ok : did0.Ok := ⟨rfl, rfl, rfl⟩
/-- what a function on a Did begins with: its box, and its answer's cells behind it -/
structure DBox (B R : Nat) (tD : TypeId) (w : World) (d : DidD) : Prop where
  at_ : At w B 0 (dlist d)
  frz : ∀ o, w.frozen? ⟨B, o, none⟩ = false
  there : w.there R 0 41
theorem DBox.begin {w : World} {tD : TypeId} {d : DidD} {z : Array Value} (hz : z.size = 41) : DBox w.heap.size (w.heap.size + 1) tD ((w.alloc (.cells (dcells d) tD)).alloc (.cells z tD)) d := by
  have hB : Below (w.heap.size + 1) (w.alloc (.cells (dcells d) tD)) ((w.alloc (.cells (dcells d) tD)).alloc (.cells z tD)) := Below.alloc (Below.refl _ _) (by simp) _
  refine ⟨(box_did d w tD).below (by have := hB; simpa using this), fun o => ?_, fun j hj => ?_⟩
  · rw [hB.frozen (p := ⟨w.heap.size, o, none⟩) (by show w.heap.size < _; omega)]
    unfold World.frozen?; rw [heap_alloc_new]; simp
  · have hn : ((w.alloc (.cells (dcells d) tD)).alloc (.cells z tD)).heap[w.heap.size + 1]? = some (.cells z tD (0, 0)) := by
      have := heap_alloc_new (w.alloc (.cells (dcells d) tD)) (.cells z tD)
      simpa using this
    have hj2 : 0 + j < z.size := by omega
    exact ⟨by unfold World.cell?; rw [hn]; simp; omega, by unfold World.frozen?; rw [hn]; simp⟩
theorem DBox.below {B R : Nat} {tD : TypeId} {w w' : World} {d : DidD} (h : DBox B R tD w d) (hB0 : B < w.heap.size) (hB : R < w.heap.size) (hb : Below w.heap.size w w') : DBox B R tD w' d :=
  ⟨h.at_.below hb, fun o => (hb.frozen (p := ⟨B, o, none⟩) hB0).trans (h.frz o), fun j hj => ⟨by rw [hb.cell (p := ⟨R, 0 + j, none⟩) hB]; exact (h.there j hj).1, by rw [hb.frozen (p := ⟨R, 0 + j, none⟩) hB]; exact (h.there j hj).2⟩⟩
theorem there_setCell {w : World} {b o n : Nat} (h : w.there b o n) (p : Addr) (hp : p.spot = none) (v : Value) : (w.setCell p v).there b o n := by
  obtain ⟨b', o', s⟩ := p
  simp only at hp
  subst hp
  have := World.there_setCells h b' o' [v]
  simpa [World.setCells] using this
/-- a cell of the box is laid -/
theorem DBox.set {B R : Nat} {tD : TypeId} {w : World} {d d' : DidD} (h : DBox B R tD w d) (j : Nat) (v : Value) (hj : j < (dlist d).length) (hl : dlist d' = (dlist d).set j v) : DBox B R tD (w.setCell ⟨B, j, none⟩ v) d' :=
  ⟨by rw [hl]; have := h.at_.set j hj v; simpa using this, fun o => (World.frozen?_setCell _ _ _ _).trans (h.frz o), there_setCell h.there _ rfl _⟩
theorem DBox.get {B R : Nat} {tD : TypeId} {w : World} {d : DidD} (h : DBox B R tD w d) {j : Nat} {v : Value} (hj : (dlist d)[j]? = some v) : w.cell? ⟨B, j, none⟩ = some v := by
  have := h.at_.get hj
  simpa using this
theorem DBox.drewN {B R : Nat} {tD : TypeId} {w : World} {d : DidD} (h : DBox B R tD w d) (n : Nat) : DBox B R tD (w.drewN n) d := ⟨h.at_, h.frz, h.there⟩
theorem DidD.Ok.setReg {d : DidD} (h : d.Ok) (r x : Int) : (d.set r x).Ok := ⟨by unfold DidD.set Hart.setReg; split <;> simp [h.len], h.m1, h.o1⟩
theorem hlist_pc' {h : Hart} (w : h.regs.length = 32) : (hlist h)[32]? = some (.int .u32 h.pc) := by simp [hlist, w]
theorem hlist_held' {h : Hart} (w : h.regs.length = 32) : (hlist h)[33]? = some (.bool h.held) := by simp [hlist, w]
theorem hlist_heldAt' {h : Hart} (w : h.regs.length = 32) : (hlist h)[34]? = some (.int .u32 h.heldAt) := by simp [hlist, w]
theorem hlist_state' {h : Hart} (w : h.regs.length = 32) : (hlist h)[35]? = some (.int .i64 h.state) := by simp [hlist, w]
theorem hlist_cause' {h : Hart} (w : h.regs.length = 32) : (hlist h)[36]? = some (.int .i64 h.cause) := by simp [hlist, w]
theorem hlist_reg' {h : Hart} (w : h.regs.length = 32) (k : Nat) (hk : k < 32) : (hlist h)[k]? = some (.int .u32 (h.regs.getD k 0)) := by
  have : k < h.regs.length := by rw [w]; exact hk
  simp [hlist, List.getElem?_append, this]
/-- the whole box is laid anew -/
theorem DBox.put {B R : Nat} {tD : TypeId} {w : World} {d d' : DidD} (h : DBox B R tD w d) (hd : d.Ok) (hd' : d'.Ok) : DBox B R tD (w.setCells B 0 (dcells d').toList) d' := by
  have ht : w.there B 0 (dcells d').toList.length := by
    have : (dcells d').toList.length = 41 := by simp [dcells, dlist_len hd']
    rw [this]
    exact there_at h.at_ (dlist_len hd) h.frz
  refine ⟨?_, fun o => by rw [World.frozen?_setCells]; exact h.frz o, World.there_setCells h.there _ _ _⟩
  have hr := World.rangeAt_setCells_same w B 0 (dcells d').toList ht
  intro j hj
  have := hr j (dlist d')[j] (by simp [dcells, hj])
  exact this
theorem DBox.thereB {B R : Nat} {tD : TypeId} {w : World} {d d' : DidD} (h : DBox B R tD w d) (hd : d.Ok) (hd' : d'.Ok) : w.there B 0 (dcells d').size := by
  rw [dcells_size hd']; exact there_at h.at_ (dlist_len hd) h.frz
theorem DBox.other {B R : Nat} {tD : TypeId} {w : World} {d : DidD} (h : DBox B R tD w d) {p : Addr} (hp : p.block ≠ B) (hs : p.spot = none) (v : Value) : DBox B R tD (w.setCell p v) d :=
  ⟨h.at_.set_other hp v, fun o => (World.frozen?_setCell _ _ _ _).trans (h.frz o), there_setCell h.there _ hs _⟩
/-- a Did, as a hart at work -/
structure DidOf (w : World) (d : DidD) (c : CoreD) : Prop where
  h : d.h = c.h
  m : Ints .u8 w d.vm c.m
  o : Ints .u32 w d.vo c.out
  fr : d.fr = c.fr
  many : d.many = c.tw - c.fr
theorem DidOf.below {w w' : World} {d : DidD} {c : CoreD} (h : DidOf w d c) (hb : Below w.heap.size w w') : DidOf w' d c := ⟨h.h, h.m.below hb, h.o.below hb, h.fr, h.many⟩
theorem Ints.one {k : IntKind} {w : World} {v : Value} {l : List Int} (h : Ints k w v l) : v.oneCell' = true := by
  obtain ⟨ao, cap, rfl, _⟩ := h.open
  rfl
theorem DidOf.ok {w : World} {d : DidD} {c : CoreD} (h : DidOf w d c) (wf : c.Wf) : d.Ok := ⟨by rw [h.h]; exact wf.h.len, h.m.one, h.o.one⟩
theorem DidOf.set {w : World} {d : DidD} {c : CoreD} (h : DidOf w d c) (r x : Int) : DidOf w (d.set r x) (c.set r x) := ⟨by show d.h.setReg r x = c.h.setReg r x; rw [h.h], h.m, h.o, h.fr, h.many⟩
theorem DidOf.trap {w : World} {d : DidD} {c : CoreD} (h : DidOf w d c) (x : Int) : DidOf w (d.trap x) (c.trap x) := ⟨by show d.h.trap x = c.h.trap x; rw [h.h], h.m, h.o, h.fr, h.many⟩
theorem DidOf.setPc {w : World} {d : DidD} {c : CoreD} (h : DidOf w d c) (x : Int) : DidOf w { d with h := { d.h with pc := x } } (c.setPc x) := ⟨by show ({ d.h with pc := x } : Hart) = { c.h with pc := x }; rw [h.h], h.m, h.o, h.fr, h.many⟩
theorem DidOf.hold {w : World} {d : DidD} {c : CoreD} (h : DidOf w d c) (b : Bool) (x : Int) : DidOf w { d with h := { d.h with held := b, heldAt := x } } (c.hold b x) := ⟨by show ({ d.h with held := b, heldAt := x } : Hart) = { c.h with held := b, heldAt := x }; rw [h.h], h.m, h.o, h.fr, h.many⟩
theorem DidOf.put {w : World} {d : DidD} {c : CoreD} {v : Value} {op at_ x : Int} (h : DidOf w d c) (hq : mStoreOk c.m op at_ = true) (ha : U32 at_) (hl : c.m.length ≤ 4096) (hv : Ints .u8 w v (mStore c.m op at_ x)) :
    DidOf w { d with vm := v, fr := at_, many := msize op } (c.put op at_ x) := by
  have hs : 0 < msize op ∧ at_ + msize op ≤ c.m.length := by simp [mStoreOk, there] at hq; omega
  have ha1 := ha.1
  have e : c.put op at_ x = { c with m := mStore c.m op at_ x, fr := at_, tw := (at_ + msize op) % 4294967296 } := by unfold CoreD.put; rw [if_pos hq]
  rw [e]
  refine ⟨h.h, hv, h.o, rfl, ?_⟩
  show msize op = (at_ + msize op) % 4294967296 - at_
  omega
theorem fresh_ne {v : Value} {S R : Nat} (hf : ∀ q, v.ownBlock = some q → S ≤ q) (hR : R < S) : ∀ b off n c, v = .slice (some ⟨b, off, none⟩) n c → R ≠ b := fun b off n c e => by
  have := hf b (by rw [e]; rfl)
  omega
theorem DidOf.setCells {w : World} {d : DidD} {c : CoreD} (h : DidOf w d c) {R : Nat} (h1 : ∀ b off n c, d.vm = .slice (some ⟨b, off, none⟩) n c → R ≠ b) (h2 : ∀ b off n c, d.vo = .slice (some ⟨b, off, none⟩) n c → R ≠ b) (o : Nat) (vs : List Value) : DidOf (w.setCells R o vs) d c :=
  ⟨h.h, sl_setCells h1 _ _ _ h.m, sl_setCells h2 _ _ _ h.o, h.fr, h.many⟩
theorem put_hold (c : CoreD) (b : Bool) (x op at_ y : Int) : (c.hold b x).put op at_ y = (c.put op at_ y).hold b x := by
  unfold CoreD.put CoreD.hold
  dsimp only
  split <;> rfl
theorem store_load (l : List Int) (a : Int) : mStoreOk l 18 a = mLoadOk l 13 a := rfl
theorem DBox.begin2 {w : World} {tD : TypeId} {d : DidD} {z : Array Value} {o : Obj} (hz : z.size = 41) : DBox w.heap.size (w.heap.size + 2) tD (((w.alloc (.cells (dcells d) tD)).alloc o).alloc (.cells z tD)) d := by
  have hB : Below (w.heap.size + 1) (w.alloc (.cells (dcells d) tD)) (((w.alloc (.cells (dcells d) tD)).alloc o).alloc (.cells z tD)) := (Below.alloc (Below.refl _ _) (by simp) _).alloc (by simp) _
  refine ⟨(box_did d w tD).below (by have := hB; simpa using this), fun o => ?_, fun j hj => ?_⟩
  · rw [hB.frozen (p := ⟨w.heap.size, o, none⟩) (by show w.heap.size < _; omega)]
    unfold World.frozen?; rw [heap_alloc_new]; simp
  · have hn : (((w.alloc (.cells (dcells d) tD)).alloc o).alloc (.cells z tD)).heap[w.heap.size + 2]? = some (.cells z tD (0, 0)) := by
      have := heap_alloc_new ((w.alloc (.cells (dcells d) tD)).alloc o) (.cells z tD)
      simpa using this
    exact ⟨by unfold World.cell?; rw [hn]; simp; omega, by unfold World.frozen?; rw [hn]; simp⟩
theorem size_setCells (b : Nat) : ∀ (vs : List Value) (o : Nat) (w : World), (w.setCells b o vs).heap.size = w.heap.size
  | [], _, _ => rfl
  | v :: r, o, w => by rw [World.setCells, size_setCells b r]; simp
theorem there_begin (h : Hart) {w : World} {tH tD : TypeId} : ((w.alloc (.cells (hcells h) tH)).alloc (.cells (dcells did0) tD)).there (w.heap.size + 1) 0 41 := fun j hj => by
  have hn : ((w.alloc (.cells (hcells h) tH)).alloc (.cells (dcells did0) tD)).heap[w.heap.size + 1]? = some (.cells (dcells did0) tD (0, 0)) := by
    have := heap_alloc_new (w.alloc (.cells (hcells h) tH)) (.cells (dcells did0) tD)
    simpa using this
  have hz : (dcells did0).size = 41 := rfl
  exact ⟨by unfold World.cell?; rw [hn]; simp; omega, by unfold World.frozen?; rw [hn]; simp⟩
theorem DBox.begin3 {w : World} {tD : TypeId} {d : DidD} {R : Nat} (hR : w.there R 0 41) (hl : R < w.heap.size) : DBox w.heap.size R tD (w.alloc (.cells (dcells d) tD)) d := by
  refine ⟨box_did d w tD, fun o => ?_, World.there_alloc hR _⟩
  unfold World.frozen?; rw [heap_alloc_new]; simp
theorem ints_inj {k : IntKind} {w : World} {v : Value} {l m : List Int} (h : Ints k w v l) (h' : Ints k w v m) : l = m := by
  obtain ⟨ao, cap, rfl, _, _, _, ho⟩ := h.open
  obtain ⟨ao', cap', e, _, _, _, ho'⟩ := h'.open
  injection e with e1 e2 e3
  subst e1
  by_cases hl : l = []
  · rw [hl] at e2
    rw [hl]
    exact (List.eq_nil_of_length_eq_zero (by simpa using e2.symm)).symm
  · have hm : m ≠ [] := by
      intro e; rw [e] at e2; exact hl (List.eq_nil_of_length_eq_zero (by simpa using e2))
    obtain ⟨b, off, rfl, _, hc⟩ := ho hl
    obtain ⟨b', off', e4, _, hc'⟩ := ho' hm
    injection e4 with e4
    injection e4 with e5 e6
    subst e5 e6
    apply List.ext_getElem e2
    intro i h1 h2
    have x1 := hc i h1
    have x2 := hc' i h2
    rw [x1] at x2
    injection x2 with x2
    injection x2 with _ x2
    rw [List.getD, List.getD, List.getElem?_eq_getElem h1, List.getElem?_eq_getElem h2] at x2
    exact x2
theorem ints_old {k : IntKind} {w w' wf : World} {v : Value} {l m : List Int} (h : Ints k w v l) (h' : Ints k w' v m) (hb : Below w.heap.size w w') (hf : Below w.heap.size w wf) : Ints k wf v m := by
  have := ints_inj (h.below hb) h'
  subst this
  exact h.below hf
end Go.Proofs.Ytlfnddmncbkjaab.Fb

/- A hart in a box, and cells behind which it is handed back. No program in sight. -/
namespace Go.Proofs.Ytlfnddmncbkjaab.Fb
set_option linter.unusedVariables false
set_option linter.unusedSimpArgs false
open Go.RowKit
structure HB (B R : Nat) (w : World) (h : Hart) : Prop where
  at_ : At w B 0 (hlist h)
  frz : ∀ o, w.frozen? ⟨B, o, none⟩ = false
  there : w.there R 0 37
  len : h.regs.length = 32
theorem HB.lt {B R : Nat} {w : World} {h : Hart} (k : HB B R w h) : B < w.heap.size := by
  have := k.at_ 0 (by rw [hlist_len k.len]; omega)
  exact lt_of_cell this
theorem HB.rlt {B R : Nat} {w : World} {h : Hart} (k : HB B R w h) : R < w.heap.size := by
  have := (k.there 0 (by omega)).1
  cases e : w.cell? ⟨R, 0 + 0, none⟩ with
  | none => rw [e] at this; cases this
  | some v => exact lt_of_cell e
theorem HB.set {B R : Nat} {w : World} {h h' : Hart} (k : HB B R w h) (j : Nat) (v : Value) (hj : j < 37) (hl : hlist h' = (hlist h).set j v) (hl2 : h'.regs.length = 32) : HB B R (w.setCell ⟨B, j, none⟩ v) h' :=
  ⟨by rw [hl]; have := k.at_.set j (by rw [hlist_len k.len]; exact hj) v; simpa using this, fun o => (World.frozen?_setCell _ _ _ _).trans (k.frz o), there_setCell k.there _ rfl _, hl2⟩
theorem HB.get {B R : Nat} {w : World} {h : Hart} (k : HB B R w h) {j : Nat} {v : Value} (hj : (hlist h)[j]? = some v) : w.cell? ⟨B, j, none⟩ = some v := by
  have := k.at_.get hj
  simpa using this
theorem there_block {w w' : World} {R n : Nat} (h : w.there R 0 n) (e : w'.heap[R]? = w.heap[R]?) : w'.there R 0 n := fun j hj => ⟨by rw [cell_block e]; exact (h j hj).1, by rw [frozen_block e]; exact (h j hj).2⟩
theorem HB.move {B R : Nat} {w w' : World} {h : Hart} (k : HB B R w h) (e1 : w'.heap[B]? = w.heap[B]?) (e2 : w'.heap[R]? = w.heap[R]?) : HB B R w' h :=
  ⟨fun j hj => (cell_block e1 _).trans (k.at_ j hj), fun o => (frozen_block e1 o).trans (k.frz o), there_block k.there e2, k.len⟩
theorem HB.chg {B R rp : Nat} {w w' : World} {h : Hart} (k : HB B R w h) (hg : Chg (fun p => p.block = rp) w w') (h1 : B ≠ rp) (h2 : R ≠ rp) : HB B R w' h :=
  k.move (hg.block B k.lt (fun _ e => h1 e)) (hg.block R k.rlt (fun _ e => h2 e))
theorem HB.begin (w : World) (t : TypeId) : HB (w.heap.size + 1) w.heap.size ((w.alloc (.cells (hcells hart0) t)).alloc (.cells (hcells hart0) t)) hart0 := by
  have hb : Below (w.heap.size + 1) (w.alloc (.cells (hcells hart0) t)) ((w.alloc (.cells (hcells hart0) t)).alloc (.cells (hcells hart0) t)) := Below.alloc (Below.refl _ _) (by simp) _
  have hz : (hcells hart0).size = 37 := rfl
  refine ⟨?_, fun o => ?_, fun j hj => ?_, rfl⟩
  · have := at_alloc (w.alloc (.cells (hcells hart0) t)) (hlist hart0) t (0, 0)
    rw [World.size_alloc] at this
    exact this
  · have := heap_alloc_new (w.alloc (.cells (hcells hart0) t)) (.cells (hcells hart0) t)
    have h2 : (w.alloc (.cells (hcells hart0) t)).heap.size = w.heap.size + 1 := by simp
    rw [h2] at this
    unfold World.frozen?
    rw [this]; simp
  · have e := hb.block w.heap.size (by omega)
    rw [heap_alloc_new] at e
    have hj2 : 0 + j < (hcells hart0).size := by omega
    exact ⟨by unfold World.cell?; rw [e]; simp; omega, by unfold World.frozen?; rw [e]; simp⟩
/-- a call that turns one block of those that were, behind cells laid in new ones -/
theorem chg_new {w0 w : World} {S : Addr → Prop} (h : Chg S w0 w) {p : Addr} (hp : w0.heap.size ≤ p.block) (u : Value) : Chg S w0 (w.setCell p u) :=
  ⟨h.os, h.tape, h.output, by simpa using h.size, fun k hk hn => (Below.heap_setCell _ _ _ _ (by omega)).trans (h.block k hk hn), fun q hq hn => (World.cell?_setCell_other _ _ _ _ (by intro e; rw [← e] at hq; omega)).trans (h.cell q hq hn), fun q hq => (World.frozen?_setCell _ _ _ _).trans (h.frozen q hq)⟩
theorem chg_news {w0 : World} {S : Addr → Prop} {b : Nat} (hp : w0.heap.size ≤ b) : ∀ (vs : List Value) (o : Nat) {w : World}, Chg S w0 w → Chg S w0 (w.setCells b o vs)
  | [], _, _, h => h
  | v :: r, o, _, h => chg_news hp r (o + 1) (chg_new h hp v)
/-- the reader, behind cells laid elsewhere -/
theorem RdAt.other {rp : Nat} {w : World} {s : Rd} (h : RdAt rp w s) {p : Addr} (hp : rp < p.block) (u : Value) : RdAt rp (w.setCell p u) s := by
  obtain ⟨v, h1, h2, h3⟩ := h.v
  have hne : ∀ o, (w.setCell p u).cell? ⟨rp, o, none⟩ = w.cell? ⟨rp, o, none⟩ := fun o => World.cell?_setCell_other _ _ _ _ (by intro e; rw [e] at hp; exact absurd hp (Nat.lt_irrefl _))
  exact ⟨⟨v, (hne _).trans h1, ints_set h2 h3 (Nat.le_of_lt hp) u, h3⟩, (hne _).trans h.bad, fun o => (World.frozen?_setCell _ _ _ _).trans (h.frz o), by simpa using h.lt⟩
theorem RdAt.others {rp b : Nat} {s : Rd} (hp : rp < b) : ∀ (vs : List Value) (o : Nat) {w : World}, RdAt rp w s → RdAt rp (w.setCells b o vs) s
  | [], _, _, h => h
  | v :: r, o, _, h => RdAt.others hp r (o + 1) (h.other (p := ⟨b, o, none⟩) hp v)
/-- a hart of which k registers are read -/
def partH (l : List Int) (k : Nat) : Hart := ⟨l ++ List.replicate (32 - k) 0, 0, false, 0, 0, 0⟩
theorem partH_set {l : List Int} {k : Nat} (hl : l.length = k) (hk : k < 32) (x : Int) : hlist (partH (l ++ [x]) (k + 1)) = (hlist (partH l k)).set k (.int .u32 x) := by
  have h2 : (partH l k).regs.set k x = (partH (l ++ [x]) (k + 1)).regs := by
    unfold partH
    dsimp only
    rw [List.set_append_right _ _ (by omega), hl, Nat.sub_self, show 32 - k = (32 - (k + 1)) + 1 by omega, List.replicate_succ]
    simp
  have := hlist_setReg (h := partH l k) (by simp [partH, hl]; omega) k hk x
  rw [← this, h2]
  rfl
end Go.Proofs.Ytlfnddmncbkjaab.Fb

/- A machine that is read: its box. No program in sight. -/
namespace Go.Proofs.Ytlfnddmncbkjaab.Fb
set_option linter.unusedVariables false
set_option linter.unusedSimpArgs false
open Go.RowKit
theorem owns_mono {B B' : Nat} {e : TypeId} {k : Nat} {v : Value} {n : Nat} {xs : List Value} {w : World} (h : w.ownsRow B e k v n xs) (hb : B' ≤ B) : w.ownsRow B' e k v n xs := by
  obtain ⟨h1, h2⟩ := h
  refine ⟨h1, ?_⟩
  rcases h2 with ⟨rfl, rfl⟩ | ⟨g, cap, cur, rfl, hB, hh, h3⟩
  · exact .inl ⟨rfl, rfl⟩
  · exact .inr ⟨g, cap, cur, rfl, Nat.le_trans hb hB, hh, h3⟩
/-- rows of two types lie in two blocks -/
theorem owns_apart {B B' : Nat} {e e' : TypeId} {k k' : Nat} {v v' : Value} {n n' : Nat} {xs xs' : List Value} {w : World} (h : w.ownsRow B e k v n xs) (h' : w.ownsRow B' e' k' v' n' xs') (hne : e ≠ e') : ∀ g, v.ownBlock = some g → v'.ownBlock ≠ some g := by
  intro g h1 h2
  rcases h.2 with ⟨rfl, _⟩ | ⟨g1, _, c1, rfl, _, e1, _⟩
  · cases h1
  rcases h'.2 with ⟨rfl, _⟩ | ⟨g2, _, c2, rfl, _, e2, _⟩
  · cases h2
  cases h1; cases h2
  rw [e1] at e2
  cases e2
  exact hne rfl
/-- the box at mp: the bytes, the harts -/
structure MB (mp : Nat) (t8 tH : TypeId) (vm vh : Value) (w : World) (mem : List Int) (hs : List Hart) : Prop where
  c0 : w.cell? ⟨mp, 0, none⟩ = some vm
  c1 : w.cell? ⟨mp, 1, none⟩ = some vh
  frz : ∀ o, w.frozen? ⟨mp, o, none⟩ = false
  own0 : w.ownsRow (mp + 1) t8 1 vm mem.length (mem.map (Value.int .u8))
  own1 : w.ownsRow (mp + 1) tH 37 vh hs.length (hs.flatMap hlist)
section
variable {mp : Nat} {t8 tH : TypeId} {vm vh : Value} {w w' : World} {mem : List Int} {hs : List Hart}
theorem MB.lt (h : MB mp t8 tH vm vh w mem hs) : mp < w.heap.size := lt_of_cell h.c0
theorem MB.move (h : MB mp t8 tH vm vh w mem hs) (hb : ∀ g, mp ≤ g → g < w.heap.size → w'.heap[g]? = w.heap[g]?) : MB mp t8 tH vm vh w' mem hs := by
  have e := hb mp (Nat.le_refl _) h.lt
  exact ⟨(cell_block e _).trans h.c0, (cell_block e _).trans h.c1, fun o => (frozen_block e o).trans (h.frz o), owns_block h.own0 (fun g hg => by have := h.own0.lt g hg; exact hb g (by omega) this.2), owns_block h.own1 (fun g hg => by have := h.own1.lt g hg; exact hb g (by omega) this.2)⟩
theorem MB.at (h : MB mp t8 tH vm vh w mem hs) : MachAt w vm vh ⟨mem, hs⟩ := ⟨owns_sl h.own0, owns_sl h.own1⟩
/-- a hart more -/
theorem MB.next {v' : Value} {x : Hart} (h : MB mp t8 tH vm vh w mem hs) (hne : t8 ≠ tH) (hown : w'.ownsRow (mp + 1) tH 37 v' (hs.length + 1) (hs.flatMap hlist ++ hlist x)) (hg : w.grownBy w' vh.ownBlock) : MB mp t8 tH vm v' (w'.setCell ⟨mp, 1, none⟩ v') mem (hs ++ [x]) := by
  have hfar : ∀ j, j < w.heap.size → vh.ownBlock ≠ some j → w'.heap[j]? = w.heap[j]? := fun j hj hn => hg.block j hj (fun e => hn e.symm)
  have e := hfar mp h.lt (fun e => by have := h.own1.lt _ e; omega)
  refine ⟨(World.cell?_setCell_other _ _ _ _ (by intro e; injection e with _ e2; omega)).trans ((cell_block e _).trans h.c0), World.cell?_setCell_same _ _ _ ((cell_block e _).trans h.c1), fun o => (World.frozen?_setCell _ _ _ _).trans ((frozen_block e o).trans (h.frz o)), ?_, ?_⟩
  · refine owns_block h.own0 (fun g hg' => ?_)
    have h1 := h.own0.lt g hg'
    exact (Below.heap_setCell _ _ _ _ (by show g ≠ mp; omega)).trans (hfar g h1.2 (owns_apart h.own0 h.own1 hne g hg'))
  · have := ownsRow_setCell_below hown (a := ⟨mp, 1, none⟩) (Nat.lt_succ_self mp) v'
    simpa using this
theorem grown_below {B : Nat} {v : Value} {e : TypeId} {s n : Nat} {xs : List Value} (h : w.ownsRow B e s v n xs) (hg : w.grownBy w' v.ownBlock) (hB : B ≤ w.heap.size) : Below B w w' :=
  ⟨hg.os, hg.tape, hg.output, hg.size, fun k hk => hg.block k (by omega) (fun e => by have := h.lt k e.symm; omega)⟩
end
/-- the reader, behind a call that turns nothing below it -/
theorem RdAt.far {rp B : Nat} {w w' : World} {s : Rd} (h : RdAt rp w s) (hb : Below B w w') (hlt : rp < B) : RdAt rp w' s := by
  obtain ⟨v, h1, h2, h3⟩ := h.v
  have e := hb.block rp hlt
  refine ⟨⟨v, (cell_block e _).trans h1, ?_, h3⟩, (cell_block e _).trans h.bad, fun o => (frozen_block e o).trans (h.frz o), Nat.lt_of_lt_of_le h.lt hb.size⟩
  obtain ⟨k1, ao, cap, k2, k3, k4, k5, k6⟩ := h2
  refine ⟨k1, ao, cap, k2, k3, k4, k5, fun a ha hx => ⟨(k6 a ha hx).1, fun j hj => ?_⟩⟩
  have hne : s.1 ≠ [] := fun e => hx (by rw [e]; rfl)
  have hbl := h3 hne a.block (by rw [k2, ha]; rfl)
  exact (cell_block (hb.block a.block (by omega)) _).trans ((k6 a ha hx).2 j hj)
/-- a round of image.Get: a hart is read, and laid behind the others -/
theorem get_round {R rp mp B : Nat} {t8 tH : TypeId} {vm vh v2 : Value} {w wr w6 w7 : World} {mem : List Int} {hs : List Hart} {x : Hart} {s' : Rd} {o : Obj} (hm : MB mp t8 tH vm vh wr mem hs) (hne : t8 ≠ tH) (h1 : R < rp) (h2 : rp < mp) (hBR : B ≤ R)
    (hB : Below B w wr) (hr : RdAt rp w6 s') (hg : Chg (fun p => p.block = rp) wr w6) (hown : w7.ownsRow (mp + 1) tH 37 v2 (hs.length + 1) (hs.flatMap hlist ++ hlist x)) (hgr : (w6.alloc o).grownBy w7 vh.ownBlock) :
    MB mp t8 tH vm v2 (w7.setCell ⟨mp, 1, none⟩ v2) mem (hs ++ [x]) ∧ RdAt rp (w7.setCell ⟨mp, 1, none⟩ v2) s' ∧ Below B w (w7.setCell ⟨mp, 1, none⟩ v2) ∧ (w7.setCell ⟨mp, 1, none⟩ v2).heap[R]? = wr.heap[R]? ∧ wr.heap.size ≤ (w7.setCell ⟨mp, 1, none⟩ v2).heap.size := by
  have hmp := hm.lt
  have hsz := hg.size
  have hlo : ∀ k, vh.ownBlock = some k → mp + 1 ≤ k := fun k e => (hm.own1.lt k e).1
  have hm6 : MB mp t8 tH vm vh w6 mem hs := hm.move (fun g hg1 hg2 => hg.block g hg2 (fun _ e => by have e2 : g = rp := e; omega))
  have ha : Below w6.heap.size w6 (w6.alloc o) := Below.alloc (Below.refl _ _) (Nat.le_refl _) _
  have hm6a : MB mp t8 tH vm vh (w6.alloc o) mem hs := hm6.move (fun g _ hg2 => ha.block g hg2)
  have hb67 : Below (mp + 1) w6 w7 := (ha.mono (by omega)).grown hgr (by simp; omega) hlo
  have hb6f : Below mp w6 (w7.setCell ⟨mp, 1, none⟩ v2) := (hb67.mono (Nat.le_succ _)).setCell (p := ⟨mp, 1, none⟩) (Nat.le_refl _) v2
  refine ⟨hm6a.next hne hown hgr, hr.far hb6f h2, ?_, ?_, ?_⟩
  · exact (hB.trans (hg.below (B := B) (by omega) (fun p hp e => by have e2 : p.block = rp := e; omega))).trans (hb6f.mono (by omega))
  · exact (hb6f.block R (by omega)).trans (hg.block R (by omega) (fun _ e => by have e2 : R = rp := e; omega))
  · have := hb6f.size; omega
/-- a slice literal of what is not taken apart, at a step of a region that draws its order -/
theorem step_buildS {P : Program} {w : World} {ops : Array Oper} {o : Oper} {a : Act} {K : Act → World → Prop} {Q : Exit → Act → World → Prop} {E : Prop} (hgd : o.guard = none) (t : TypeId) (len : Nat) (ps : Array (Nat × Operand)) (ho : o.op = .buildSlice t len ps) (vs : Array (Nat × Value)) (hv : (ps.map fun (i, x) => (i, a.eval x)) = vs)
    (v : Value) (w' : World) (hr : (Instr.buildSlice t len vs).run P w = .ok v w') (h : K (a.put o.dst v) w') :
    if Region.wanted o (yielded ops a.tmps) = true then Oper.wp P o a w K Q else E := by
  have hw : Region.wanted o (yielded ops a.tmps) = true := by simp [Region.wanted, hgd]
  rw [if_pos hw]
  unfold Oper.wp execOp
  simp only [ho, hv, Sem.run_bind, hr, Result.andThen_ok]
  exact h
/-- the same in a plain region -/
theorem wpList_buildS {P : Program} {w : World} {ops : Array Oper} {rest : List Oper} {o : Oper} {a : Act} {Q : Exit → Act → World → Prop} (hgd : o.guard = none) (t : TypeId) (len : Nat) (ps : Array (Nat × Operand)) (ho : o.op = .buildSlice t len ps) (vs : Array (Nat × Value)) (hv : (ps.map fun (i, x) => (i, a.eval x)) = vs)
    (v : Value) (w' : World) (hr : (Instr.buildSlice t len vs).run P w = .ok v w') (h : wpList P ops Q rest (a.put o.dst v) w') : wpList P ops Q (o :: rest) a w :=
  wpList_plain hgd fun K hK => by
    unfold Oper.wp execOp
    simp only [ho, hv, Sem.run_bind, hr, Result.andThen_ok]
    exact hK _ _ h
end Go.Proofs.Ytlfnddmncbkjaab.Fb

/- The document's run of small steps: as data, and in its box. No program in sight. -/
namespace Go.Proofs.Ytlfnddmncbkjaab.Fb
set_option linter.unusedVariables false
set_option linter.unusedSimpArgs false
open Go.RowKit
structure RunD where
  h : Hart
  m : List Int
  out : List Int
  steps : Int
  stores : List (Int × Int)
  temps : List Int
  here : Int
  own : Bool
  over : Bool
  bf : Int
  bt : Int
def rg (p : Int × Int) : List Value := [.int .u32 p.1, .int .u32 p.2]
def RunD.get (d : RunD) (k : Nat) : Int := if k < 32 then d.h.regs.getD k 0 else d.temps.getD (k - 32) 0
def RunD.put (d : RunD) (k : Nat) (x : Int) : RunD := if 32 ≤ k then { d with temps := d.temps.set (k - 32) x } else { d with h := d.h.setReg k x }
def RunD.stop (d : RunD) (pc : Int) : RunD := { d with over := true, h := d.h.setPc pc }
def RunD.trap (d : RunD) (c : Int) : RunD := { d with over := true, h := (d.h.trap c).setPc d.here }
def hits (a bf bt : Int) (n : Nat) : Bool := (List.range n).any (fun k => decide (bf ≤ u32 (a + (k : Int)) ∧ u32 (a + (k : Int)) < bt))
def RunD.stored (d : RunD) (a : Int) (n : Nat) : RunD := { d with stores := d.stores ++ [(a, u32 (a + n))], own := d.own || hits a d.bf d.bt n }
structure RunD.Wf (d : RunD) : Prop where
  h : d.h.Wf
  m : Bytes d.m
  mlen : d.m.length ≤ 140737488351232
  out : ∀ x ∈ d.out, U32 x
  steps : i64ok d.steps
  stores : ∀ p ∈ d.stores, U32 p.1 ∧ U32 p.2
  tlen : d.temps.length = 4
  temps : ∀ x ∈ d.temps, U32 x
  here : U32 d.here
  bf : U32 d.bf
  bt : U32 d.bt
def r7tail (d : RunD) (vm vo vs : Value) : List Value := [vm, vo, .int .i64 d.steps, vs] ++ (d.temps.map (Value.int .u32) ++ [.int .u32 d.here, .bool d.own, .bool d.over, .int .u32 d.bf, .int .u32 d.bt])
def r7list (d : RunD) (vm vo vs : Value) : List Value := hlist d.h ++ r7tail d vm vo vs
section
variable {d : RunD} {vm vo vs : Value}
theorem r7_len (h : d.h.regs.length = 32) (ht : d.temps.length = 4) : (r7list d vm vo vs).length = 50 := by
  simp [r7list, r7tail, hlist, h, ht]
theorem r7_hart (h : d.h.regs.length = 32) {j : Nat} (hj : j < 37) : (r7list d vm vo vs)[j]? = (hlist d.h)[j]? := by
  unfold r7list
  rw [List.getElem?_append_left (by rw [hlist_len h]; exact hj)]
theorem r7_tail (h : d.h.regs.length = 32) (j : Nat) : (r7list d vm vo vs)[37 + j]? = (r7tail d vm vo vs)[j]? := by
  unfold r7list
  rw [List.getElem?_append_right (by rw [hlist_len h]; omega), hlist_len h, Nat.add_sub_cancel_left]
theorem r7_temp (h : d.h.regs.length = 32) (ht : d.temps.length = 4) {k : Nat} (hk : k < 4) : (r7list d vm vo vs)[41 + k]? = some (.int .u32 (d.temps.getD k 0)) := by
  have := r7_tail (vm := vm) (vo := vo) (vs := vs) h (4 + k)
  rw [show 37 + (4 + k) = 41 + k by omega] at this
  rw [this]
  unfold r7tail
  rw [List.getElem?_append_right (by simp), List.getElem?_append_left (by simp; omega)]
  simp [List.getD, show k < d.temps.length by omega]
theorem r7_end (h : d.h.regs.length = 32) (ht : d.temps.length = 4) (j : Nat) : (r7list d vm vo vs)[45 + j]? = [Value.int .u32 d.here, .bool d.own, .bool d.over, .int .u32 d.bf, .int .u32 d.bt][j]? := by
  have := r7_tail (vm := vm) (vo := vo) (vs := vs) h (8 + j)
  rw [show 37 + (8 + j) = 45 + j by omega] at this
  rw [this]
  unfold r7tail
  rw [List.getElem?_append_right (by simp; omega), show 8 + j - [vm, vo, Value.int .i64 d.steps, vs].length = 4 + j by simp; omega, List.getElem?_append_right (by simp [ht]), show 4 + j - (d.temps.map (Value.int .u32)).length = j by simp [ht]]
theorem r7_setHart (h : d.h.regs.length = 32) {j : Nat} {v : Value} (hj : j < 37) {h' : Hart} (e : hlist h' = (hlist d.h).set j v) : (r7list d vm vo vs).set j v = r7list { d with h := h' } vm vo vs := by
  unfold r7list
  rw [List.set_append_left _ _ (by rw [hlist_len h]; exact hj), ← e]
  rfl
theorem r7_setTail (h : d.h.regs.length = 32) {j : Nat} {v : Value} {d' : RunD} {vm' vo' vs' : Value} (hh : d'.h = d.h) (e : r7tail d' vm' vo' vs' = (r7tail d vm vo vs).set j v) : (r7list d vm vo vs).set (37 + j) v = r7list d' vm' vo' vs' := by
  unfold r7list
  rw [List.set_append_right _ _ (by rw [hlist_len h]; omega), hlist_len h, Nat.add_sub_cancel_left, ← e, hh]
theorem r7_setTemp (h : d.h.regs.length = 32) (ht : d.temps.length = 4) {k : Nat} (hk : k < 4) (x : Int) : (r7list d vm vo vs).set (41 + k) (.int .u32 x) = r7list { d with temps := d.temps.set k x } vm vo vs := by
  have := r7_setTail (vm := vm) (vo := vo) (vs := vs) (d := d) (j := 4 + k) (v := .int .u32 x) (d' := { d with temps := d.temps.set k x }) (vm' := vm) (vo' := vo) (vs' := vs) h rfl (by
    unfold r7tail
    rw [List.set_append_right _ _ (by simp), show 4 + k - [vm, vo, Value.int .i64 d.steps, vs].length = k by simp, List.set_append_left _ _ (by simp; omega), List.map_set])
  rw [show 37 + (4 + k) = 41 + k by omega] at this
  exact this
theorem r7_setEnd (h : d.h.regs.length = 32) (ht : d.temps.length = 4) {j : Nat} {v : Value} {d' : RunD} (hh : d'.h = d.h) (hs : d'.steps = d.steps) (htm : d'.temps = d.temps) (e : [Value.int .u32 d'.here, .bool d'.own, .bool d'.over, .int .u32 d'.bf, .int .u32 d'.bt] = [Value.int .u32 d.here, .bool d.own, .bool d.over, .int .u32 d.bf, .int .u32 d.bt].set j v) :
    (r7list d vm vo vs).set (45 + j) v = r7list d' vm vo vs := by
  have := r7_setTail (vm := vm) (vo := vo) (vs := vs) (d := d) (j := 8 + j) (v := v) (d' := d') (vm' := vm) (vo' := vo) (vs' := vs) h hh (by
    unfold r7tail
    rw [List.set_append_right _ _ (by simp; omega), show 8 + j - [vm, vo, Value.int .i64 d.steps, vs].length = 4 + j by simp; omega, List.set_append_right _ _ (by simp [ht]), show 4 + j - (d.temps.map (Value.int .u32)).length = j by simp [ht], hs, htm, e])
  rw [show 37 + (8 + j) = 45 + j by omega] at this
  exact this
end
/-- numbers stay where the block that they lie in stays -/
theorem r7ints_keep {k : IntKind} {w w' : World} {v : Value} {l : List Int} (h : Ints k w v l) (hk : l ≠ [] → ∀ q, v.ownBlock = some q → w'.heap[q]? = w.heap[q]?) : Ints k w' v l := by
  obtain ⟨hl, ao, cap, e, q1, q2, q3, q4⟩ := h
  refine ⟨hl, ao, cap, e, q1, q2, q3, fun x hx hn => ?_⟩
  obtain ⟨hs, ha⟩ := q4 x hx hn
  have hb := hk (by intro e2; rw [e2] at hn; exact hn rfl) x.block (by rw [e, hx]; rfl)
  exact ⟨hs, fun j hj => (cell_block hb _).trans (ha j hj)⟩
/-- the run in its box at rp -/
structure R7 (rp : Nat) (TO TS : TypeId) (w : World) (d : RunD) (vm vo vs : Value) : Prop where
  wf : d.Wf
  at_ : At w rp 0 (r7list d vm vo vs)
  frz : ∀ o, w.frozen? ⟨rp, o, none⟩ = false
  mem : Ints .u8 w vm d.m
  out : w.ownsRow (rp + 1) TO 1 vo d.out.length (d.out.map (Value.int .u32))
  sto : w.ownsRow (rp + 1) TS 2 vs d.stores.length (d.stores.flatMap rg)
  mlt : d.m ≠ [] → ∀ q, vm.ownBlock = some q → q < w.heap.size ∧ q ≠ rp ∧ vo.ownBlock ≠ some q ∧ vs.ownBlock ≠ some q
  apart : ∀ q, vo.ownBlock = some q → vs.ownBlock ≠ some q
/-- what a method of it may turn -/
structure G7 (rp : Nat) (w : World) (vo vs : Value) (w' : World) (vo' vs' : Value) : Prop where
  os : w'.os = w.os
  tape : w'.tape = w.tape
  output : w'.output = w.output
  size : w.heap.size ≤ w'.heap.size
  block : ∀ k, k < w.heap.size → k ≠ rp → vo.ownBlock ≠ some k → vs.ownBlock ≠ some k → w'.heap[k]? = w.heap[k]?
  vo : ∀ q, vo'.ownBlock = some q → vo.ownBlock = some q ∨ w.heap.size ≤ q
  vs : ∀ q, vs'.ownBlock = some q → vs.ownBlock = some q ∨ w.heap.size ≤ q
section
variable {rp : Nat} {TO TS : TypeId} {w w' w'' : World} {d d' : RunD} {vm vo vs vo' vs' vo'' vs'' : Value}
theorem G7.refl : G7 rp w vo vs w vo vs := ⟨rfl, rfl, rfl, Nat.le_refl _, fun _ _ _ _ _ => rfl, fun _ h => .inl h, fun _ h => .inl h⟩
theorem G7.trans (h : G7 rp w vo vs w' vo' vs') (k : G7 rp w' vo' vs' w'' vo'' vs'') : G7 rp w vo vs w'' vo'' vs'' :=
  ⟨k.os.trans h.os, k.tape.trans h.tape, k.output.trans h.output, Nat.le_trans h.size k.size, fun j hj h1 h2 h3 =>
    (k.block j (Nat.lt_of_lt_of_le hj h.size) h1 (fun e => (h.vo j e).elim h2 (fun e2 => absurd hj (Nat.not_lt.2 e2))) (fun e => (h.vs j e).elim h3 (fun e2 => absurd hj (Nat.not_lt.2 e2)))).trans (h.block j hj h1 h2 h3),
    fun q e => (k.vo q e).elim (fun e2 => h.vo q e2) (fun e2 => .inr (Nat.le_trans h.size e2)),
    fun q e => (k.vs q e).elim (fun e2 => h.vs q e2) (fun e2 => .inr (Nat.le_trans h.size e2))⟩
theorem G7.below (hb : Below w.heap.size w w') : G7 rp w vo vs w' vo vs := ⟨hb.os, hb.tape, hb.output, hb.size, fun k hk _ _ _ => hb.block k hk, fun _ h => .inl h, fun _ h => .inl h⟩
theorem G7.set (o : Nat) (v : Value) : G7 rp w vo vs (w.setCell ⟨rp, o, none⟩ v) vo vs :=
  ⟨rfl, rfl, rfl, by simp, fun k _ h1 _ _ => Below.heap_setCell _ _ _ _ (by show k ≠ rp; exact h1), fun _ h => .inl h, fun _ h => .inl h⟩
theorem R7.lt (h : R7 rp TO TS w d vm vo vs) : rp < w.heap.size := by
  have h1 := h.at_ 0 (by rw [r7_len h.wf.h.len h.wf.tlen]; omega)
  exact lt_of_cell h1
theorem R7.below (h : R7 rp TO TS w d vm vo vs) (hb : Below w.heap.size w w') : R7 rp TO TS w' d vm vo vs :=
  ⟨h.wf, h.at_.below hb, fun o => (hb.frozen (p := ⟨rp, o, none⟩) h.lt).trans (h.frz o), h.mem.below hb, owns_below h.out hb, owns_below h.sto hb, fun hn q e => by have := h.mlt hn q e; exact ⟨Nat.lt_of_lt_of_le this.1 hb.size, this.2⟩, h.apart⟩
theorem r7_setCell (h : R7 rp TO TS w d vm vo vs) (i : Nat) (hi : i < 50) (v : Value) (hl : (r7list d vm vo vs).set i v = r7list d' vm vo vs) (hm : d'.m = d.m) (ho : d'.out = d.out) (hs : d'.stores = d.stores) (wf : d'.Wf) : R7 rp TO TS (w.setCell ⟨rp, i, none⟩ v) d' vm vo vs := by
  refine ⟨wf, ?_, fun o => (World.frozen?_setCell _ _ _ _).trans (h.frz o), ?_, ?_, ?_, fun hn q e => by have := h.mlt (by rw [← hm]; exact hn) q e; exact ⟨by simpa using this.1, this.2⟩, h.apart⟩
  · have := h.at_.set i (by rw [r7_len h.wf.h.len h.wf.tlen]; exact hi) v
    rw [Nat.zero_add, hl] at this
    exact this
  · rw [hm]
    exact r7ints_keep h.mem (fun hn q e => Below.heap_setCell _ _ _ _ (by show q ≠ rp; exact (h.mlt hn q e).2.1))
  · rw [ho]; exact ownsRow_setCell_below h.out (a := ⟨rp, i, none⟩) (Nat.lt_succ_self rp) v
  · rw [hs]; exact ownsRow_setCell_below h.sto (a := ⟨rp, i, none⟩) (Nat.lt_succ_self rp) v
/-- a block that a method leaves alone -/
theorem G7.keeps (h : G7 rp w vo vs w' vo' vs') {b off : Nat} {xs : List Value} (ha : At w b off xs) (h1 : b ≠ rp) (h2 : vo.ownBlock ≠ some b) (h3 : vs.ownBlock ≠ some b) : At w' b off xs := fun j hj =>
  (World.cell?_of_block (h.block b (lt_of_cell (ha j hj)) h1 h2 h3)).trans (ha j hj)
end
end Go.Proofs.Ytlfnddmncbkjaab.Fb

/- The document's run of small steps: what stands behind an append of it. No program in sight. -/
namespace Go.Proofs.Ytlfnddmncbkjaab.Fb
set_option linter.unusedVariables false
set_option linter.unusedSimpArgs false
open Go.RowKit
section
variable {rp : Nat} {TO TS : TypeId} {w w2 w3 : World} {d : RunD} {vm vo vs v' : Value}
theorem r7_sto (hne : TO ≠ TS) (h : R7 rp TO TS w d vm vo vs) (hb : Below w.heap.size w w2) {p : Int × Int} (hp : U32 p.1 ∧ U32 p.2)
    (hown : w3.ownsRow (rp + 1) TS 2 v' (d.stores.length + 1) (d.stores.flatMap rg ++ rg p)) (hg : w2.grownBy w3 vs.ownBlock) (hk : ∀ k, v'.ownBlock = some k → vs.ownBlock = some k ∨ w2.heap.size ≤ k) :
    R7 rp TO TS (w3.setCell ⟨rp, 40, none⟩ v') { d with stores := d.stores ++ [p] } vm vo v' ∧ G7 rp w vo vs (w3.setCell ⟨rp, 40, none⟩ v') vo v' := by
  have h2 := h.below hb
  have hrp : vs.ownBlock ≠ some rp := fun e => by have := (h2.sto.lt rp e).1; omega
  have e2 : ∀ k, k < w2.heap.size → vs.ownBlock ≠ some k → w3.heap[k]? = w2.heap[k]? := fun k hk1 hk2 => hg.block k hk1 (fun e => hk2 e.symm)
  have hat : At w3 rp 0 (r7list d vm vo vs) := fun j hj => (World.cell?_of_block (e2 rp h2.lt hrp)).trans (h2.at_ j hj)
  have hfz : ∀ o, w3.frozen? ⟨rp, o, none⟩ = false := fun o => (World.frozen?_of_block (e2 rp h2.lt hrp)).trans (h2.frz o)
  have hmem : Ints .u8 w3 vm d.m := r7ints_keep h2.mem (fun hn q e => by have hq := h2.mlt hn q e; exact e2 q hq.1 hq.2.2.2)
  have hout : w3.ownsRow (rp + 1) TO 1 vo d.out.length (d.out.map (Value.int .u32)) := owns_block h2.out (fun g e => e2 g (h2.out.lt g e).2 (h2.apart g e))
  have hwf : ({ d with stores := d.stores ++ [p] } : RunD).Wf := { h.wf with stores := fun q hq => (List.mem_append.1 hq).elim (h.wf.stores q) (fun hq => (List.mem_singleton.1 hq) ▸ hp) }
  refine ⟨⟨hwf, ?_, fun o => (World.frozen?_setCell _ _ _ _).trans (hfz o), ?_, ?_, ?_, fun hn q e => ?_, fun q e e3 => ?_⟩, ?_⟩
  · have := hat.set 40 (by rw [r7_len h.wf.h.len h.wf.tlen]; omega) v'
    rw [Nat.zero_add, r7_setTail (j := 3) (d' := { d with stores := d.stores ++ [p] }) (vm' := vm) (vo' := vo) (vs' := v') h.wf.h.len rfl rfl] at this
    exact this
  · exact r7ints_keep hmem (fun hn q e => Below.heap_setCell _ _ _ _ (by show q ≠ rp; exact (h2.mlt hn q e).2.1))
  · exact ownsRow_setCell_below hout (a := ⟨rp, 40, none⟩) (Nat.lt_succ_self rp) v'
  · have := ownsRow_setCell_below hown (a := ⟨rp, 40, none⟩) (Nat.lt_succ_self rp) v'
    simpa using this
  · have hq := h2.mlt hn q e
    refine ⟨by have := hg.size; simp; omega, hq.2.1, hq.2.2.1, fun e3 => ?_⟩
    rcases hk q e3 with e4 | e4
    · exact hq.2.2.2 e4
    · omega
  · rcases hk q e3 with e4 | e4
    · exact h2.apart q e e4
    · have := (h2.out.lt q e).2; omega
  · refine ⟨hg.os.trans hb.os, hg.tape.trans hb.tape, hg.output.trans hb.output, ?_, fun k hk1 hk2 hk3 hk4 => ?_, fun q e => .inl e, fun q e => ?_⟩
    · have := hb.size; have := hg.size; simp; omega
    · rw [Below.heap_setCell _ _ _ _ (by show k ≠ rp; exact hk2), e2 k (by have := hb.size; omega) hk4]
      exact hb.block k hk1
    · rcases hk q e with e4 | e4
      · exact .inl e4
      · exact .inr (Nat.le_trans hb.size e4)
theorem r7_out (hne : TO ≠ TS) (h : R7 rp TO TS w d vm vo vs) (hb : Below w.heap.size w w2) {p : Int} (hp : U32 p)
    (hown : w3.ownsRow (rp + 1) TO 1 v' (d.out.length + 1) (d.out.map (Value.int .u32) ++ [.int .u32 p])) (hg : w2.grownBy w3 vo.ownBlock) (hk : ∀ k, v'.ownBlock = some k → vo.ownBlock = some k ∨ w2.heap.size ≤ k) :
    R7 rp TO TS (w3.setCell ⟨rp, 38, none⟩ v') { d with out := d.out ++ [p] } vm v' vs ∧ G7 rp w vo vs (w3.setCell ⟨rp, 38, none⟩ v') v' vs := by
  have h2 := h.below hb
  have hrp : vo.ownBlock ≠ some rp := fun e => by have := (h2.out.lt rp e).1; omega
  have e2 : ∀ k, k < w2.heap.size → vo.ownBlock ≠ some k → w3.heap[k]? = w2.heap[k]? := fun k hk1 hk2 => hg.block k hk1 (fun e => hk2 e.symm)
  have hat : At w3 rp 0 (r7list d vm vo vs) := fun j hj => (World.cell?_of_block (e2 rp h2.lt hrp)).trans (h2.at_ j hj)
  have hfz : ∀ o, w3.frozen? ⟨rp, o, none⟩ = false := fun o => (World.frozen?_of_block (e2 rp h2.lt hrp)).trans (h2.frz o)
  have hmem : Ints .u8 w3 vm d.m := r7ints_keep h2.mem (fun hn q e => by have hq := h2.mlt hn q e; exact e2 q hq.1 hq.2.2.1)
  have hsto : w3.ownsRow (rp + 1) TS 2 vs d.stores.length (d.stores.flatMap rg) := owns_block h2.sto (fun g e => e2 g (h2.sto.lt g e).2 (fun e4 => h2.apart g e4 e))
  have hwf : ({ d with out := d.out ++ [p] } : RunD).Wf := { h.wf with out := fun q hq => (List.mem_append.1 hq).elim (h.wf.out q) (fun hq => (List.mem_singleton.1 hq) ▸ hp) }
  refine ⟨⟨hwf, ?_, fun o => (World.frozen?_setCell _ _ _ _).trans (hfz o), ?_, ?_, ?_, fun hn q e => ?_, fun q e e3 => ?_⟩, ?_⟩
  · have := hat.set 38 (by rw [r7_len h.wf.h.len h.wf.tlen]; omega) v'
    rw [Nat.zero_add, r7_setTail (j := 1) (d' := { d with out := d.out ++ [p] }) (vm' := vm) (vo' := v') (vs' := vs) h.wf.h.len rfl rfl] at this
    exact this
  · exact r7ints_keep hmem (fun hn q e => Below.heap_setCell _ _ _ _ (by show q ≠ rp; exact (h2.mlt hn q e).2.1))
  · have := ownsRow_setCell_below hown (a := ⟨rp, 38, none⟩) (Nat.lt_succ_self rp) v'
    simpa using this
  · exact ownsRow_setCell_below hsto (a := ⟨rp, 38, none⟩) (Nat.lt_succ_self rp) v'
  · have hq := h2.mlt hn q e
    refine ⟨by have := hg.size; simp; omega, hq.2.1, fun e3 => ?_, hq.2.2.2⟩
    rcases hk q e3 with e4 | e4
    · exact hq.2.2.1 e4
    · omega
  · rcases hk q e with e4 | e4
    · exact h2.apart q e4 e3
    · have := (h2.sto.lt q e3).2; omega
  · refine ⟨hg.os.trans hb.os, hg.tape.trans hb.tape, hg.output.trans hb.output, ?_, fun k hk1 hk2 hk3 hk4 => ?_, fun q e => ?_, fun q e => .inl e⟩
    · have := hb.size; have := hg.size; simp; omega
    · rw [Below.heap_setCell _ _ _ _ (by show k ≠ rp; exact hk2), e2 k (by have := hb.size; omega) hk3]
      exact hb.block k hk1
    · rcases hk q e with e4 | e4
      · exact .inl e4
      · exact .inr (Nat.le_trans hb.size e4)
/-- other bytes, of a block of their own -/
theorem r7_mem (h : R7 rp TO TS w d vm vo vs) (hb : Below w.heap.size w w2) {vm' : Value} {m' : List Int} (hm : Ints .u8 w2 vm' m') (hf : ∀ q, vm'.ownBlock = some q → w.heap.size ≤ q ∧ q < w2.heap.size) (hby : Bytes m') (hl : m'.length ≤ 140737488351232) :
    R7 rp TO TS (w2.setCell ⟨rp, 37, none⟩ vm') { d with m := m' } vm' vo vs ∧ G7 rp w vo vs (w2.setCell ⟨rp, 37, none⟩ vm') vo vs := by
  have h2 := h.below hb
  have hlt := h.lt
  refine ⟨⟨{ h.wf with m := hby, mlen := hl }, ?_, fun o => (World.frozen?_setCell _ _ _ _).trans (h2.frz o), ?_, ?_, ?_, fun _ q e => ?_, h.apart⟩, (G7.below hb).trans (G7.set 37 _)⟩
  · have := h2.at_.set 37 (by rw [r7_len h.wf.h.len h.wf.tlen]; omega) vm'
    rw [Nat.zero_add, r7_setTail (j := 0) (d' := { d with m := m' }) (vm' := vm') (vo' := vo) (vs' := vs) h.wf.h.len rfl rfl] at this
    exact this
  · exact hm.set_other (p := ⟨rp, 37, none⟩) (fun b off n c e => by have := (hf b (by rw [e]; rfl)).1; exact fun e3 => by have e4 : rp = b := e3; omega) vm'
  · exact ownsRow_setCell_below h2.out (a := ⟨rp, 37, none⟩) (Nat.lt_succ_self rp) vm'
  · exact ownsRow_setCell_below h2.sto (a := ⟨rp, 37, none⟩) (Nat.lt_succ_self rp) vm'
  · have hq := hf q e
    refine ⟨by simpa using hq.2, by omega, fun e3 => ?_, fun e3 => ?_⟩
    · have := (h.out.lt q e3).2; omega
    · have := (h.sto.lt q e3).2; omega
end
theorem hits_next (a bf bt : Int) (k : Nat) : hits a bf bt (k + 1) = (hits a bf bt k || decide (bf ≤ u32 (a + (k : Int)) ∧ u32 (a + (k : Int)) < bt)) := by
  unfold hits
  rw [List.range_succ, List.any_append]
  simp
end Go.Proofs.Ytlfnddmncbkjaab.Fb

/- Runs behind runs, as data. No program in sight. -/
namespace Go.Proofs.Ytlfnddmncbkjaab.Fb
set_option linter.unusedVariables false
set_option linter.unusedSimpArgs false
open Go.RowKit

/-- a board whose harts may be, and that has put out no more than it has done -/
structure St.Good (s : St) : Prop where
  wf : s.Wf
  ok : ∀ h ∈ s.harts, h.ok = true
  ol : s.out.length ≤ s.steps
theorem St.Good.hart {s : St} (h : s.Good) (k : Nat) : (s.hart k).ok = true := by
  by_cases hk : k < s.harts.length
  · rw [St.hart_at hk]; exact h.ok _ (List.getElem_mem hk)
  · unfold St.hart; rw [List.getD, List.getElem?_eq_none (by omega)]; rfl
theorem goM_ml (k : Nat) (s : St) : (goM k s).mem.length = s.mem.length := by
  show (goS _).m.length = _
  rw [goS_ml]
theorem goM_good {k : Nat} {s : St} (h : s.Good) (hs : (s.hart k).state = 0) : (goM k s).Good := by
  have hf := goS_fin (s.hart k) s.mem (h.hart k) hs
  refine ⟨goM_wf h.wf, mem_loseTo (P := fun h => h.ok = true) ?_ (fun _ => lose_ok), ?_⟩
  · intro x hx
    rcases List.mem_or_eq_of_mem_set hx with hx | rfl
    · exact h.ok _ hx
    · exact hf.ok
  · show (s.out ++ (goS _).out).length ≤ s.steps + 1
    have h1 := hf.ol
    have h2 := h.ol
    rw [List.length_append]
    omega
theorem pickM_good {k : Nat} : ∀ (n : Nat) {s : St}, s.Good → (pickM k n s).Good
  | 0, _, h => h
  | n + 1, s, h => by
    unfold pickM
    split
    · rename_i hs; exact pickM_good n (goM_good h hs)
    · exact h
theorem playM_good : ∀ (l : List (Int × Int)) {s : St}, s.Good → (playM l s).Good
  | [], _, h => h
  | _ :: r, _, h => playM_good r (pickM_good _ h)
theorem pickM_ml {k : Nat} : ∀ (n : Nat) (s : St), (pickM k n s).mem.length = s.mem.length
  | 0, _ => rfl
  | n + 1, s => by
    unfold pickM
    split
    · rw [pickM_ml n, goM_ml]
    · rfl
theorem playM_ml : ∀ (l : List (Int × Int)) (s : St), (playM l s).mem.length = s.mem.length
  | [], _ => rfl
  | _ :: r, s => by unfold playM; rw [playM_ml r, pickM_ml]
theorem pickM_steps {k : Nat} : ∀ (n : Nat) (s : St), (pickM k n s).steps ≤ s.steps + n
  | 0, _ => Nat.le_refl _
  | n + 1, s => by
    unfold pickM
    split
    · have := pickM_steps (k := k) n (goM k s)
      have h2 : (goM k s).steps = s.steps + 1 := rfl
      omega
    · omega
theorem playM_steps : ∀ (l : List (Int × Int)) (s : St), (∀ p ∈ l, p.2 ≤ 400) → (playM l s).steps ≤ s.steps + 400 * l.length
  | [], _, _ => Nat.le_refl _
  | p :: r, s, h => by
    unfold playM
    have h1 := playM_steps r (pickM p.1.toNat p.2.toNat s) (fun q hq => h q (by simp [hq]))
    have h2 := pickM_steps (k := p.1.toNat) p.2.toNat s
    have h3 := h p (by simp)
    rw [List.length_cons]
    omega
theorem startM_good {m : Mach} {l : List (Int × Int)} (wf : m.Wf) (h : wrong m l = 0) : (startM m).Good := by
  obtain ⟨h1, h2, h3, h4, _⟩ := wrong_parts h
  exact ⟨⟨wf.harts, wf.mem, h1, by intro x hx; cases hx⟩, h4, Nat.le_refl _⟩
theorem wrong_of {m : Mach} {l : List (Int × Int)} (h1 : m.mem.length ≤ 4096) (h2 : 1 ≤ m.harts.length) (h3 : m.harts.length ≤ 4) (h4 : ∀ x ∈ m.harts, x.ok = true) (h5 : l.length ≤ 300) (h6 : ∀ p ∈ l, 0 ≤ p.1 ∧ p.1 < m.harts.length ∧ 0 ≤ p.2 ∧ p.2 ≤ 400) : wrong m l = 0 := by
  unfold wrong
  rw [if_neg (by omega), if_neg, if_neg (by omega), if_neg]
  · rw [List.any_eq_true]
    rintro ⟨p, hp, hb⟩
    have := h6 p hp
    unfold badPick at hb
    simp at hb
    omega
  · rw [List.any_eq_true]
    rintro ⟨x, hx, hb⟩
    rw [h4 x hx] at hb
    cases hb
/-- the machine that a board shows -/
def St.mach (s : St) : Mach := ⟨s.mem, s.harts⟩
theorem play_mach {m : Mach} {a b : List (Int × Int)} (wf : m.Wf) (h : wrong m (a ++ b) = 0) : wrong m a = 0 ∧ wrong (playM a (startM m)).mach b = 0 := by
  obtain ⟨h1, h2, h3, h4, h5, h6⟩ := wrong_parts h
  rw [List.length_append] at h5
  have ha : wrong m a = 0 := wrong_of h1 h2 h3 h4 (by omega) (fun p hp => h6 p (by simp [hp]))
  refine ⟨ha, ?_⟩
  have hg := playM_good a (startM_good wf ha)
  have hl := playM_len a (startM m)
  have hm := playM_ml a (startM m)
  have e1 : (startM m).harts.length = m.harts.length := rfl
  have e2 : (startM m).mem.length = m.mem.length := rfl
  refine wrong_of ?_ ?_ ?_ hg.ok (by omega) (fun p hp => ?_)
  · show (playM a (startM m)).mem.length ≤ _; omega
  · show _ ≤ (playM a (startM m)).harts.length; omega
  · show (playM a (startM m)).harts.length ≤ _; omega
  · have := h6 p (by simp [hp])
    show _ ∧ _ < ((playM a (startM m)).harts.length : Int) ∧ _
    omega
theorem wrong_ahead {m : Mach} {a b : List (Int × Int)} (wf : m.Wf) (h : ¬ wrong m a = 0) : ¬ wrong m (a ++ b) = 0 := fun e => h (play_mach wf e).1
/-- what is shown ahead, laid ahead -/
def St.pre (o : List Int) (n : Nat) (s : St) : St := ⟨s.harts, s.mem, o ++ s.out, n + s.steps⟩
theorem goM_pre (k : Nat) (o : List Int) (n : Nat) (s : St) : goM k (s.pre o n) = (goM k s).pre o n := by
  unfold goM St.pre
  dsimp only
  rw [List.append_assoc]
  rfl
theorem pickM_pre (k : Nat) (o : List Int) (m : Nat) : ∀ (n : Nat) (s : St), pickM k n (s.pre o m) = (pickM k n s).pre o m
  | 0, _ => rfl
  | n + 1, s => by
    unfold pickM
    rw [goM_pre, pickM_pre k o m n]
    show (if (s.hart k).state = 0 then _ else _) = _
    split <;> rfl
theorem playM_pre (o : List Int) (m : Nat) : ∀ (l : List (Int × Int)) (s : St), playM l (s.pre o m) = (playM l s).pre o m
  | [], _ => rfl
  | _ :: r, s => by unfold playM; rw [pickM_pre, playM_pre o m r]
theorem playM_append : ∀ (a b : List (Int × Int)) (s : St), playM (a ++ b) s = playM b (playM a s)
  | [], _, _ => rfl
  | p :: r, b, s => by
    show playM (r ++ b) (pickM p.1.toNat p.2.toNat s) = playM b (playM r (pickM p.1.toNat p.2.toNat s))
    exact playM_append r b _
theorem pickM_add {k : Nat} : ∀ (n m : Nat) (s : St), pickM k (n + m) s = pickM k m (pickM k n s)
  | 0, m, s => by rw [Nat.zero_add]; rfl
  | n + 1, m, s => by
    rw [show n + 1 + m = (n + m) + 1 by omega]
    by_cases h : (s.hart k).state = 0
    · have e1 : pickM k (n + m + 1) s = pickM k (n + m) (goM k s) := by conv => lhs; unfold pickM; rw [if_pos h]
      have e2 : pickM k (n + 1) s = pickM k n (goM k s) := by conv => lhs; unfold pickM; rw [if_pos h]
      rw [e1, e2]; exact pickM_add n m (goM k s)
    · rw [pickM_stop h, pickM_stop h, pickM_stop h]
/-- a run, as what another one is behind it -/
theorem playM_split (m : Mach) (a b : List (Int × Int)) : playM (a ++ b) (startM m) = (playM b (startM (playM a (startM m)).mach)).pre (playM a (startM m)).out (playM a (startM m)).steps := by
  rw [playM_append, ← playM_pre]
  congr 1
  unfold St.pre startM St.mach
  simp
/-- a pick of so many steps is two -/
theorem playM_turns (l : List (Int × Int)) (k : Nat) (hk : k < l.length) (n : Int) (h0 : 0 ≤ n) (h1 : n ≤ (l[k]).2) (s : St) :
    playM (l.take k ++ [((l[k]).1, n), ((l[k]).1, (l[k]).2 - n)] ++ l.drop (k + 1)) s = playM l s := by
  have e : l = l.take k ++ [l[k]] ++ l.drop (k + 1) := by
    rw [List.append_assoc, List.singleton_append, ← List.drop_eq_getElem_cons hk, List.take_append_drop]
  conv => rhs; rw [e]
  rw [playM_append, playM_append, playM_append, playM_append]
  congr 1
  show pickM _ _ (pickM _ _ _) = pickM _ _ _
  rw [← pickM_add]
  congr 1
  show n.toNat + ((l[k]).2 - n).toNat = (l[k]).2.toNat
  omega
theorem wrong_turns {m : Mach} {l : List (Int × Int)} (h : wrong m l = 0) (k : Nat) (hk : k < l.length) (n : Int) (h0 : 0 ≤ n) (h1 : n ≤ (l[k]).2) (hl : l.length < 300) :
    wrong m (l.take k ++ [((l[k]).1, n), ((l[k]).1, (l[k]).2 - n)] ++ l.drop (k + 1)) = 0 := by
  obtain ⟨w1, w2, w3, w4, w5, w6⟩ := wrong_parts h
  refine wrong_of w1 w2 w3 w4 (by simp; omega) (fun p hp => ?_)
  have hp2 := w6 l[k] (List.getElem_mem hk)
  simp only [List.mem_append, List.mem_cons, List.not_mem_nil, or_false] at hp
  rcases hp with (hp | rfl | rfl) | hp
  · exact w6 p (List.mem_of_mem_take hp)
  · exact ⟨hp2.1, hp2.2.1, h0, by show n ≤ 400; omega⟩
  · exact ⟨hp2.1, hp2.2.1, by show 0 ≤ (l[k]).2 - n; omega, by show (l[k]).2 - n ≤ 400; omega⟩
  · exact w6 p (List.mem_of_mem_drop hp)
end Go.Proofs.Ytlfnddmncbkjaab.Fb

/- The document's board, in memory, and what lies near a store. No program in sight. -/
namespace Go.Proofs.Ytlfnddmncbkjaab.Fb
set_option linter.unusedVariables false
set_option linter.unusedSimpArgs false
open Go.RowKit
/-- where a step has stored: nowhere, or in some bytes of the memory -/
def Rng (d : CoreD) : Prop := (d.fr = 0 ∧ d.tw = 0) ∨ (0 ≤ d.fr ∧ d.fr < d.tw ∧ d.tw ≤ d.m.length)
theorem Rng.put {d : CoreD} (h : Rng d) (hl : d.m.length ≤ 4096) (op a x : Int) (ha : 0 ≤ a) : Rng (d.put op a x) := by
  unfold CoreD.put
  split
  · rename_i hq
    have hs : 0 < msize op ∧ a + msize op ≤ d.m.length := by simp [mStoreOk, there] at hq; omega
    refine .inr ⟨ha, ?_, ?_⟩
    · show a < (a + msize op) % 4294967296
      omega
    · show (a + msize op) % 4294967296 ≤ ((mStore d.m op a x).length : Int)
      rw [mStore_length]
      omega
  · exact h
theorem ite_rng {P : CoreD → Prop} {c : Prop} [Decidable c] {a b : CoreD} (h1 : c → P a) (h2 : ¬ c → P b) : P (if c then a else b) := by split; exact h1 ‹_›; exact h2 ‹_›
theorem atomS_rng {d : CoreD} (h : Rng d) (hl : d.m.length ≤ 4096) (op a b : Int) (ha : 0 ≤ a) : Rng (atomS d op a b).1 := by
  unfold atomS
  split
  · split
    · exact h
    · split
      · split
        · exact h.put hl 18 a b ha
        · exact h
      · exact h.put hl 18 a _ ha
  · exact h
theorem callS_rng {d : CoreD} (h : Rng d) : Rng (callS d).1 := by
  unfold callS
  split
  · exact h
  · split
    · exact h
    · exact h
theorem doS_rng {d : CoreD} (h : Rng d) (hl : d.m.length ≤ 4096) (hr : ∀ k, 0 ≤ d.h.reg k) (i : InsD) : Rng (doS i d) := by
  unfold doS
  dsimp only
  repeat' (with_reducible refine ite_rng (P := Rng) (fun _ => ?_) (fun _ => ?_))
  all_goals first
    | exact h
    | exact h.put hl _ _ _ (Int.emod_nonneg _ (by decide))
    | exact atomS_rng h hl i.op (d.h.reg i.rs1) (d.h.reg i.rs2) (hr _)
    | exact callS_rng h
theorem goS_rng (h : Hart) (wf : h.Wf) (l : List Int) (hl : l.length ≤ 4096) : Rng (goS ⟨h, l, [], 0, 0⟩) := by
  have h0 : Rng (CoreD.none ⟨h, l, [], 0, 0⟩) := .inl ⟨rfl, rfl⟩
  unfold goS
  split
  · exact doS_rng h0 hl (fun k => (reg_u wf k).1) _
  · exact h0
/-- is a byte of a word among some? -/
def nearB (word fr many : Int) : Bool := decide (0 < many) && decide (fr < word + 4) && decide (word < fr + many)
theorem nearB_lose {d : CoreD} (h : Rng d) (hl : d.m.length ≤ 4096) (x : Hart) (wf : x.Wf) : lose d.fr d.tw x = if (x.held && nearB x.heldAt d.fr (d.tw - d.fr)) = true then { x with held := false, heldAt := 0 } else x := by
  have hu := wf.heldAt
  unfold U32 at hu
  unfold lose
  have e : (decide (d.fr < (x.heldAt + 4) % 4294967296) && decide (x.heldAt < d.tw)) = nearB x.heldAt d.fr (d.tw - d.fr) := by
    unfold nearB
    rw [← Bool.decide_and, ← Bool.decide_and, ← Bool.decide_and]
    refine decide_eq_decide.2 ?_
    rcases h with ⟨h1, h2⟩ | ⟨h1, h2, h3⟩
    · constructor <;> rintro ⟨⟩ <;> omega
    · constructor
      · rintro ⟨a, b⟩; omega
      · rintro ⟨⟨a, b⟩, c⟩; omega
  rw [Bool.and_assoc, e]
/-- one more is looked at -/
theorem near_all {word fr many : Int} (h : ∀ j : Int, 0 ≤ j → j < many → ¬ (0 ≤ fr + j - word ∧ fr + j - word < 4)) : nearB word fr many = false := by
  unfold nearB
  rw [← Bool.decide_and, ← Bool.decide_and]
  refine decide_eq_false ?_
  rintro ⟨⟨a, b⟩, c⟩
  by_cases e : fr ≤ word
  · exact h (word - fr) (by omega) (by omega) (by omega)
  · exact h 0 (by omega) (by omega) (by omega)
theorem near_one {word fr many j : Int} (h0 : 0 ≤ j) (h1 : j < many) (h2 : 0 ≤ fr + j - word) (h3 : fr + j - word < 4) : nearB word fr many = true := by
  unfold nearB
  rw [← Bool.decide_and, ← Bool.decide_and]
  refine decide_eq_true ⟨⟨?_, ?_⟩, ?_⟩ <;> omega
end Go.Proofs.Ytlfnddmncbkjaab.Fb

/- The document's board, in memory, at work. No program in sight. -/
namespace Go.Proofs.Ytlfnddmncbkjaab.Fb
set_option linter.unusedVariables false
set_option linter.unusedSimpArgs false
open Go.RowKit
/-- the document's board at bp: its harts at bh, its bytes vm, what came out vo -/
structure PB (bp bh hc : Nat) (vm vo : Value) (ty : TypeId) (w : World) (s : St) : Prop where
  b1 : bp < bh
  c0 : w.cell? ⟨bp, 0, none⟩ = some vm
  c1 : w.cell? ⟨bp, 1, none⟩ = some (.slice (some ⟨bh, 0, none⟩) s.harts.length hc)
  c2 : w.cell? ⟨bp, 2, none⟩ = some vo
  c3 : w.cell? ⟨bp, 3, none⟩ = some (.int .i64 s.steps)
  frz : ∀ o, w.frozen? ⟨bp, o, none⟩ = false
  harts : At w bh 0 (s.harts.flatMap hlist)
  hlt : bh < w.heap.size
  hfz : ∀ o, w.frozen? ⟨bh, o, none⟩ = false
  bytes : Ints .u8 w vm s.mem
  mlt : s.mem ≠ [] → ∀ k, vm.ownBlock = some k → bp < k ∧ k ≠ bh ∧ vo.ownBlock ≠ some k
  own : w.ownsRow (bh + 1) ty 1 vo s.out.length (s.out.map (Value.int .u32))
  hcap : s.harts.length ≤ hc ∧ hc ≤ maxLen
theorem ints_lt {k : IntKind} {w : World} {v : Value} {l : List Int} (h : Ints k w v l) (hl : l ≠ []) {g : Nat} (e : v.ownBlock = some g) : g < w.heap.size := by
  obtain ⟨ao, cap, rfl, _, _, _, ho⟩ := h.open
  obtain ⟨b, off, rfl, _, hx⟩ := ho hl
  cases e
  exact lt_of_cell (hx 0 (List.length_pos_iff.2 hl))
theorem ints_move {k : IntKind} {w w' : World} {v : Value} {l : List Int} (h : Ints k w v l) (hb : l ≠ [] → ∀ g, v.ownBlock = some g → w'.heap[g]? = w.heap[g]?) : Ints k w' v l := by
  by_cases hl : l = []
  · subst hl
    obtain ⟨h1, ao, cap, h2, h3, h4, h5, h6⟩ := h
    exact ⟨h1, ao, cap, h2, h3, h4, h5, fun a ha hx => absurd rfl hx⟩
  · exact sl_block h (hb hl)
section
variable {bp bh hc k : Nat} {vm vo : Value} {ty : TypeId} {w w' : World} {s : St}
theorem PB.lt (h : PB bp bh hc vm vo ty w s) : bp < w.heap.size := lt_of_cell h.c0
theorem PB.below (h : PB bp bh hc vm vo ty w s) (hb : Below w.heap.size w w') : PB bp bh hc vm vo ty w' s := by
  have e := hb.block bp h.lt
  have eh := hb.block bh h.hlt
  exact ⟨h.b1, (cell_block e _).trans h.c0, (cell_block e _).trans h.c1, (cell_block e _).trans h.c2, (cell_block e _).trans h.c3, fun o => (frozen_block e o).trans (h.frz o), h.harts.below hb, Nat.lt_of_lt_of_le h.hlt hb.size, fun o => (frozen_block eh o).trans (h.hfz o), h.bytes.below hb, h.mlt, owns_below h.own hb, h.hcap⟩
/-- the steps are told -/
theorem PB.tick (h : PB bp bh hc vm vo ty w s) (n : Nat) : PB bp bh hc vm vo ty (w.setCell ⟨bp, 3, none⟩ (.int .i64 n)) { s with steps := n } := by
  have b1 := h.b1
  have hbk : ∀ j, j ≠ bp → (w.setCell ⟨bp, 3, none⟩ (.int .i64 n)).heap[j]? = w.heap[j]? := fun j hj => Below.heap_setCell _ _ _ _ (by show j ≠ bp; exact hj)
  have hc : ∀ j, j ≠ 3 → (w.setCell ⟨bp, 3, none⟩ (.int .i64 n)).cell? ⟨bp, j, none⟩ = w.cell? ⟨bp, j, none⟩ := fun j hj => World.cell?_setCell_other _ _ _ _ (by intro e; injection e with _ e2; omega)
  exact ⟨h.b1, (hc 0 (by omega)).trans h.c0, (hc 1 (by omega)).trans h.c1, (hc 2 (by omega)).trans h.c2, World.cell?_setCell_same _ _ _ h.c3, fun o => (World.frozen?_setCell _ _ _ _).trans (h.frz o), h.harts.set_other (by show bp ≠ bh; omega) _, by have := h.hlt; simpa using this, fun o => (World.frozen?_setCell _ _ _ _).trans (h.hfz o), ints_move h.bytes (fun hm g hg => hbk g (by have := h.mlt hm g hg; omega)), h.mlt, owns_block h.own (fun g hg => hbk g (by have := h.own.lt g hg; omega)), h.hcap⟩
/-- the step's hart and bytes are laid -/
theorem PB.did {d : DidD} {c : CoreD} (h : PB bp bh hc vm vo ty w s) (wf : s.Wf) (wd : c.h.Wf) (hl : c.m.length = s.mem.length) (kl : k < s.harts.length) (hd : DidOf w d c) {S : Nat} (hS : bh < S) (hS2 : ∀ g, vo.ownBlock = some g → g < S)
    (hm : d.vm = vm ∨ ∀ q, d.vm.ownBlock = some q → S ≤ q) (ho : ∀ q, d.vo.ownBlock = some q → S ≤ q) :
    PB bp bh hc d.vm vo ty ((w.setCells bh (k * 37) (hlist d.h)).setCell ⟨bp, 0, none⟩ d.vm) ⟨s.harts.set k c.h, c.m, s.out, s.steps⟩ ∧
      Ints .u32 ((w.setCells bh (k * 37) (hlist d.h)).setCell ⟨bp, 0, none⟩ d.vm) d.vo c.out ∧ Below bp w ((w.setCells bh (k * 37) (hlist d.h)).setCell ⟨bp, 0, none⟩ d.vm) ∧
      (∀ g, g ≠ bp → g ≠ bh → ((w.setCells bh (k * 37) (hlist d.h)).setCell ⟨bp, 0, none⟩ d.vm).heap[g]? = w.heap[g]?) ∧ (w.setCells bh (k * 37) (hlist d.h)).there bh (k * 37) 37 := by
  have b1 := h.b1
  have hbk1 : ∀ j, j ≠ bh → (w.setCells bh (k * 37) (hlist d.h)).heap[j]? = w.heap[j]? := fun j hj => (by
    have : ∀ (vs : List Value) (o : Nat) (w : World), (w.setCells bh o vs).heap[j]? = w.heap[j]? := fun vs => by
      induction vs with
      | nil => intro _ _; rfl
      | cons v r ih => intro o w; rw [World.setCells, ih]; exact Below.heap_setCell _ _ _ _ (by show j ≠ bh; exact hj)
    exact this _ _ _)
  have hbk2 : ∀ j, j ≠ bp → ((w.setCells bh (k * 37) (hlist d.h)).setCell ⟨bp, 0, none⟩ d.vm).heap[j]? = (w.setCells bh (k * 37) (hlist d.h)).heap[j]? := fun j hj => Below.heap_setCell _ _ _ _ (by show j ≠ bp; exact hj)
  have hc0 : ∀ j, j ≠ 0 → ((w.setCells bh (k * 37) (hlist d.h)).setCell ⟨bp, 0, none⟩ d.vm).cell? ⟨bp, j, none⟩ = w.cell? ⟨bp, j, none⟩ := fun j hj => (World.cell?_setCell_other _ _ _ _ (by intro e; injection e with _ e2; omega)).trans (cell_block (hbk1 bp (by omega)) j)
  have hz : ((w.setCells bh (k * 37) (hlist d.h)).setCell ⟨bp, 0, none⟩ d.vm).heap.size = w.heap.size := by simp [size_setCells]
  have hof : ∀ b o, (w.setCells bh (k * 37) (hlist d.h)).frozen? ⟨b, o, none⟩ = w.frozen? ⟨b, o, none⟩ := fun b o => by rw [World.frozen?_setCells]
  have hll := hlist_length wd
  have hth : w.there bh (k * 37) 37 := by
    have hl37 := hlist_length (wf.harts _ (List.getElem_mem kl))
    exact there_at (at_hart h.harts (fun x hx => hlist_length (wf.harts x hx)) kl) hl37 h.hfz
  have hdl : (hlist d.h).length = 37 := by rw [hd.h]; exact hll
  have hsame : At (w.setCells bh (k * 37) (hlist d.h)) bh (k * 37) (hlist c.h) := by
    intro j hj
    have hr := World.rangeAt_setCells_same w bh (k * 37) (hlist d.h) (by rw [hdl]; exact hth)
    rw [← hd.h] at hj
    have := hr j (hlist d.h)[j] (by simp [hj])
    simp only [hd.h] at this ⊢
    exact this
  have hmb : c.m ≠ [] → ∀ g, d.vm.ownBlock = some g → bp < g ∧ g ≠ bh ∧ vo.ownBlock ≠ some g := fun hne g hg => by
    have hne' : s.mem ≠ [] := fun e => hne (List.eq_nil_of_length_eq_zero (by rw [hl, e]; rfl))
    rcases hm with e | e
    · rw [e] at hg; exact h.mlt hne' g hg
    · have := e g hg
      exact ⟨by omega, by omega, fun e2 => by have := hS2 g e2; omega⟩
  refine ⟨⟨h.b1, World.cell?_setCell_same _ _ _ ((cell_block (hbk1 bp (by omega)) 0).trans h.c0), (hc0 1 (by omega)).trans (by rw [h.c1]; simp), (hc0 2 (by omega)).trans h.c2, (hc0 3 (by omega)).trans h.c3, fun o => (World.frozen?_setCell _ _ _ _).trans ((hof bp o).trans (h.frz o)), ?_, by rw [hz]; exact h.hlt, fun o => (World.frozen?_setCell _ _ _ _).trans ((hof bh o).trans (h.hfz o)), ?_, hmb, ?_, by show (s.harts.set k c.h).length ≤ _ ∧ _; rw [List.length_set]; exact h.hcap⟩, ?_, ?_, fun g h1 h2 => (hbk2 g h1).trans (hbk1 g h2), World.there_setCells hth _ _ _⟩
  · refine At.set_other ?_ (by show bp ≠ bh; omega) _
    refine at_harts_set h.harts (fun x hx => hlist_length (wf.harts x hx)) hll hsame (fun o ho => ?_)
    exact World.cell?_setCells_out _ _ _ _ _ (fun _ hs => by rw [hdl]; exact ho)
  · exact ints_move hd.m (fun hne g hg => by have := hmb hne g hg; exact (hbk2 g (by omega)).trans (hbk1 g this.2.1))
  · exact owns_block h.own (fun g hg => by have := h.own.lt g hg; exact (hbk2 g (by omega)).trans (hbk1 g (by omega)))
  · exact ints_move hd.o (fun _ g hg => by have := ho g hg; exact (hbk2 g (by omega)).trans (hbk1 g (by omega)))
  · exact (below_setCells (B := bp) (by omega) _ _ _ (Below.refl bp w)).setCell (p := ⟨bp, 0, none⟩) (Nat.le_refl bp) _
/-- what came out is laid behind what had come out -/
theorem PB.out {v' : Value} {o : List Int} (h : PB bp bh hc vm vo ty w s) (hown : w'.ownsRow (bh + 1) ty 1 v' (s.out.length + o.length) (s.out.map (Value.int .u32) ++ o.map (Value.int .u32))) (hg : w.grownBy w' vo.ownBlock) (hf : ∀ k, v'.ownBlock = some k → vo.ownBlock = some k ∨ w.heap.size ≤ k) :
    PB bp bh hc vm v' ty (w'.setCell ⟨bp, 2, none⟩ v') { s with out := s.out ++ o } ∧ Below bp w (w'.setCell ⟨bp, 2, none⟩ v') ∧ (∀ g, g < w.heap.size → g ≠ bp → vo.ownBlock ≠ some g → (w'.setCell ⟨bp, 2, none⟩ v').heap[g]? = w.heap[g]?) := by
  have b1 := h.b1
  have hlt := h.lt
  have hh := h.hlt
  have hsz := hg.size
  have hfar : ∀ j, j < w.heap.size → vo.ownBlock ≠ some j → w'.heap[j]? = w.heap[j]? := fun j hj hn => hg.block j hj (fun e => hn e.symm)
  have hbk : ∀ j, j ≠ bp → (w'.setCell ⟨bp, 2, none⟩ v').heap[j]? = w'.heap[j]? := fun j hj => Below.heap_setCell _ _ _ _ (by show j ≠ bp; exact hj)
  have hno : ∀ j, j ≤ bh → vo.ownBlock ≠ some j := fun j hj e => by have := h.own.lt j e; omega
  have e := hfar bp hlt (hno bp (by omega))
  have eh := (hbk bh (by omega)).trans (hfar bh hh (hno bh (Nat.le_refl _)))
  have hcc : ∀ j, j ≠ 2 → (w'.setCell ⟨bp, 2, none⟩ v').cell? ⟨bp, j, none⟩ = w.cell? ⟨bp, j, none⟩ := fun j hj => (World.cell?_setCell_other _ _ _ _ (by intro e; injection e with _ e2; omega)).trans (cell_block e j)
  refine ⟨⟨h.b1, (hcc 0 (by omega)).trans h.c0, (hcc 1 (by omega)).trans h.c1, World.cell?_setCell_same _ _ _ ((cell_block e 2).trans h.c2), (hcc 3 (by omega)).trans h.c3, fun o => (World.frozen?_setCell _ _ _ _).trans ((frozen_block e o).trans (h.frz o)), fun j hj => (cell_block eh _).trans (h.harts j hj), by simp; omega, fun o => (frozen_block eh o).trans (h.hfz o), ints_move h.bytes (fun hne g hg' => ?_), fun hne g hg' => ?_, ?_, h.hcap⟩, ?_, fun g h1 h2 h3 => (hbk g h2).trans (hfar g h1 h3)⟩
  · have := h.mlt hne g hg'
    exact (hbk g (by omega)).trans (hfar g (ints_lt h.bytes hne hg') this.2.2)
  · have := h.mlt hne g hg'
    refine ⟨this.1, this.2.1, fun e2 => ?_⟩
    have hl := ints_lt h.bytes hne hg'
    rcases hf g e2 with e3 | e3
    · exact this.2.2 e3
    · omega
  · have := ownsRow_setCell_below hown (a := ⟨bp, 2, none⟩) (by show bp < bh + 1; omega) v'
    simpa using this
  · exact ((Below.refl bp w).grown hg (by omega) (fun g e => by have := h.own.lt g e; omega)).setCell (p := ⟨bp, 2, none⟩) (Nat.le_refl _) _
/-- others have lost what they had reserved -/
theorem PB.lost {hs : List Hart} (h : PB bp bh hc vm vo ty w s) (hl : hs.length = s.harts.length) (ha : At w' bh 0 (hs.flatMap hlist)) (hg : Chg (fun p => p.block = bh) w w') :
    PB bp bh hc vm vo ty w' { s with harts := hs } := by
  have b1 := h.b1
  have hlt := h.lt
  have hh := h.hlt
  have hsz := hg.size
  have hbk : ∀ j, j < w.heap.size → j ≠ bh → w'.heap[j]? = w.heap[j]? := fun j hj hn => hg.block j hj (fun o e => hn e)
  have e := hbk bp hlt (by omega)
  exact ⟨h.b1, (cell_block e _).trans h.c0, (cell_block e _).trans (by rw [h.c1, ← hl]), (cell_block e _).trans h.c2, (cell_block e _).trans h.c3, fun o => (frozen_block e o).trans (h.frz o), ha, by omega, fun o => (hg.frozen ⟨bh, o, none⟩ hh).trans (h.hfz o), ints_move h.bytes (fun hne g hg' => hbk g (ints_lt h.bytes hne hg') (h.mlt hne g hg').2.1), h.mlt, owns_block h.own (fun g hg' => hbk g (h.own.lt g hg').2 (by have := h.own.lt g hg'; omega)), by rw [show ({ s with harts := hs } : St).harts.length = s.harts.length from hl]; exact h.hcap⟩
end
end Go.Proofs.Ytlfnddmncbkjaab.Fb

/- What a run shows, in memory. No program in sight. -/
namespace Go.Proofs.Ytlfnddmncbkjaab.Fb
set_option linter.unusedVariables false
set_option linter.unusedSimpArgs false
open Go.RowKit
/-- what a run shows, in memory -/
structure ShownAt (w : World) (vm vh vo : Value) (s : St) : Prop where
  mach : MachAt w vm vh s.mach
  out : Ints .u32 w vo s.out
theorem shown_nil (w : World) (n : Nat) : ShownAt w (.slice none 0 0) (.slice none 0 0) (.slice none 0 0) ⟨[], [], [], n⟩ :=
  have h : ∀ (s : Nat), Sl w (.slice none 0 0) s 0 [] := fun s => ⟨by simp, none, 0, rfl, Nat.zero_le _, by decide, fun _ => rfl, fun a ha => by cases ha⟩
  ⟨⟨h 1, h 37⟩, h 1⟩
theorem ShownAt.setCells {w : World} {vm vh vo : Value} {s : St} (h : ShownAt w vm vh vo s) {b : Nat} (h1 : ∀ k, vm.ownBlock = some k → b < k) (h2 : ∀ k, vh.ownBlock = some k → b < k) (h3 : ∀ k, vo.ownBlock = some k → b < k) (o : Nat) (vs : List Value) : ShownAt (w.setCells b o vs) vm vh vo s :=
  ⟨⟨sl_setCells (fun b' off n c e => by have := h1 b' (by rw [e]; rfl); omega) _ _ _ h.mach.1, sl_setCells (fun b' off n c e => by have := h2 b' (by rw [e]; rfl); omega) _ _ _ h.mach.2⟩, sl_setCells (fun b' off n c e => by have := h3 b' (by rw [e]; rfl); omega) _ _ _ h.out⟩
theorem there_blk {w : World} {b n : Nat} {cs : Array Value} {t : TypeId} (h : w.heap[b]? = some (.cells cs t (0, 0))) (hn : cs.size = n) : w.there b 0 n := fun j hj => by
  have hj2 : 0 + j < cs.size := by omega
  exact ⟨by unfold World.cell?; rw [h]; simp; omega, by unfold World.frozen?; rw [h]; simp⟩
section
variable {bp bh hc cp k : Nat} {vm vo : Value} {ty : TypeId} {o0 o : List Int} {fr tw : Int} {w w' : World} {s : St}
theorem Bd.shown (h : Bd bp bh hc vm vo ty w s) (hw : ∀ x ∈ s.harts, x.Wf) : ShownAt w vm (.slice (some ⟨bh, 0, none⟩) s.harts.length hc) vo s := by
  refine ⟨⟨h.bytes, ?_, _, hc, rfl, h.hcap.1, h.hcap.2, (by intro e; cases e), fun a ha _ => ?_⟩, owns_sl h.own⟩
  · show (s.harts.flatMap hlist).length = s.harts.length * 37
    have : ∀ l : List Hart, (∀ x ∈ l, x.Wf) → (l.flatMap hlist).length = l.length * 37 := fun l => by
      induction l with
      | nil => intro _; rfl
      | cons x r ih =>
        intro hx
        rw [List.flatMap_cons, List.length_append, ih (fun y hy => hx y (by simp [hy])), hlist_length (hx x (by simp)), List.length_cons]
        omega
    exact this _ hw
  · cases ha
    exact ⟨rfl, h.harts⟩
/-- the hart has done: what came out of it lies behind what had come out -/
theorem Wk.finish {w1 w0 : World} {B z : Nat} {v3 : Value} (h : Wk bp bh hc cp k vm vo ty o0 o fr tw w s) (h3 : s.out = o0 ++ o) (hB : Below B w0 w) (hBb : B ≤ bp) (hz : z < bp)
    (hown : w1.ownsRow (bp + 1) ty 1 v3 (o0.length + o.length) (o0.map (Value.int .u32) ++ o.map (Value.int .u32))) (hg : w.drew.grownBy w1 vo.ownBlock) :
    Bd bp bh hc vm v3 ty (w1.setCell ⟨bp, 2, none⟩ v3) s ∧ Below B w0 (w1.setCell ⟨bp, 2, none⟩ v3) ∧ (w1.setCell ⟨bp, 2, none⟩ v3).heap[z]? = w.heap[z]? ∧ w.heap.size ≤ (w1.setCell ⟨bp, 2, none⟩ v3).heap.size := by
  have hbw := Nat.lt_trans h.b2 h.clt
  have hlo : ∀ g, vo.ownBlock = some g → bp + 1 ≤ g := fun g e => (h.own.lt g e).1
  have hbd := (h.below (w' := w.drew) (Below.drew (Below.refl _ _))).stop hown hg
  have e3 : ({ s with out := o0 ++ o } : St) = s := by rw [← h3]
  rw [e3] at hbd
  have hsz : w.heap.size ≤ w1.heap.size := hg.size
  refine ⟨hbd, (hB.drew.grown hg (by show B ≤ w.heap.size; omega) (fun g e => by have := hlo g e; omega)).setCell (p := ⟨bp, 2, none⟩) hBb _, ?_, by simpa using hsz⟩
  exact (Below.heap_setCell _ _ _ _ (by show z ≠ bp; omega)).trans (hg.block z (by show z < w.heap.size; omega) (fun e => by have := hlo _ e.symm; omega))
theorem Wk.any (h : Wk bp bh hc cp k vm vo ty o0 o fr tw w s) (x : List Int) : Wk bp bh hc cp k vm vo ty o0 o fr tw w { s with out := x } :=
  ⟨h.core, h.b1, h.b2, h.c0, h.c1, h.c2, h.c3, h.frz, h.harts, h.mlt, h.own, h.vlt, h.kl, h.hcap⟩
end
end Go.Proofs.Ytlfnddmncbkjaab.Fb

/- The document's board begins, its parts as a walk wants them. No program in sight. -/
namespace Go.Proofs.Ytlfnddmncbkjaab.Fb
set_option linter.unusedVariables false
set_option linter.unusedSimpArgs false
open Go.RowKit
theorem PB.begin {w : World} {B bp bh hc : Nat} {vm x : Value} {t ty : TypeId} {m : Mach} (b1 : bp < B) (b2 : bp < bh) (c0 : w.cell? ⟨bp, 0, none⟩ = some vm) (c1 : w.cell? ⟨bp, 1, none⟩ = some x) (c2 : w.cell? ⟨bp, 2, none⟩ = some (.slice none 0 0)) (c3 : w.cell? ⟨bp, 3, none⟩ = some (.int .i64 0))
    (frz : ∀ o, w.frozen? ⟨bp, o, none⟩ = false) (hm : w.ownsRow B t 1 vm m.mem.length (m.mem.map (Value.int .u8))) (hvm : ∀ k, vm.ownBlock = some k → k ≠ bh) (hat : At w bh 0 (m.harts.flatMap hlist)) (hlt : bh < w.heap.size) (hfz : ∀ o, w.frozen? ⟨bh, o, none⟩ = false) (hcap : m.harts.length ≤ hc ∧ hc ≤ maxLen) :
    PB bp bh hc vm (.slice none 0 0) ty (w.setCell ⟨bp, 1, none⟩ (.slice (some ⟨bh, 0, none⟩) m.harts.length hc)) (startM m) := by
  have hc : ∀ j, j ≠ 1 → (w.setCell ⟨bp, 1, none⟩ (.slice (some ⟨bh, 0, none⟩) m.harts.length hc)).cell? ⟨bp, j, none⟩ = w.cell? ⟨bp, j, none⟩ := fun j hj => World.cell?_setCell_other _ _ _ _ (by intro e; injection e with _ e2; omega)
  refine ⟨b2, (hc 0 (by omega)).trans c0, World.cell?_setCell_same _ _ _ c1, (hc 2 (by omega)).trans c2, (hc 3 (by omega)).trans c3, fun o => (World.frozen?_setCell _ _ _ _).trans (frz o), hat.set_other (by show bp ≠ bh; omega) _, by simpa using hlt, fun o => (World.frozen?_setCell _ _ _ _).trans (hfz o), ?_, fun _ k e => ⟨?_, hvm k e, by intro e2; cases e2⟩, World.ownsRow_nil _ _ _ _, hcap⟩
  · exact ints_move (by have := owns_sl hm; unfold Ints; exact this) (fun _ g hg => Below.heap_setCell _ _ _ _ (by show g ≠ bp; have := hm.lt g hg; omega))
  · have := hm.lt k e; omega
theorem cell_at {w : World} {b : Nat} {cs : Array Value} {t : TypeId} {m : Nat × Nat} (h : w.heap[b]? = some (.cells cs t m)) {o : Nat} {v : Value} (hv : cs[o]? = some v) : w.cell? ⟨b, o, none⟩ = some v := by
  simp [World.cell?, h, hv]
section
variable {bp bh hc : Nat} {vm vo : Value} {ty : TypeId} {w : World} {s : St}
theorem PB.shown (h : PB bp bh hc vm vo ty w s) (hw : ∀ x ∈ s.harts, x.Wf) : ShownAt w vm (.slice (some ⟨bh, 0, none⟩) s.harts.length hc) vo s := by
  refine ⟨⟨h.bytes, ?_, _, hc, rfl, h.hcap.1, h.hcap.2, (by intro e; cases e), fun a ha _ => ?_⟩, owns_sl h.own⟩
  · exact flatMap_length hlist 37 (fun x hx => hlist_length (hw x hx))
  · cases ha
    exact ⟨rfl, h.harts⟩
theorem PB.hart (h : PB bp bh hc vm vo ty w s) (wf : s.Wf) {k : Nat} (hk : k < s.harts.length) : At w bh (k * 37) (hlist (s.hart k)) := by
  rw [St.hart_at hk]
  exact at_hart h.harts (fun x hx => hlist_length (wf.harts x hx)) hk
end
theorem heap_setCells {b j : Nat} (hj : j ≠ b) : ∀ (vs : List Value) (o : Nat) (w : World), (w.setCells b o vs).heap[j]? = w.heap[j]?
  | [], _, _ => rfl
  | v :: r, o, w => by rw [World.setCells, heap_setCells hj r]; exact Below.heap_setCell _ _ _ _ (by show j ≠ b; exact hj)
theorem at_set_all {w : World} {b o : Nat} {vs : List Value} (h : w.there b o vs.length) : At (w.setCells b o vs) b o vs := fun j hj =>
  World.rangeAt_setCells_same w b o vs h j vs[j] (by simp [hj])
theorem PB.far {bp bh hc b : Nat} {vm vo : Value} {ty : TypeId} {w : World} {s : St} (h : PB bp bh hc vm vo ty w s) (hb : b < bp) (o : Nat) (vs : List Value) : PB bp bh hc vm vo ty (w.setCells b o vs) s := by
  have b1 := h.b1
  have hk : ∀ g, bp ≤ g → (w.setCells b o vs).heap[g]? = w.heap[g]? := fun g hg => heap_setCells (by omega) _ _ _
  exact ⟨h.b1, (cell_block (hk bp (Nat.le_refl _)) _).trans h.c0, (cell_block (hk bp (Nat.le_refl _)) _).trans h.c1, (cell_block (hk bp (Nat.le_refl _)) _).trans h.c2, (cell_block (hk bp (Nat.le_refl _)) _).trans h.c3, fun o => (frozen_block (hk bp (Nat.le_refl _)) o).trans (h.frz o), fun j hj => (cell_block (hk bh (by omega)) _).trans (h.harts j hj), by simpa [size_setCells] using h.hlt, fun o => (frozen_block (hk bh (by omega)) o).trans (h.hfz o), ints_move h.bytes (fun hne g hg => hk g (by have := (h.mlt hne g hg).1; omega)), h.mlt, owns_block h.own (fun g hg => hk g (by have := (h.own.lt g hg).1; omega)), h.hcap⟩
/-- what a step did, laid into a box -/
theorem DidOf.lay {w : World} {d : DidD} {c : CoreD} (h : DidOf w d c) (ok : d.Ok) {bd : Nat} (hm : c.m ≠ [] → ∀ g, d.vm.ownBlock = some g → g ≠ bd) (ho : c.out ≠ [] → ∀ g, d.vo.ownBlock = some g → g ≠ bd) (ht : w.there bd 0 41) :
    DidOf (w.setCells bd 0 (dlist d)) d c ∧ At (w.setCells bd 0 (dlist d)) bd 0 (dlist d) :=
  ⟨⟨h.h, ints_move h.m (fun hne g hg => heap_setCells (hm hne g hg) _ _ _), ints_move h.o (fun hne g hg => heap_setCells (ho hne g hg) _ _ _), h.fr, h.many⟩, at_set_all (by rw [dlist_len ok]; exact ht)⟩
end Go.Proofs.Ytlfnddmncbkjaab.Fb

/- An instruction as an argument reads. -/
namespace Go.Proofs.Ytlfnddmncbkjaab.RowB
set_option linter.unusedVariables false
set_option linter.unusedSimpArgs false
open Go.ChangeShapes Go.WideShapes Go.ChangeAt Go.RowKit Fb
section
variable {H : Type} {enc : TypeId × Value → H} {W : World}
theorem opens_ins : Opens enc Try.prog W 38 ilist (fun i => i.Wf) := by
  have h := opens_struct (enc := enc) (P := Try.prog) (W := W) (l := [(3, 1), (3, 1), (3, 1), (3, 1), (21, 1)]) Try.underlying38 (by kernel_rfl) (by kernel_rfl) (by kernel_rfl) (by kernel_rfl)
    (opensL_cons (opens_int Try.underlying3) (opensL_cons (opens_int Try.underlying3) (opensL_cons (opens_int Try.underlying3) (opensL_cons (opens_int Try.underlying3) (opensL_cons (opens_int Try.underlying21) opensL_nil)))))
  refine h.map (fun p => ⟨p.1, p.2.1, p.2.2.1, p.2.2.2.1, p.2.2.2.2.1⟩) ?_
  rintro ⟨a, b, c, d, e, u⟩ ⟨h1, h2, h3, h4, h5, _⟩
  exact ⟨rfl, ⟨wf_i64 h1, wf_i64 h2, wf_i64 h3, wf_i64 h4, wf_i32 h5⟩⟩
end
end Go.Proofs.Ytlfnddmncbkjaab.RowB

/- Blocks that are kept: plain. No program in sight. -/
namespace Go.Proofs.Ytlfnddmncbkjaab.Fb
set_option linter.unusedVariables false
set_option linter.unusedSimpArgs false
open Go.RowKit
/-- a block as it lies in a row: where it begins, the slice, what that holds -/
structure BlkD where
  pc : Int
  vi : Value
  ins : List InsD
def blist (x : BlkD) : List Value := [.int .u32 x.pc, x.vi]
structure BlkOk (w : World) (x : BlkD) : Prop where
  at_ : BlockAt w x.vi x.ins
  pc : U32 x.pc
theorem BlkOk.below {w w' : World} {x : BlkD} (h : BlkOk w x) (hb : Below w.heap.size w w') : BlkOk w' x := ⟨Sl.below h.at_ hb, h.pc⟩
def Blks (w : World) (v : Value) (l : List BlkD) : Prop := Sl w v 2 l.length (l.flatMap blist) ∧ ∀ x ∈ l, BlkOk w x
theorem Blks.below {w w' : World} {v : Value} {l : List BlkD} (h : Blks w v l) (hb : Below w.heap.size w w') : Blks w' v l := ⟨Sl.below h.1 hb, fun x hx => (h.2 x hx).below hb⟩
theorem blist_one {w : World} {x : BlkD} (h : BlkOk w x) : ∀ u ∈ blist x, u.oneCell' = true := by
  obtain ⟨ao, cap, e, _⟩ := h.at_.open (fun _ _ => rfl) (by omega)
  intro u hu
  simp only [blist, List.mem_cons, List.not_mem_nil, or_false] at hu
  rcases hu with rfl | rfl
  · rfl
  · rw [e]; rfl
/-- where the first one of a place is; as many as there are: nowhere -/
def placeN (l : List BlkD) (pc : Int) : Nat := l.findIdx (fun x => x.pc == pc)
def placeI (l : List BlkD) (pc : Int) : Int := if placeN l pc < l.length then (placeN l pc : Int) else -1
theorem placeI_at {l : List BlkD} {pc : Int} {k : Nat} (hk : k < l.length) (h : l[k].pc = pc) (hn : ∀ j (hj : j < k), l[j].pc ≠ pc) : placeI l pc = k := by
  have e : placeN l pc = k := by
    refine Nat.le_antisymm ?_ ?_
    · refine Nat.le_of_not_lt (fun hlt => ?_)
      have := List.not_of_lt_findIdx hlt
      simp [h] at this
    · refine Nat.le_of_not_lt (fun hlt => ?_)
      have h2 : placeN l pc < l.length := by omega
      have : (l[placeN l pc].pc == pc) = true := List.findIdx_getElem (p := fun x : BlkD => x.pc == pc) (xs := l) (w := h2)
      exact hn _ hlt (by simpa using this)
  unfold placeI; rw [e, if_pos hk]
theorem placeI_no {l : List BlkD} {pc : Int} (hn : ∀ j (hj : j < l.length), l[j].pc ≠ pc) : placeI l pc = -1 := by
  unfold placeI
  rw [if_neg]
  intro h
  have : (l[placeN l pc].pc == pc) = true := List.findIdx_getElem (p := fun x : BlkD => x.pc == pc) (xs := l) (w := h)
  exact hn _ h (by simpa using this)
end Go.Proofs.Ytlfnddmncbkjaab.Fb
