/- Small steps: plain. No program in sight. -/
import Derived.Test.YtlfnddmncbkjaabZMA
import Derived.Test.YtlfnddmncbkjaabZFbEnc
import Derived.Test.YtlfnddmncbkjaabZFbEnc3
import Derived.Deep.MidRow
import Derived.StillTailTactics
namespace Go.Proofs.Ytlfnddmncbkjaab.Fb
set_option linter.unusedVariables false
set_option linter.unusedSimpArgs false
open Go.RowKit
structure MicD where
  op : Int
  d : Int
  a : Int
  b : Int
  n : Int
deriving DecidableEq
def mlist (m : MicD) : List Value := [.int .i64 m.op, .int .i64 m.d, .int .i64 m.a, .int .i64 m.b, .int .u32 m.n]
theorem mlist_one (m : MicD) : ∀ u ∈ mlist m, u.oneCell' = true := by
  intro u hu
  simp only [mlist, List.mem_cons, List.not_mem_nil, or_false] at hu
  rcases hu with rfl | rfl | rfl | rfl | rfl <;> rfl
/-- which of D, A, B, N (1, 2, 4, 8) a small step has; below 0: there is none such -/
def namedI (op : Int) : Int :=
  if op = 1 ∨ op = 3 then 8 else if op = 2 then 9 else if op = 4 then 10 else if op = 5 ∨ op = 6 then 0
  else if op - op.tmod 100 = 100 then (if 5 ≤ op.tmod 100 ∧ op.tmod 100 ≤ 10 then 14 else -1)
  else if op - op.tmod 100 = 200 then (if 11 ≤ op.tmod 100 ∧ op.tmod 100 ≤ 15 then 11 else -1)
  else if op - op.tmod 100 = 300 then (if 16 ≤ op.tmod 100 ∧ op.tmod 100 ≤ 18 then 14 else -1)
  else if op - op.tmod 100 = 400 then (if 28 ≤ op.tmod 100 ∧ op.tmod 100 ≤ 45 then 7 else -1)
  else if op - op.tmod 100 = 500 then (if 28 ≤ op.tmod 100 ∧ op.tmod 100 ≤ 45 then 11 else -1)
  else if op - op.tmod 100 = 600 then (if 46 ≤ op.tmod 100 ∧ op.tmod 100 ≤ 56 then 7 else -1)
  else -1
/-- a register that a small step has, or has not -/
def regOk (has : Bool) (r : Int) : Bool := !(!has && r != 0) && decide (0 ≤ r) && decide (r < 36)
def hasB1 (k : Int) : Bool := decide (k.tmod 2 = 1)
def mayM (m : MicD) : Bool :=
  !(decide (namedI m.op < 0)) && !(decide (namedI m.op < 8) && m.n != 0) && regOk (decide ((namedI m.op).tmod 2 = 1)) m.d && regOk (decide (((namedI m.op).tdiv 2).tmod 2 = 1)) m.a && regOk (decide (((namedI m.op).tdiv 4).tmod 2 = 1)) m.b
def mayL (l : List MicD) : Bool := decide (l.length ≤ 200) && l.all mayM
/-- operations of instructions with a number -/
def numOp (op : Int) : Int := if op = 19 then 28 else if op = 20 then 31 else if op = 21 then 32 else if op = 22 then 33 else if op = 23 then 36 else if op = 24 then 37 else if op = 25 then 30 else if op = 26 then 34 else 35
def numM (op rd rs1 n : Int) : List MicD :=
  if rd = 0 then []
  else if rs1 = 0 ∧ (op = 28 ∨ op = 36 ∨ op = 33) then [⟨2, rd, 0, 0, n⟩]
  else if rs1 = 0 ∧ (op = 37 ∨ op = 30 ∨ op = 34 ∨ op = 35) then [⟨2, rd, 0, 0, 0⟩]
  else [⟨500 + op, rd, rs1, 0, n⟩]
def u32 (x : Int) : Int := x % 4294967296
/-- the small steps of an instruction, behind the one that begins it -/
def bodyM (i : InsD) (pc : Int) : List MicD :=
  if i.op = 1 then [⟨2, i.rd, 0, 0, u32 i.imm⟩]
  else if i.op = 2 then [⟨2, i.rd, 0, 0, u32 (pc + u32 i.imm)⟩]
  else if i.op = 3 then [⟨2, i.rd, 0, 0, u32 (pc + 4)⟩, ⟨3, 0, 0, 0, u32 (pc + u32 i.imm)⟩]
  else if i.op = 4 then [⟨528, 32, i.rs1, 0, u32 i.imm⟩, ⟨2, i.rd, 0, 0, u32 (pc + 4)⟩, ⟨4, 0, 32, 0, 0⟩]
  else if i.op ≤ 10 then [⟨100 + i.op, 0, i.rs1, i.rs2, u32 (pc + u32 i.imm)⟩]
  else if i.op ≤ 15 then [⟨200 + i.op, i.rd, i.rs1, 0, u32 i.imm⟩]
  else if i.op ≤ 18 then [⟨300 + i.op, 0, i.rs1, i.rs2, u32 i.imm⟩]
  else if i.op ≤ 27 then numM (numOp i.op) i.rd i.rs1 (u32 i.imm)
  else if i.op ≤ 45 then (if i.rd = 0 then [] else [⟨400 + i.op, i.rd, i.rs1, i.rs2, 0⟩])
  else if i.op ≤ 56 then [⟨600 + i.op, i.rd, i.rs1, i.rs2, 0⟩]
  else if i.op = 58 then [⟨5, 0, 0, 0, 0⟩]
  else if i.op = 59 then [⟨6, 0, 0, 0, 0⟩]
  else []
def insM (i : InsD) (pc : Int) : List MicD := ⟨1, 0, 0, 0, pc⟩ :: bodyM i pc
/-- the small steps of instructions that lie from the k-th place on -/
def rowM (pc : Int) : Nat → List InsD → List MicD
  | _, [] => []
  | k, i :: r => insM i (u32 (pc + u32 (4 * (k : Int)))) ++ rowM pc (k + 1) r
def mkM (pc : Int) (l : List InsD) : List MicD := if 16 < l.length ∨ l.all isS = false then [] else rowM pc 0 l
theorem numM_len (op rd rs1 n : Int) : (numM op rd rs1 n).length ≤ 3 := by
  unfold numM
  by_cases c1 : rd = 0
  · rw [if_pos c1]; decide
  rw [if_neg c1]
  by_cases c2 : rs1 = 0 ∧ (op = 28 ∨ op = 36 ∨ op = 33)
  · rw [if_pos c2]; simp
  rw [if_neg c2]
  by_cases c3 : rs1 = 0 ∧ (op = 37 ∨ op = 30 ∨ op = 34 ∨ op = 35)
  · rw [if_pos c3]; simp
  rw [if_neg c3]; simp
theorem bodyM_len (i : InsD) (pc : Int) : (bodyM i pc).length ≤ 3 := by
  unfold bodyM
  by_cases c0 : i.op = 1
  · rw [if_pos c0]; simp
  rw [if_neg c0]
  by_cases c1 : i.op = 2
  · rw [if_pos c1]; simp
  rw [if_neg c1]
  by_cases c2 : i.op = 3
  · rw [if_pos c2]; simp
  rw [if_neg c2]
  by_cases c3 : i.op = 4
  · rw [if_pos c3]; simp
  rw [if_neg c3]
  by_cases c4 : i.op ≤ 10
  · rw [if_pos c4]; simp
  rw [if_neg c4]
  by_cases c5 : i.op ≤ 15
  · rw [if_pos c5]; simp
  rw [if_neg c5]
  by_cases c6 : i.op ≤ 18
  · rw [if_pos c6]; simp
  rw [if_neg c6]
  by_cases d1 : i.op ≤ 27
  · rw [if_pos d1]; exact numM_len _ _ _ _
  rw [if_neg d1]
  by_cases d2 : i.op ≤ 45
  · rw [if_pos d2]
    by_cases d3 : i.rd = 0
    · rw [if_pos d3]; decide
    · rw [if_neg d3]; simp
  rw [if_neg d2]
  by_cases d4 : i.op ≤ 56
  · rw [if_pos d4]; simp
  rw [if_neg d4]
  by_cases d5 : i.op = 58
  · rw [if_pos d5]; simp
  rw [if_neg d5]
  by_cases d6 : i.op = 59
  · rw [if_pos d6]; simp
  rw [if_neg d6]; decide
theorem rowM_len (pc : Int) : ∀ (l : List InsD) (k : Nat), (rowM pc k l).length ≤ 4 * l.length
  | [], _ => Nat.zero_le _
  | i :: r, k => by
    have := rowM_len pc r (k + 1)
    have h2 := bodyM_len i (u32 (pc + u32 (4 * (k : Int))))
    simp only [rowM, insM, List.length_append, List.length_cons]
    omega
theorem mkM_len (pc : Int) (l : List InsD) : (mkM pc l).length ≤ 4 * l.length := by
  unfold mkM; split
  · simp
  · exact rowM_len pc l 0
theorem isS_regs {i : InsD} (h : isS i = true) : (1 ≤ i.op ∧ i.op ≤ 59) ∧ (0 ≤ i.rd ∧ i.rd ≤ 31) ∧ (0 ≤ i.rs1 ∧ i.rs1 ≤ 31) ∧ (0 ≤ i.rs2 ∧ i.rs2 ≤ 31) := by
  unfold isS at h
  rw [Bool.and_eq_true] at h
  have := of_decide_eq_true h.1
  omega
theorem regOk_has {r : Int} (h : 0 ≤ r ∧ r < 36) : regOk true r = true := by simp [regOk, h]
theorem regOk_zero (b : Bool) : regOk b 0 = true := by cases b <;> rfl
theorem mayM_has {m : MicD} (k : Int) (hk : namedI m.op = k) (h0 : 0 ≤ k) (hn : k < 8 → m.n = 0) (hd : regOk (decide (k.tmod 2 = 1)) m.d = true) (ha : regOk (decide ((k.tdiv 2).tmod 2 = 1)) m.a = true) (hb : regOk (decide ((k.tdiv 4).tmod 2 = 1)) m.b = true) : mayM m = true := by
  unfold mayM
  rw [hk, hd, ha, hb]
  have h1 : decide (k < 0) = false := by simp; omega
  rw [h1]
  by_cases h8 : k < 8
  · rw [hn h8]; simp
  · have : decide (k < 8) = false := by simp; omega
    rw [this]; simp
theorem named_at (c s : Int) (hc : c = 100 ∨ c = 200 ∨ c = 300 ∨ c = 400 ∨ c = 500 ∨ c = 600) (h0 : 0 ≤ s) (h1 : s < 100) : (c + s).tmod 100 = s ∧ c + s - (c + s).tmod 100 = c := by
  have : (c + s).tmod 100 = s := by
    rw [Int.tmod_eq_emod_of_nonneg (by omega)]; omega
  omega
theorem named_if {s : Int} (h : 5 ≤ s ∧ s ≤ 10) : namedI (100 + s) = 14 := by
  obtain ⟨h1, h2⟩ := named_at 100 s (by omega) (by omega) (by omega)
  unfold namedI; rw [h2, h1]; repeat' split
  all_goals (first | rfl | omega)
theorem named_load {s : Int} (h : 11 ≤ s ∧ s ≤ 15) : namedI (200 + s) = 11 := by
  obtain ⟨h1, h2⟩ := named_at 200 s (by omega) (by omega) (by omega)
  unfold namedI; rw [h2, h1]; repeat' split
  all_goals (first | rfl | omega)
theorem named_store {s : Int} (h : 16 ≤ s ∧ s ≤ 18) : namedI (300 + s) = 14 := by
  obtain ⟨h1, h2⟩ := named_at 300 s (by omega) (by omega) (by omega)
  unfold namedI; rw [h2, h1]; repeat' split
  all_goals (first | rfl | omega)
theorem named_alu {s : Int} (h : 28 ≤ s ∧ s ≤ 45) : namedI (400 + s) = 7 := by
  obtain ⟨h1, h2⟩ := named_at 400 s (by omega) (by omega) (by omega)
  unfold namedI; rw [h2, h1]; repeat' split
  all_goals (first | rfl | omega)
theorem named_alun {s : Int} (h : 28 ≤ s ∧ s ≤ 45) : namedI (500 + s) = 11 := by
  obtain ⟨h1, h2⟩ := named_at 500 s (by omega) (by omega) (by omega)
  unfold namedI; rw [h2, h1]; repeat' split
  all_goals (first | rfl | omega)
theorem named_atom {s : Int} (h : 46 ≤ s ∧ s ≤ 56) : namedI (600 + s) = 7 := by
  obtain ⟨h1, h2⟩ := named_at 600 s (by omega) (by omega) (by omega)
  unfold namedI; rw [h2, h1]; repeat' split
  all_goals (first | rfl | omega)
theorem numOp_in (op : Int) : 28 ≤ numOp op ∧ numOp op ≤ 45 := by
  unfold numOp; repeat' split
  all_goals omega
theorem may_set {r n : Int} (h : 0 ≤ r ∧ r < 36) : mayM ⟨2, r, 0, 0, n⟩ = true := mayM_has 9 rfl (by omega) (by omega) (regOk_has h) (regOk_zero _) (regOk_zero _)
theorem may_alun {s d a n : Int} (h : 28 ≤ s ∧ s ≤ 45) (hd : 0 ≤ d ∧ d < 36) (ha : 0 ≤ a ∧ a < 36) : mayM ⟨500 + s, d, a, 0, n⟩ = true := mayM_has 11 (named_alun h) (by omega) (by omega) (regOk_has hd) (regOk_has ha) (regOk_zero _)
theorem bodyM_may {i : InsD} (h : isS i = true) (pc : Int) : ∀ m ∈ bodyM i pc, mayM m = true := by
  obtain ⟨h1, h2, h3, h4⟩ := isS_regs h
  clear h
  intro m hm
  unfold bodyM at hm
  by_cases c1 : i.op = 1
  · rw [if_pos c1] at hm
    rw [List.mem_singleton] at hm; subst hm
    exact may_set (by omega)
  rw [if_neg c1] at hm
  by_cases c2 : i.op = 2
  · rw [if_pos c2] at hm
    rw [List.mem_singleton] at hm; subst hm
    exact may_set (by omega)
  rw [if_neg c2] at hm
  by_cases c3 : i.op = 3
  · rw [if_pos c3] at hm
    simp only [List.mem_cons, List.not_mem_nil, or_false] at hm
    rcases hm with rfl | rfl
    · exact may_set (by omega)
    · exact mayM_has 8 rfl (by omega) (by omega) (regOk_zero _) (regOk_zero _) (regOk_zero _)
  rw [if_neg c3] at hm
  by_cases c4 : i.op = 4
  · rw [if_pos c4] at hm
    simp only [List.mem_cons, List.not_mem_nil, or_false] at hm
    rcases hm with rfl | rfl | rfl
    · exact may_alun (s := 28) (by omega) (by omega) (by omega)
    · exact may_set (by omega)
    · exact mayM_has 10 rfl (by omega) (by omega) (regOk_zero _) (regOk_has (by dsimp only; omega)) (regOk_zero _)
  rw [if_neg c4] at hm
  by_cases c5 : i.op ≤ 10
  · rw [if_pos c5] at hm
    rw [List.mem_singleton] at hm; subst hm
    exact mayM_has 14 (named_if (by omega)) (by omega) (by omega) (regOk_zero _) (regOk_has (by dsimp only; omega)) (regOk_has (by dsimp only; omega))
  rw [if_neg c5] at hm
  by_cases c6 : i.op ≤ 15
  · rw [if_pos c6] at hm
    rw [List.mem_singleton] at hm; subst hm
    exact mayM_has 11 (named_load (by omega)) (by omega) (by omega) (regOk_has (by dsimp only; omega)) (regOk_has (by dsimp only; omega)) (regOk_zero _)
  rw [if_neg c6] at hm
  by_cases c7 : i.op ≤ 18
  · rw [if_pos c7] at hm
    rw [List.mem_singleton] at hm; subst hm
    exact mayM_has 14 (named_store (by omega)) (by omega) (by omega) (regOk_zero _) (regOk_has (by dsimp only; omega)) (regOk_has (by dsimp only; omega))
  rw [if_neg c7] at hm
  by_cases c8 : i.op ≤ 27
  · rw [if_pos c8] at hm
    have hn := numOp_in i.op
    unfold numM at hm
    by_cases d1 : i.rd = 0
    · rw [if_pos d1] at hm; cases hm
    rw [if_neg d1] at hm
    generalize numOp i.op = q at hn hm
    by_cases d2 : i.rs1 = 0 ∧ (q = 28 ∨ q = 36 ∨ q = 33)
    · rw [if_pos d2] at hm; rw [List.mem_singleton] at hm; subst hm; exact may_set (by omega)
    rw [if_neg d2] at hm
    by_cases d3 : i.rs1 = 0 ∧ (q = 37 ∨ q = 30 ∨ q = 34 ∨ q = 35)
    · rw [if_pos d3] at hm; rw [List.mem_singleton] at hm; subst hm; exact may_set (by omega)
    rw [if_neg d3] at hm
    rw [List.mem_singleton] at hm; subst hm
    exact may_alun hn (by omega) (by omega)
  rw [if_neg c8] at hm
  by_cases c9 : i.op ≤ 45
  · rw [if_pos c9] at hm
    by_cases d1 : i.rd = 0
    · rw [if_pos d1] at hm; cases hm
    rw [if_neg d1] at hm
    rw [List.mem_singleton] at hm; subst hm
    exact mayM_has 7 (named_alu (by omega)) (by omega) (fun _ => rfl) (regOk_has (by dsimp only; omega)) (regOk_has (by dsimp only; omega)) (regOk_has (by dsimp only; omega))
  rw [if_neg c9] at hm
  by_cases c10 : i.op ≤ 56
  · rw [if_pos c10] at hm
    rw [List.mem_singleton] at hm; subst hm
    exact mayM_has 7 (named_atom (by omega)) (by omega) (fun _ => rfl) (regOk_has (by dsimp only; omega)) (regOk_has (by dsimp only; omega)) (regOk_has (by dsimp only; omega))
  rw [if_neg c10] at hm
  by_cases c11 : i.op = 58
  · rw [if_pos c11] at hm
    rw [List.mem_singleton] at hm; subst hm
    rfl
  rw [if_neg c11] at hm
  by_cases c12 : i.op = 59
  · rw [if_pos c12] at hm
    rw [List.mem_singleton] at hm; subst hm
    rfl
  rw [if_neg c12] at hm
  cases hm
theorem rowM_may (pc : Int) : ∀ (l : List InsD) (k : Nat), l.all isS = true → (rowM pc k l).all mayM = true
  | [], _, _ => rfl
  | i :: r, k, h => by
    simp only [List.all_cons, Bool.and_eq_true] at h
    simp only [rowM, insM, List.all_append, List.all_cons, Bool.and_eq_true]
    exact ⟨⟨rfl, List.all_eq_true.2 (bodyM_may h.1 _)⟩, rowM_may pc r (k + 1) h.2⟩
theorem mkM_may (pc : Int) (l : List InsD) : mayL (mkM pc l) = true := by
  have h := mkM_len pc l
  unfold mayL
  rw [Bool.and_eq_true, decide_eq_true_eq]
  unfold mkM at h ⊢
  split
  · exact ⟨by simp, rfl⟩
  · rename_i hc
    rw [if_neg hc] at h
    have hl : ¬ 16 < l.length := fun e => hc (.inl e)
    have ha : l.all isS = true := by
      cases e : l.all isS
      · exact absurd (.inr e) hc
      · rfl
    exact ⟨by omega, rowM_may pc l 0 ha⟩
end Go.Proofs.Ytlfnddmncbkjaab.Fb

/- Small steps that were made may be. No program in sight. -/
namespace Go.Proofs.Ytlfnddmncbkjaab.Fb
set_option linter.unusedVariables false
set_option linter.unusedSimpArgs false
open Go.RowKit
structure MicD.Ok (m : MicD) : Prop where
  op : -9223372036854775808 ≤ m.op ∧ m.op ≤ 9223372036854775807
  d : -9223372036854775808 ≤ m.d ∧ m.d ≤ 9223372036854775807
  a : -9223372036854775808 ≤ m.a ∧ m.a ≤ 9223372036854775807
  b : -9223372036854775808 ≤ m.b ∧ m.b ≤ 9223372036854775807
  n : U32 m.n
theorem u32_ok (x : Int) : U32 (u32 x) := by unfold u32; exact ⟨by omega, by omega⟩
theorem u32_0 : U32 0 := ⟨by omega, by omega⟩
theorem bodyM_opn {i : InsD} (h : isS i = true) (pc : Int) : ∀ m ∈ bodyM i pc, (1 ≤ m.op ∧ m.op ≤ 656) ∧ U32 m.n := by
  obtain ⟨h1, -⟩ := isS_regs h
  clear h
  intro m hm
  unfold bodyM at hm
  by_cases c1 : i.op = 1
  · rw [if_pos c1] at hm
    rw [List.mem_singleton] at hm; subst hm
    exact ⟨by dsimp only; omega, u32_ok _⟩
  rw [if_neg c1] at hm
  by_cases c2 : i.op = 2
  · rw [if_pos c2] at hm
    rw [List.mem_singleton] at hm; subst hm
    exact ⟨by dsimp only; omega, u32_ok _⟩
  rw [if_neg c2] at hm
  by_cases c3 : i.op = 3
  · rw [if_pos c3] at hm
    simp only [List.mem_cons, List.not_mem_nil, or_false] at hm
    rcases hm with rfl | rfl
    · exact ⟨by dsimp only; omega, u32_ok _⟩
    · exact ⟨by dsimp only; omega, u32_ok _⟩
  rw [if_neg c3] at hm
  by_cases c4 : i.op = 4
  · rw [if_pos c4] at hm
    simp only [List.mem_cons, List.not_mem_nil, or_false] at hm
    rcases hm with rfl | rfl | rfl
    · exact ⟨by dsimp only; omega, u32_ok _⟩
    · exact ⟨by dsimp only; omega, u32_ok _⟩
    · exact ⟨by dsimp only; omega, u32_0⟩
  rw [if_neg c4] at hm
  by_cases c5 : i.op ≤ 10
  · rw [if_pos c5] at hm
    rw [List.mem_singleton] at hm; subst hm
    exact ⟨by dsimp only; omega, u32_ok _⟩
  rw [if_neg c5] at hm
  by_cases c6 : i.op ≤ 15
  · rw [if_pos c6] at hm
    rw [List.mem_singleton] at hm; subst hm
    exact ⟨by dsimp only; omega, u32_ok _⟩
  rw [if_neg c6] at hm
  by_cases c7 : i.op ≤ 18
  · rw [if_pos c7] at hm
    rw [List.mem_singleton] at hm; subst hm
    exact ⟨by dsimp only; omega, u32_ok _⟩
  rw [if_neg c7] at hm
  by_cases c8 : i.op ≤ 27
  · rw [if_pos c8] at hm
    have hn := numOp_in i.op
    unfold numM at hm
    by_cases d1 : i.rd = 0
    · rw [if_pos d1] at hm; cases hm
    rw [if_neg d1] at hm
    generalize numOp i.op = q at hn hm
    by_cases d2 : i.rs1 = 0 ∧ (q = 28 ∨ q = 36 ∨ q = 33)
    · rw [if_pos d2] at hm; rw [List.mem_singleton] at hm; subst hm; exact ⟨by dsimp only; omega, u32_ok _⟩
    rw [if_neg d2] at hm
    by_cases d3 : i.rs1 = 0 ∧ (q = 37 ∨ q = 30 ∨ q = 34 ∨ q = 35)
    · rw [if_pos d3] at hm; rw [List.mem_singleton] at hm; subst hm; exact ⟨by dsimp only; omega, u32_0⟩
    rw [if_neg d3] at hm
    rw [List.mem_singleton] at hm; subst hm
    exact ⟨by dsimp only; omega, u32_ok _⟩
  rw [if_neg c8] at hm
  by_cases c9 : i.op ≤ 45
  · rw [if_pos c9] at hm
    by_cases d1 : i.rd = 0
    · rw [if_pos d1] at hm; cases hm
    rw [if_neg d1] at hm
    rw [List.mem_singleton] at hm; subst hm
    exact ⟨by dsimp only; omega, u32_0⟩
  rw [if_neg c9] at hm
  by_cases c10 : i.op ≤ 56
  · rw [if_pos c10] at hm
    rw [List.mem_singleton] at hm; subst hm
    exact ⟨by dsimp only; omega, u32_0⟩
  rw [if_neg c10] at hm
  by_cases c11 : i.op = 58
  · rw [if_pos c11] at hm
    rw [List.mem_singleton] at hm; subst hm
    exact ⟨by dsimp only; omega, u32_0⟩
  rw [if_neg c11] at hm
  by_cases c12 : i.op = 59
  · rw [if_pos c12] at hm
    rw [List.mem_singleton] at hm; subst hm
    exact ⟨by dsimp only; omega, u32_0⟩
  rw [if_neg c12] at hm
  cases hm
theorem regOk_in {b : Bool} {r : Int} (h : regOk b r = true) : 0 ≤ r ∧ r < 36 := by
  unfold regOk at h
  simp at h
  omega
theorem mayM_regs {m : MicD} (h : mayM m = true) : (0 ≤ m.d ∧ m.d < 36) ∧ (0 ≤ m.a ∧ m.a < 36) ∧ (0 ≤ m.b ∧ m.b < 36) := by
  unfold mayM at h
  rw [Bool.and_eq_true, Bool.and_eq_true, Bool.and_eq_true] at h
  exact ⟨regOk_in h.1.1.2, regOk_in h.1.2, regOk_in h.2⟩
theorem rowM_opn (pc : Int) : ∀ (l : List InsD) (k : Nat), l.all isS = true → ∀ m ∈ rowM pc k l, (1 ≤ m.op ∧ m.op ≤ 656) ∧ U32 m.n
  | [], _, _, m, hm => by cases hm
  | i :: r, k, h, m, hm => by
    simp only [List.all_cons, Bool.and_eq_true] at h
    simp only [rowM, insM, List.mem_append, List.mem_cons] at hm
    rcases hm with (hm | hm) | hm
    · subst hm; exact ⟨by dsimp only; omega, u32_ok _⟩
    · exact bodyM_opn h.1 _ m hm
    · exact rowM_opn pc r (k + 1) h.2 m hm
theorem mkM_ok (pc : Int) (l : List InsD) : ∀ m ∈ mkM pc l, m.Ok := fun m hm => by
  have h1 := mkM_may pc l
  unfold mayL at h1
  rw [Bool.and_eq_true, List.all_eq_true] at h1
  have h2 := mayM_regs (h1.2 m hm)
  have h3 : (1 ≤ m.op ∧ m.op ≤ 656) ∧ U32 m.n := by
    unfold mkM at hm
    split at hm
    · cases hm
    · rename_i hc
      have ha : l.all isS = true := by
        cases e : l.all isS
        · exact absurd (.inr e) hc
        · rfl
      exact rowM_opn pc l 0 ha m hm
  exact ⟨by omega, by omega, by omega, by omega, h3.2⟩
theorem rowS_is (l : List Int) : ∀ n pc, ∀ i ∈ rowS l n pc, isS i = true ∧ I32 i.imm
  | 0, _, i, hi => by cases hi
  | n + 1, pc, i, hi => by
    unfold rowS at hi
    split at hi
    · cases hd : dec (mLoad l 13 pc) with
      | none => rw [hd] at hi; cases hi
      | some x =>
        rw [hd] at hi
        dsimp only at hi
        rcases List.mem_cons.1 hi with rfl | hi
        · exact dec_is _ _ hd
        · split at hi
          · cases hi
          · exact rowS_is l n _ i hi
    · cases hi
theorem makeS_is (l : List Int) (pc : Int) : ∀ i ∈ (makeS l pc).2, isS i = true ∧ I32 i.imm := fun i hi => by
  unfold makeS at hi
  split at hi
  · cases hi
  · exact rowS_is l 16 pc i hi
end Go.Proofs.Ytlfnddmncbkjaab.Fb

/- An instruction as an argument reads. -/
namespace Go.Proofs.Ytlfnddmncbkjaab.RowB
set_option linter.unusedVariables false
set_option linter.unusedSimpArgs false
open Go.ChangeShapes Go.WideShapes Go.ChangeAt Go.RowKit Fb
section
variable {H : Type} {enc : TypeId × Value → H} {W : World}
theorem opens_ins : Opens enc Try.prog W 38 ilist (fun i => i.Wf) := by
  have h := opens_struct (enc := enc) (P := Try.prog) (W := W) (l := [(3, 1), (3, 1), (3, 1), (3, 1), (21, 1)]) Try.underlying38 (by kernel_rfl) (by kernel_rfl) (by kernel_rfl) (by kernel_rfl)
    (opensL_cons (opens_int Try.underlying3) (opensL_cons (opens_int Try.underlying3) (opensL_cons (opens_int Try.underlying3) (opensL_cons (opens_int Try.underlying3) (opensL_cons (opens_int Try.underlying21) opensL_nil)))))
  refine h.map (fun p => ⟨p.1, p.2.1, p.2.2.1, p.2.2.2.1, p.2.2.2.2.1⟩) ?_
  rintro ⟨a, b, c, d, e, u⟩ ⟨h1, h2, h3, h4, h5, _⟩
  exact ⟨rfl, ⟨wf_i64 h1, wf_i64 h2, wf_i64 h3, wf_i64 h4, wf_i32 h5⟩⟩
end
end Go.Proofs.Ytlfnddmncbkjaab.RowB

/- A step as data: what it keeps. No program in sight. -/
namespace Go.Proofs.Ytlfnddmncbkjaab.Fb
set_option linter.unusedVariables false
set_option linter.unusedSimpArgs false
open Go.RowKit

theorem mLoad_u (l : List Int) (op pc : Int) (hop : 11 ≤ op ∧ op ≤ 15) (hpc : U32 pc) (hb : ∀ i, 0 ≤ l.getD i 0 ∧ l.getD i 0 < 256) : U32 (mLoad l op pc) := by
  by_cases h : mLoadOk l op pc = true
  · obtain ⟨k, rfl⟩ := Int.eq_ofNat_of_zero_le hpc.1
    have h0 := hb k
    have h1 := hb (k + 1)
    have h2 := hb (k + 2)
    have h3 := hb (k + 3)
    have ho : op = 11 ∨ op = 12 ∨ op = 13 ∨ op = 14 ∨ op = 15 := by omega
    rcases ho with rfl | rfl | rfl | rfl | rfl
    · rw [mLoad_11 h]; exact mod_lo _
    · rw [mLoad_12 h]; exact mod_lo _
    · rw [mLoad_13 h]; unfold U32; omega
    · rw [mLoad_14 h]; unfold U32; omega
    · rw [mLoad_15 h]; unfold U32; omega
  · unfold mLoad; rw [if_neg h]; unfold U32; omega
theorem reg_u {h : Hart} (wf : h.Wf) (r : Int) : U32 (h.reg r) := by
  unfold Hart.reg
  by_cases hr : r.toNat < h.regs.length
  · rw [List.getD, List.getElem?_eq_getElem hr]; exact wf.regs _ (List.getElem_mem hr)
  · rw [List.getD, List.getElem?_eq_none (by omega)]; show U32 0; unfold U32; omega
theorem CoreD.Wf.set {d : CoreD} (wf : d.Wf) (r x : Int) (hx : U32 x) : (d.set r x).Wf := by
  refine ⟨?_, wf.m, wf.out, wf.fr, wf.tw, wf.mlen, wf.olen⟩
  show (d.h.setReg r x).Wf
  unfold Hart.setReg
  split
  · refine ⟨by simp [wf.h.len], fun y hy => ?_, wf.h.pc, wf.h.heldAt, wf.h.state, wf.h.cause⟩
    rcases List.mem_or_eq_of_mem_set hy with h | rfl
    · exact wf.h.regs _ h
    · exact hx
  · exact wf.h
theorem CoreD.Wf.setPc {d : CoreD} (wf : d.Wf) (x : Int) (hx : U32 x) : (d.setPc x).Wf :=
  ⟨⟨wf.h.len, wf.h.regs, hx, wf.h.heldAt, wf.h.state, wf.h.cause⟩, wf.m, wf.out, wf.fr, wf.tw, wf.mlen, wf.olen⟩
theorem CoreD.Wf.trap {d : CoreD} (wf : d.Wf) (c : Int) (hc : 1 ≤ c ∧ c ≤ 6) : (d.trap c).Wf :=
  ⟨⟨wf.h.len, wf.h.regs, wf.h.pc, wf.h.heldAt, ⟨(by decide : (-9223372036854775808 : Int) ≤ 2), (by decide : (2 : Int) ≤ 9223372036854775807)⟩, by show _ ≤ c ∧ c ≤ _; omega⟩, wf.m, wf.out, wf.fr, wf.tw, wf.mlen, wf.olen⟩
theorem CoreD.Wf.hold {d : CoreD} (wf : d.Wf) (b : Bool) (x : Int) (hx : U32 x) : (d.hold b x).Wf :=
  ⟨⟨wf.h.len, wf.h.regs, wf.h.pc, hx, wf.h.state, wf.h.cause⟩, wf.m, wf.out, wf.fr, wf.tw, wf.mlen, wf.olen⟩
theorem lay_bytes {l : List Int} (hb : Bytes l) (at_ w : Int) : ∀ m, Bytes (lay l at_ w m)
  | 0 => hb
  | m + 1 => fun x hx => by
    rcases List.mem_or_eq_of_mem_set hx with h | rfl
    · exact lay_bytes hb at_ w m x h
    · omega
theorem CoreD.Wf.put {d : CoreD} (wf : d.Wf) (op at_ x : Int) (ha : U32 at_) : (d.put op at_ x).Wf := by
  unfold CoreD.put
  split
  · rename_i hok
    have e : mStore d.m op at_ x = lay d.m at_ x (msize op).toNat := by unfold mStore; rw [if_pos hok]
    exact ⟨wf.h, by show Bytes (mStore d.m op at_ x); rw [e]; exact lay_bytes wf.m _ _ _, wf.out, ha, mod_lo _, by show (mStore d.m op at_ x).length ≤ _; rw [mStore_length]; exact wf.mlen, wf.olen⟩
  · exact wf
theorem CoreD.put_h (d : CoreD) (op at_ x : Int) : (d.put op at_ x).h = d.h := by unfold CoreD.put; split <;> rfl
theorem CoreD.put_out (d : CoreD) (op at_ x : Int) : (d.put op at_ x).out = d.out := by unfold CoreD.put; split <;> rfl
theorem CoreD.put_mlen (d : CoreD) (op at_ x : Int) : (d.put op at_ x).m.length = d.m.length := by unfold CoreD.put; split <;> simp [mStore_length]
theorem immOp_u (op : Int) : 28 ≤ immOp op ∧ immOp op ≤ 37 := by unfold immOp; repeat' split <;> omega
theorem atomS_wf {d : CoreD} (wf : d.Wf) (op a b : Int) (ha : U32 a) (hb : U32 b) : (atomS d op a b).1.Wf ∧ U32 (atomS d op a b).2.1 := by
  have hl := mLoad_u d.m 13 a (by omega) ha wf.m.getD
  unfold atomS
  split
  · split
    · exact ⟨wf.hold _ _ ha, hl⟩
    · split
      · split
        · exact ⟨(wf.put _ _ _ ha).hold _ _ (by unfold U32; omega), by show U32 0; unfold U32; omega⟩
        · exact ⟨wf.hold _ _ (by unfold U32; omega), by show U32 1; unfold U32; omega⟩
      · exact ⟨wf.put _ _ _ ha, hl⟩
  · exact ⟨wf.trap _ (by split <;> omega), by show U32 0; unfold U32; omega⟩
theorem callS_wf {d : CoreD} (wf : d.Wf) (ho : d.out.length < 1099511627776) : (callS d).1.Wf := by
  unfold callS
  split
  · exact ⟨⟨wf.h.len, wf.h.regs, wf.h.pc, wf.h.heldAt, ⟨(by decide : (-9223372036854775808 : Int) ≤ 1), (by decide : (1 : Int) ≤ 9223372036854775807)⟩, wf.h.cause⟩, wf.m, wf.out, wf.fr, wf.tw, wf.mlen, wf.olen⟩
  · split
    · refine ⟨wf.h, wf.m, fun x hx => ?_, wf.fr, wf.tw, wf.mlen, by show (d.out ++ [d.h.reg 10]).length ≤ _; rw [List.length_append, List.length_singleton]; omega⟩
      rcases List.mem_append.1 hx with h | h
      · exact wf.out x h
      · rw [List.mem_singleton] at h; subst h; exact reg_u wf.h _
    · exact wf.trap _ (by omega)
theorem ite_ind {α : Type} {P : α → Prop} {c : Prop} [Decidable c] {x y : α} (h1 : c → P x) (h2 : ¬ c → P y) : P (if c then x else y) := by
  by_cases h : c
  · rw [if_pos h]; exact h1 h
  · rw [if_neg h]; exact h2 h
theorem doS_wf {d : CoreD} (wf : d.Wf) (i : InsD) (ho : d.out.length < 1099511627776) : (doS i d).Wf := by
  have ha := reg_u wf.h i.rs1
  have hb := reg_u wf.h i.rs2
  have hn : U32 (i.imm % 4294967296) := mod_lo _
  unfold doS
  dsimp only
  repeat' (refine ite_ind (P := CoreD.Wf) (fun _ => ?_) (fun _ => ?_))
  all_goals first
    | exact wf.setPc _ (ite_lo (mod_lo _) (mod_lo _))
    | exact (wf.set _ _ (mod_lo _)).setPc _ (mod_lo _)
    | exact (wf.set _ _ (mod_lo _)).setPc _ (by unfold U32; omega)
    | exact wf.setPc _ (mod_lo _)
    | exact (wf.set _ _ (mLoad_u _ _ _ (by omega) (mod_lo _) wf.m.getD)).setPc _ (mod_lo _)
    | exact (wf.put _ _ _ (mod_lo _)).setPc _ (mod_lo _)
    | exact (wf.set _ _ (alu_lo _ _ _ ha hn)).setPc _ (mod_lo _)
    | exact (wf.set _ _ (alu_lo _ _ _ ha hb)).setPc _ (mod_lo _)
    | exact ((atomS_wf wf _ _ _ ha hb).1.set _ _ (atomS_wf wf _ _ _ ha hb).2).setPc _ (mod_lo _)
    | exact (atomS_wf wf _ _ _ ha hb).1
    | exact (callS_wf wf ho).setPc _ (mod_lo _)
    | exact callS_wf wf ho
    | exact wf.trap _ (by omega)
theorem CoreD.Wf.none {d : CoreD} (wf : d.Wf) : d.none.Wf := ⟨wf.h, wf.m, wf.out, by show U32 0; unfold U32; omega, by show U32 0; unfold U32; omega, wf.mlen, wf.olen⟩
theorem fetchS_c (l : List Int) (pc : Int) : (fetchS l pc).2 = 0 ∨ (fetchS l pc).2 = 1 ∨ (fetchS l pc).2 = 2 := by
  unfold fetchS
  split
  · cases dec (mLoad l 13 pc) <;> simp
  · simp
theorem goS_wf {d : CoreD} (wf : d.Wf) (ho : d.out.length < 1099511627776) : (goS d).Wf := by
  unfold goS
  have := fetchS_c d.m d.h.pc
  split
  · exact doS_wf wf.none _ ho
  · exact wf.none.trap _ (by omega)
theorem andNot1 (x : Int) (hx : U32 x) : bits .andNot .u32 x 1 = x - x % 2 := by
  obtain ⟨n, rfl⟩ := Int.eq_ofNat_of_zero_le hx.1
  have hn : n < 4294967296 := by have := hx.2; omega
  show IntKind.u32.wrap (((BitVec.ofInt 32 (n : Int) &&& ~~~ BitVec.ofInt 32 1).toNat : Nat) : Int) = _
  have hb : ∀ i : Fin 32, (BitVec.ofInt 32 1).getLsbD i.val = decide (i.val < 1) := by decide
  have e : BitVec.ofInt 32 (n : Int) &&& ~~~ BitVec.ofInt 32 1 = (BitVec.ofInt 32 (n : Int) >>> 1) <<< 1 := by
    apply BitVec.eq_of_getLsbD_eq
    intro i hi
    rw [BitVec.getLsbD_and, BitVec.getLsbD_not, hb ⟨i, hi⟩, BitVec.getLsbD_shiftLeft, BitVec.getLsbD_ushiftRight]
    by_cases h : i < 1
    · simp [h, hi]
    · simp [h, hi]; rw [show 1 + (i - 1) = i from by omega, BitVec.getLsbD_eq_getElem hi]
  rw [e, BitVec.toNat_shiftLeft, BitVec.toNat_ushiftRight, BitVec.ofInt_natCast, BitVec.toNat_ofNat, IntKind.wrap_u32, Nat.shiftLeft_eq, Nat.shiftRight_eq_div_pow]
  omega
end Go.Proofs.Ytlfnddmncbkjaab.Fb

/- A hart at work begins; a struct laid whole into cells that are there. No program in sight. -/
namespace Go.Proofs.Ytlfnddmncbkjaab.Fb
set_option linter.unusedVariables false
set_option linter.unusedSimpArgs false
open Go.RowKit
theorem below_setCells {B : Nat} {a : World} {b : Nat} (hb : B ≤ b) : ∀ (vs : List Value) (o : Nat) (w : World), Below B a w → Below B a (w.setCells b o vs)
  | [], _, _, h => h
  | v :: r, o, w, h => below_setCells hb r (o + 1) _ (h.setCell hb v)
theorem at_setCells {b' off : Nat} {xs : List Value} {b : Nat} (hne : b ≠ b') : ∀ (vs : List Value) (o : Nat) (w : World), At w b' off xs → At (w.setCells b o vs) b' off xs
  | [], _, _, h => h
  | v :: r, o, w, h => at_setCells hne r (o + 1) _ (h.set_other hne v)
theorem sl_setCells {v : Value} {s n : Nat} {xs : List Value} {b : Nat} (hne : ∀ b' off n c, v = .slice (some ⟨b', off, none⟩) n c → b ≠ b') : ∀ (vs : List Value) (o : Nat) (w : World), Sl w v s n xs → Sl (w.setCells b o vs) v s n xs
  | [], _, _, h => h
  | u :: r, o, w, h => sl_setCells hne r (o + 1) _ (h.set_other hne u)
/-- the cells that are there take a struct -/
theorem there_at {w : World} {b o n : Nat} {xs : List Value} (h : At w b o xs) (hn : xs.length = n) (hf : ∀ o, w.frozen? ⟨b, o, none⟩ = false) : w.there b o n := fun j hj => by
  have h1 := h j (by omega)
  exact ⟨by rw [h1]; rfl, hf _⟩
theorem load_setCells {P : Program} {w : World} {b o : Nat} {cs : Array Value} {ty : TypeId} {d : TypeDesc} (ht : w.there b o cs.size) (hu : P.underlying ty = some d) (hd : d.isRow = true) (hi : (P.info? ty).map (·.size) = some cs.size) :
    (loadVar ty ⟨b, o, none⟩).run P (w.setCells b o cs.toList) = .ok (.agg cs) (w.setCells b o cs.toList) := by
  have hr := World.rangeAt_setCells_same w b o cs.toList (by simpa using ht)
  have := run_loadVar_mid (P := P) (w.setCells b o cs.toList) b o ty cs.toList d hr hu hd (by simpa using hi)
  simpa using this
theorem results_c3 {P : Program} {fn : Func} {a x y z : Tmp} {t : TypeId} (h : fn.results = #[.cell a t, .tmp x, .tmp y, .tmp z]) (tmps : Array Value) {p : Addr} {w : World} {v : Value} (hp : tmps.getD a undef = .pointer (some p)) (hl : (loadVar t p).run P w = .ok v w) :
    (results fn tmps).run P w = .ok (.tuple #[v, tmps.getD x undef, tmps.getD y undef, tmps.getD z undef]) w := by
  have hp' : tmps[a]?.getD undef = .pointer (some p) := by rw [← hp]; simp
  simp [results, h, hp', hl, Sem.run_bind, asAddr]
/-- a read in a region whose last store alone writes -/
theorem wpStill_load_at {P : Program} {ops : Array Oper} {w : World} {Q : Act → Prop} {a : Act} {o : Oper} {rest : List Oper} (hgd : o.guard = none) (ty : TypeId) (x : Operand) (ho : o.op = .load ty x) (p : Addr) (hx : a.eval x = .pointer (some p)) (v : Value)
    (hr : (Instr.loadAt ty (.pointer (some p))).run P w = .ok v w) (h : wpStill P ops w Q rest (a.put o.dst v)) : wpStill P ops w Q (o :: rest) a := by
  refine wpStill_step (fun K hK => ?_)
  rw [if_pos (by simp [Region.wanted, hgd])]
  unfold Oper.still execOp
  simp only [ho, hx, Sem.run_bind, Sem.run_pure, hr]
  exact ⟨rfl, hK _ h⟩
theorem CoreAt.init {w : World} {hb ho : Nat} {vm : Value} {ty tC : TypeId} {h : Hart} {l : List Int} (hat : At w hb ho (hlist h)) (hfz : ∀ o, w.frozen? ⟨hb, o, none⟩ = false) (hlt : hb < w.heap.size)
    (hv : Ints .u8 w vm l) (hm : ∀ b off n c, vm = .slice (some ⟨b, off, none⟩) n c → b ≠ hb ∧ b < w.heap.size ∧ ∀ o, w.frozen? ⟨b, o, none⟩ = false) (hml : ∀ k, vm.ownBlock = some k → k < w.heap.size) :
    CoreAt w.heap.size hb ho vm ty (w.alloc (.cells #[.pointer (some ⟨hb, ho, none⟩), vm, .slice none 0 0, .int .u32 0, .int .u32 0] tC)) ⟨h, l, [], 0, 0⟩ := by
  have hB : Below w.heap.size w (w.alloc (.cells #[.pointer (some ⟨hb, ho, none⟩), vm, .slice none 0 0, .int .u32 0, .int .u32 0] tC)) := Below.alloc (Below.refl _ _) (Nat.le_refl _) _
  refine ⟨hlt, by simp, by simp, by simp, by simp, fun o => ?_, hat.below hB, fun o => ?_, hv.below hB, fun b off n c e => ?_, ⟨.slice none 0 0, by simp, World.ownsRow_nil _ _ _ _⟩, hml⟩
  · unfold World.frozen?; rw [heap_alloc_new]; simp
  · exact (hB.frozen (p := ⟨hb, o, none⟩) hlt).trans (hfz o)
  · obtain ⟨x1, x2, x3⟩ := hm b off n c e
    exact ⟨x2, x1, by simp; omega, fun o => (hB.frozen (p := ⟨b, o, none⟩) x2).trans (x3 o)⟩
/-- a row of the call's own as a hart's bytes -/
theorem owns_mem {w : World} {B hb : Nat} {e : TypeId} {vm : Value} {n : Nat} {xs : List Value} (h : w.ownsRow B e 1 vm n xs) (hB : hb < B) :
    (∀ b off n c, vm = .slice (some ⟨b, off, none⟩) n c → b ≠ hb ∧ b < w.heap.size ∧ ∀ o, w.frozen? ⟨b, o, none⟩ = false) ∧ (∀ k, vm.ownBlock = some k → k < w.heap.size) := by
  refine ⟨fun b off m c e => ?_, fun k e => (h.lt k e).2⟩
  rcases owns_open h with ⟨rfl, _⟩ | ⟨g, cap, rfl, h1, h2, _, _, _, h3⟩
  · cases e
  · injection e with e1
    injection e1 with e1
    injection e1 with e1
    subst e1
    exact ⟨by omega, h2, h3⟩
def hart0 : Hart := ⟨List.replicate 32 0, 0, false, 0, 0, 0⟩
def stepOk (h : Hart) (l : List Int) : Bool := h.ok && (h.state == 0) && decide (l.length ≤ 4096)
def stepD (h : Hart) (l : List Int) : CoreD := if stepOk h l = true then goS ⟨h, l, [], 0, 0⟩ else ⟨hart0, [], [], 0, 0⟩
end Go.Proofs.Ytlfnddmncbkjaab.Fb

/- A step keeps a hart that may be; a trap leaves the rest. No program in sight. -/
namespace Go.Proofs.Ytlfnddmncbkjaab.Fb
set_option linter.unusedVariables false
set_option linter.unusedSimpArgs false
open Go.RowKit
structure Run (n : Nat) (d : CoreD) : Prop where
  ok : d.h.ok = true
  st : d.h.state = 0
  ml : d.m.length = n
  ol : d.out.length ≤ 1
structure Fin0 (d0 d : CoreD) : Prop where
  ok : d.h.ok = true
  ml : d.m.length = d0.m.length
  ol : d.out.length ≤ 1
  no : ¬ d.h.state = 0 → { d.h with state := d0.h.state, cause := d0.h.cause } = d0.h ∧ d.m = d0.m ∧ d.out = d0.out
theorem Run.fin {d0 d : CoreD} (h : Run d0.m.length d) : Fin0 d0 d := ⟨h.ok, h.ml, h.ol, fun e => absurd h.st e⟩
theorem ok_parts {h : Hart} (hs : h.state = 0) : h.ok = true ↔ h.regs.getD 0 0 = 0 ∧ (h.held = true ∨ h.heldAt = 0) ∧ h.cause = 0 := by
  unfold Hart.ok
  rw [hs]
  simp only [Bool.and_eq_true, Bool.or_eq_true, beq_iff_eq, decide_eq_true_eq]
  constructor
  · rintro ⟨⟨h1, h2⟩, h3 | h3⟩
    · exact absurd h3.1.1 (by decide)
    · exact ⟨h1, h2, h3.2⟩
  · rintro ⟨h1, h2, h3⟩
    exact ⟨⟨h1, h2⟩, .inr ⟨.inl (by first | rfl | trivial), h3⟩⟩
theorem Run.set {n : Nat} {d : CoreD} (h : Run n d) (r x : Int) : Run n (d.set r x) := by
  refine ⟨?_, ?_, h.ml, h.ol⟩
  · have hs : (d.set r x).h.state = 0 := by unfold CoreD.set Hart.setReg; split <;> exact h.st
    rw [ok_parts hs]
    have h0 := (ok_parts h.st).1 h.ok
    unfold CoreD.set Hart.setReg
    split
    · refine ⟨?_, h0.2⟩
      show (d.h.regs.set r.toNat x).getD 0 0 = 0
      rw [List.getD, List.getElem?_set_ne (by omega)]
      exact h0.1
    · exact h0
  · unfold CoreD.set Hart.setReg; split <;> exact h.st
theorem Run.setPc {n : Nat} {d : CoreD} (h : Run n d) (x : Int) : Run n (d.setPc x) := ⟨h.ok, h.st, h.ml, h.ol⟩
theorem Run.hold {n : Nat} {d : CoreD} (h : Run n d) (b : Bool) (x : Int) (hx : b = true ∨ x = 0) : Run n (d.hold b x) := by
  refine ⟨?_, h.st, h.ml, h.ol⟩
  have h0 := (ok_parts h.st).1 h.ok
  exact (ok_parts (h := (d.hold b x).h) h.st).2 ⟨h0.1, hx, h0.2.2⟩
theorem Run.put {n : Nat} {d : CoreD} (h : Run n d) (op at_ x : Int) : Run n (d.put op at_ x) :=
  ⟨by rw [CoreD.put_h]; exact h.ok, by rw [CoreD.put_h]; exact h.st, by rw [CoreD.put_mlen]; exact h.ml, by rw [CoreD.put_out]; exact h.ol⟩
theorem Run.trap {d : CoreD} (h : Run d.m.length d) (c : Int) (hc : 1 ≤ c ∧ c ≤ 6) : Fin0 d (d.trap c) := by
  refine ⟨?_, rfl, h.ol, fun _ => ⟨rfl, rfl, rfl⟩⟩
  have h0 := (ok_parts h.st).1 h.ok
  unfold Hart.ok CoreD.trap Hart.trap
  simp only [Bool.and_eq_true, Bool.or_eq_true, beq_iff_eq, decide_eq_true_eq]
  exact ⟨⟨h0.1, h0.2.1⟩, .inl ⟨⟨by first | rfl | trivial, hc.1⟩, hc.2⟩⟩
theorem atomS_run {d : CoreD} (h : Run d.m.length d) (op a b : Int) : ((atomS d op a b).2.2 = true ∧ Run d.m.length (atomS d op a b).1) ∨ ((atomS d op a b).2.2 = false ∧ Fin0 d (atomS d op a b).1) := by
  unfold atomS
  split
  · split
    · exact .inl ⟨rfl, h.hold true a (.inl (by first | rfl | trivial))⟩
    · split
      · split
        · exact .inl ⟨by first | rfl | trivial, (h.put _ _ _).hold false 0 (.inr rfl)⟩
        · exact .inl ⟨rfl, h.hold false 0 (.inr rfl)⟩
      · exact .inl ⟨rfl, h.put _ _ _⟩
  · exact .inr ⟨rfl, h.trap _ (by split <;> omega)⟩
theorem callS_run {d : CoreD} (h : Run d.m.length d) (ho : d.out = []) : ((callS d).2 = true ∧ Run d.m.length (callS d).1) ∨ ((callS d).2 = false ∧ Fin0 d (callS d).1) := by
  unfold callS
  split
  · refine .inr ⟨rfl, ?_, rfl, h.ol, fun _ => ⟨rfl, rfl, rfl⟩⟩
    have h0 := (ok_parts h.st).1 h.ok
    unfold Hart.ok
    simp only [Bool.and_eq_true, Bool.or_eq_true, beq_iff_eq, decide_eq_true_eq]
    exact ⟨⟨h0.1, h0.2.1⟩, .inr ⟨.inr trivial, h0.2.2⟩⟩
  · split
    · exact .inl ⟨rfl, h.ok, h.st, rfl, by show (d.out ++ [d.h.reg 10]).length ≤ 1; rw [ho]; simp⟩
    · exact .inr ⟨rfl, h.trap 5 (by omega)⟩
theorem doS_fin {d : CoreD} (h : Run d.m.length d) (ho : d.out = []) (i : InsD) : Fin0 d (doS i d) := by
  unfold doS
  dsimp only
  repeat' (refine ite_ind (P := Fin0 d) (fun _ => ?_) (fun _ => ?_))
  all_goals first
    | exact Run.fin ((h.set _ _).setPc _)
    | exact Run.fin (h.setPc _)
    | exact Run.fin ((h.put _ _ _).setPc _)
    | exact h.trap _ (by omega)
    | (rename_i hq; rcases atomS_run h i.op (d.h.reg i.rs1) (d.h.reg i.rs2) with ⟨e, hr⟩ | ⟨e, hr⟩
       · exact Run.fin ((hr.set _ _).setPc _)
       · exact absurd hq (by rw [e]; decide))
    | (rename_i hq; rcases atomS_run h i.op (d.h.reg i.rs1) (d.h.reg i.rs2) with ⟨e, hr⟩ | ⟨e, hr⟩
       · exact absurd e hq
       · exact hr)
    | (rename_i hq; rcases callS_run h ho with ⟨e, hr⟩ | ⟨e, hr⟩
       · exact Run.fin (hr.setPc _)
       · exact absurd hq (by rw [e]; decide))
    | (rename_i hq; rcases callS_run h ho with ⟨e, hr⟩ | ⟨e, hr⟩
       · exact absurd e hq
       · exact hr)
theorem goS_fin (h : Hart) (l : List Int) (hok : h.ok = true) (hst : h.state = 0) : Fin0 ⟨h, l, [], 0, 0⟩ (goS ⟨h, l, [], 0, 0⟩) := by
  have hr : Run l.length ⟨h, l, [], 0, 0⟩ := ⟨hok, hst, rfl, by simp⟩
  have hc := fetchS_c l h.pc
  unfold goS
  dsimp only
  split
  · exact doS_fin (d := CoreD.none ⟨h, l, [], 0, 0⟩) hr rfl _
  · exact Run.trap (d := CoreD.none ⟨h, l, [], 0, 0⟩) hr _ (by omega)
theorem stepD_fin (h : Hart) (l : List Int) (hs : stepOk h l = true) :
    (stepD h l).h.ok = true ∧ (stepD h l).m.length = l.length ∧ (stepD h l).h.regs.getD 0 0 = 0 ∧ (stepD h l).out.length ≤ 1 ∧
      (¬ (stepD h l).h.state = 0 → { (stepD h l).h with state := h.state, cause := h.cause } = h ∧ (stepD h l).m = l ∧ (stepD h l).out = []) := by
  unfold stepD
  rw [if_pos hs]
  unfold stepOk at hs
  simp only [Bool.and_eq_true, beq_iff_eq, decide_eq_true_eq] at hs
  have h1 := goS_fin h l hs.1.1 hs.1.2
  refine ⟨h1.ok, h1.ml, ?_, h1.ol, h1.no⟩
  have h2 := h1.ok
  unfold Hart.ok at h2
  simp only [Bool.and_eq_true, beq_iff_eq] at h2
  exact h2.1.1
end Go.Proofs.Ytlfnddmncbkjaab.Fb

/- Harts that take turns, as data. No program in sight. -/
namespace Go.Proofs.Ytlfnddmncbkjaab.Fb
set_option linter.unusedVariables false
set_option linter.unusedSimpArgs false
open Go.RowKit

def lose (fr tw : Int) (h : Hart) : Hart := if (h.held && decide (fr < (h.heldAt + 4) % 4294967296) && decide (h.heldAt < tw)) = true then { h with held := false, heldAt := 0 } else h
/-- the first n harts, but k, lose what they had reserved -/
def loseTo (k : Nat) (fr tw : Int) (n : Nat) (hs : List Hart) : List Hart := hs.mapIdx fun j h => if j < n ∧ j ≠ k then lose fr tw h else h
theorem loseTo_zero (k : Nat) (fr tw : Int) (hs : List Hart) : loseTo k fr tw 0 hs = hs := by
  unfold loseTo
  apply List.ext_getElem
  · simp
  · intro i h1 h2; simp
theorem loseTo_len (k : Nat) (fr tw : Int) (n : Nat) (hs : List Hart) : (loseTo k fr tw n hs).length = hs.length := by simp [loseTo]
theorem loseTo_get (k : Nat) (fr tw : Int) (n : Nat) (hs : List Hart) (i : Nat) (h : i < hs.length) : (loseTo k fr tw n hs)[i]'(by rw [loseTo_len]; exact h) = if i < n ∧ i ≠ k then lose fr tw hs[i] else hs[i] := by simp [loseTo]
theorem loseTo_self (k : Nat) (fr tw : Int) (hs : List Hart) : loseTo k fr tw (k + 1) hs = loseTo k fr tw k hs := by
  apply List.ext_getElem
  · simp [loseTo_len]
  · intro i h1 h2
    rw [loseTo_len] at h1
    rw [loseTo_get _ _ _ _ _ _ h1, loseTo_get _ _ _ _ _ _ h1]
    by_cases e : i = k
    · subst e; simp
    · simp only [show (i < k + 1) = (i < k) from propext ⟨fun h => by omega, fun h => by omega⟩]
theorem loseTo_succ {k n : Nat} (fr tw : Int) (hs : List Hart) (hn : n < hs.length) (hk : n ≠ k) : loseTo k fr tw (n + 1) hs = (loseTo k fr tw n hs).set n (lose fr tw hs[n]) := by
  apply List.ext_getElem
  · simp [loseTo_len]
  · intro i h1 h2
    rw [loseTo_len] at h1
    rw [loseTo_get _ _ _ _ _ _ h1, List.getElem_set]
    by_cases e : n = i
    · subst e; rw [if_pos rfl, if_pos ⟨by omega, hk⟩]
    · rw [if_neg e, loseTo_get _ _ _ _ _ _ h1]
      simp only [show (i < n + 1) = (i < n) from propext ⟨fun h => by omega, fun h => by omega⟩]
theorem loseTo_keep {k n : Nat} (fr tw : Int) (hs : List Hart) (hn : n < hs.length) (hl : lose fr tw hs[n] = hs[n]) : loseTo k fr tw (n + 1) hs = loseTo k fr tw n hs := by
  by_cases hk : n = k
  · subst hk; exact loseTo_self _ _ _ _
  · rw [loseTo_succ fr tw hs hn hk, hl]
    apply List.ext_getElem
    · simp
    · intro i h1 h2
      rw [List.getElem_set]
      split
      · rename_i e; subst e; rw [loseTo_get _ _ _ _ _ _ hn, if_neg (by omega)]
      · rfl
theorem loseTo_at {k n : Nat} (fr tw : Int) (hs : List Hart) (hn : n < hs.length) : (loseTo k fr tw n hs)[n]'(by rw [loseTo_len]; exact hn) = hs[n] := by
  rw [loseTo_get _ _ _ _ _ _ hn, if_neg (by omega)]
theorem loseTo_all {k n : Nat} (fr tw : Int) (hs : List Hart) (hn : hs.length ≤ n) : loseTo k fr tw n hs = loseTo k fr tw hs.length hs := by
  apply List.ext_getElem
  · simp [loseTo_len]
  · intro i h1 h2
    rw [loseTo_len] at h1
    rw [loseTo_get _ _ _ _ _ _ h1, loseTo_get _ _ _ _ _ _ h1]
    simp only [show (i < n) = (i < hs.length) from propext ⟨fun h => by omega, fun h => by omega⟩]

/-- a board at work -/
structure St where
  harts : List Hart
  mem : List Int
  out : List Int
  steps : Nat
def St.hart (s : St) (k : Nat) : Hart := s.harts.getD k hart0
/-- one step of hart k -/
def goM (k : Nat) (s : St) : St :=
  let d := goS (⟨s.hart k, s.mem, [], 0, 0⟩ : CoreD)
  ⟨loseTo k d.fr d.tw s.harts.length (s.harts.set k d.h), d.m, s.out ++ d.out, s.steps + 1⟩
/-- a pick: up to n steps -/
def pickM (k : Nat) : Nat → St → St
  | 0, s => s
  | n + 1, s => if (s.hart k).state = 0 then pickM k n (goM k s) else s
def playM : List (Int × Int) → St → St
  | [], s => s
  | p :: r, s => playM r (pickM p.1.toNat p.2.toNat s)
def startM (m : Mach) : St := ⟨m.harts, m.mem, [], 0⟩
/-- what a run shows -/
def runM (m : Mach) (l : List (Int × Int)) : St := if wrong m l = 0 then playM l (startM m) else ⟨[], [], [], 0⟩

/-- what came out ahead, laid ahead -/
def CoreD.pre (o : List Int) (d : CoreD) : CoreD := { d with out := o ++ d.out }
theorem pre_ite {c : Prop} [Decidable c] (o : List Int) (x y : CoreD) : (if c then x else y).pre o = if c then x.pre o else y.pre o := by split <;> rfl
theorem pre_put (o : List Int) (d : CoreD) (op a x : Int) : (d.pre o).put op a x = (d.put op a x).pre o := by
  unfold CoreD.put CoreD.pre
  dsimp only
  split <;> rfl
theorem pre_atom (o : List Int) (d : CoreD) (op a b : Int) : atomS (d.pre o) op a b = ((atomS d op a b).1.pre o, (atomS d op a b).2) := by
  unfold atomS
  simp only [pre_put]
  show (if mLoadOk d.m 13 a = true then _ else _) = _
  split
  · split
    · rfl
    · split
      · show (if (d.h.held && d.h.heldAt == a) = true then _ else _) = _
        split <;> rfl
      · rfl
  · rfl
theorem pre_call (o : List Int) (d : CoreD) : callS (d.pre o) = ((callS d).1.pre o, (callS d).2) := by
  unfold callS
  show (if d.h.reg 17 = 0 then _ else _) = _
  split
  · rfl
  · show (if d.h.reg 17 = 1 then _ else _) = _
    split
    · show (({ d with out := (o ++ d.out) ++ [d.h.reg 10] } : CoreD), true) = _
      rw [List.append_assoc]; rfl
    · rfl
theorem pre_do (o : List Int) (d : CoreD) (i : InsD) : doS i (d.pre o) = (doS i d).pre o := by
  unfold doS
  dsimp only
  simp only [pre_put, pre_atom, pre_call, pre_ite]
  rfl
theorem pre_go (o : List Int) (d : CoreD) : goS (d.pre o) = (goS d).pre o := by
  unfold goS
  show (if (fetchS d.m d.h.pc).2 = 0 then doS (fetchS d.m d.h.pc).1 (d.none.pre o) else (d.none.trap (fetchS d.m d.h.pc).2).pre o) = _
  rw [pre_do, pre_ite]
theorem goS_out (d : CoreD) : goS d = (goS (⟨d.h, d.m, [], 0, 0⟩ : CoreD)).pre d.out := by
  rw [← pre_go]
  show goS d = goS (⟨d.h, d.m, d.out ++ [], 0, 0⟩ : CoreD)
  rw [List.append_nil]
  rfl

structure St.Wf (s : St) : Prop where
  harts : ∀ h ∈ s.harts, h.Wf
  mem : Bytes s.mem
  mlen : s.mem.length ≤ 4096
  out : ∀ x ∈ s.out, U32 x
theorem hart0_wf : hart0.Wf := ⟨rfl, by intro x hx; have := List.eq_of_mem_replicate hx; subst this; exact ⟨by decide, by decide⟩, ⟨by decide, by decide⟩, ⟨by decide, by decide⟩, ⟨by decide, by decide⟩, ⟨by decide, by decide⟩⟩
theorem St.hart_at {s : St} {k : Nat} (h : k < s.harts.length) : s.hart k = s.harts[k] := by
  unfold St.hart; rw [List.getD, List.getElem?_eq_getElem h]; rfl
theorem St.Wf.hart {s : St} (h : s.Wf) (k : Nat) : (s.hart k).Wf := by
  by_cases hk : k < s.harts.length
  · rw [St.hart_at hk]; exact h.harts _ (List.getElem_mem hk)
  · unfold St.hart; rw [List.getD, List.getElem?_eq_none (by omega)]; exact hart0_wf
theorem St.Wf.core {s : St} (h : s.Wf) (k : Nat) : (⟨s.hart k, s.mem, [], 0, 0⟩ : CoreD).Wf :=
  ⟨h.hart k, h.mem, by simp, (⟨by decide, by decide⟩ : U32 0), (⟨by decide, by decide⟩ : U32 0), (by show s.mem.length ≤ _; have := h.mlen; omega), by simp⟩
theorem lose_wf {fr tw : Int} {h : Hart} (wf : h.Wf) : (lose fr tw h).Wf := by
  unfold lose
  split
  · exact ⟨wf.len, wf.regs, wf.pc, (⟨by decide, by decide⟩ : U32 0), wf.state, wf.cause⟩
  · exact wf
theorem lose_ok {fr tw : Int} {h : Hart} (ok : h.ok = true) : (lose fr tw h).ok = true := by
  unfold lose
  split
  · unfold Hart.ok at ok ⊢
    simp only [Bool.and_eq_true, Bool.or_eq_true, beq_iff_eq, decide_eq_true_eq] at ok ⊢
    exact ⟨⟨ok.1.1, .inr trivial⟩, ok.2⟩
  · exact ok
theorem mem_loseTo {k : Nat} {fr tw : Int} {n : Nat} {hs : List Hart} {P : Hart → Prop} (hp : ∀ h ∈ hs, P h) (hl : ∀ h, P h → P (lose fr tw h)) : ∀ h ∈ loseTo k fr tw n hs, P h := by
  intro h hh
  obtain ⟨i, hi, rfl⟩ := List.getElem_of_mem hh
  have hi' : i < hs.length := by rw [loseTo_len] at hi; exact hi
  rw [loseTo_get _ _ _ _ _ _ hi']
  split
  · exact hl _ (hp _ (List.getElem_mem hi'))
  · exact hp _ (List.getElem_mem hi')
theorem goS_mlen (d : CoreD) (i : InsD) : (doS i d).m.length = d.m.length := by
  unfold doS
  dsimp only
  have ha : (atomS d i.op (d.h.reg i.rs1) (d.h.reg i.rs2)).1.m.length = d.m.length := by
    unfold atomS
    repeat' (refine ite_ind (P := fun p : CoreD × Int × Bool => p.1.m.length = d.m.length) (fun _ => ?_) (fun _ => ?_))
    all_goals first | rfl | exact CoreD.put_mlen _ _ _ _
  have hc : (callS d).1.m = d.m := by
    unfold callS
    repeat' (refine ite_ind (P := fun p : CoreD × Bool => p.1.m = d.m) (fun _ => ?_) (fun _ => ?_))
    all_goals rfl
  repeat' (refine ite_ind (P := fun p : CoreD => p.m.length = d.m.length) (fun _ => ?_) (fun _ => ?_))
  all_goals first
    | rfl
    | exact CoreD.put_mlen _ _ _ _
    | exact ha
    | exact mStore_length _ _ _ _
    | (show (callS d).1.m.length = _; rw [hc])
theorem goS_ml (d : CoreD) : (goS d).m.length = d.m.length := by
  unfold goS
  split
  · exact goS_mlen _ _
  · rfl
theorem goM_len (k : Nat) (s : St) : (goM k s).harts.length = s.harts.length := by
  show (loseTo _ _ _ _ _).length = _
  rw [loseTo_len, List.length_set]
theorem goM_wf {k : Nat} {s : St} (wf : s.Wf) : (goM k s).Wf := by
  have h := goS_wf (wf.core k) (by simp)
  refine ⟨mem_loseTo (P := Hart.Wf) ?_ (fun _ => lose_wf), h.m, ?_, ?_⟩
  · intro x hx
    rcases List.mem_or_eq_of_mem_set hx with hx | rfl
    · exact wf.harts _ hx
    · exact h.h
  · show (goS _).m.length ≤ _
    rw [goS_ml]; exact wf.mlen
  · intro x hx
    rcases List.mem_append.1 hx with hx | hx
    · exact wf.out _ hx
    · exact h.out _ hx
theorem pickM_wf {k : Nat} : ∀ (n : Nat) {s : St}, s.Wf → (pickM k n s).Wf
  | 0, _, h => h
  | n + 1, s, h => by
    unfold pickM
    split
    · exact pickM_wf n (goM_wf h)
    · exact h
theorem pickM_len {k : Nat} : ∀ (n : Nat) (s : St), (pickM k n s).harts.length = s.harts.length
  | 0, _ => rfl
  | n + 1, s => by
    unfold pickM
    split
    · rw [pickM_len n, goM_len]
    · rfl
theorem playM_wf : ∀ (l : List (Int × Int)) {s : St}, s.Wf → (playM l s).Wf
  | [], _, h => h
  | _ :: r, _, h => playM_wf r (pickM_wf _ h)
theorem playM_len : ∀ (l : List (Int × Int)) (s : St), (playM l s).harts.length = s.harts.length
  | [], _ => rfl
  | _ :: r, _ => by unfold playM; rw [playM_len r, pickM_len]
theorem pickM_stop {k : Nat} {s : St} (h : ¬ (s.hart k).state = 0) (n : Nat) : pickM k n s = s := by
  cases n with
  | zero => rfl
  | succ n => unfold pickM; rw [if_neg h]
theorem wrong_parts {m : Mach} {l : List (Int × Int)} (h : wrong m l = 0) : m.mem.length ≤ 4096 ∧ 1 ≤ m.harts.length ∧ m.harts.length ≤ 4 ∧ (∀ x ∈ m.harts, x.ok = true) ∧ l.length ≤ 300 ∧ ∀ p ∈ l, 0 ≤ p.1 ∧ p.1 < m.harts.length ∧ 0 ≤ p.2 ∧ p.2 ≤ 400 := by
  unfold wrong at h
  split at h
  · cases h
  split at h
  · cases h
  split at h
  · cases h
  split at h
  · cases h
  rename_i h1 h2 h3 h4
  refine ⟨by omega, by omega, by omega, fun x hx => ?_, by omega, fun p hp => ?_⟩
  · cases e : x.ok with
    | true => rfl
    | false => exact absurd (List.any_eq_true.2 ⟨x, hx, by simp [e]⟩) h2
  · have : badPick m.harts.length p = false := by
      cases e : badPick m.harts.length p with
      | false => rfl
      | true => exact absurd (List.any_eq_true.2 ⟨p, hp, e⟩) h4
    unfold badPick at this
    simp only [Bool.or_eq_false_iff, decide_eq_false_iff_not] at this
    omega
end Go.Proofs.Ytlfnddmncbkjaab.Fb

/- A board at work, in memory. No program in sight. -/
namespace Go.Proofs.Ytlfnddmncbkjaab.Fb
set_option linter.unusedVariables false
set_option linter.unusedSimpArgs false
open Go.RowKit
theorem owns_block {B : Nat} {e : TypeId} {k : Nat} {v : Value} {n : Nat} {xs : List Value} {w w' : World} (h : w.ownsRow B e k v n xs) (hb : ∀ g, v.ownBlock = some g → w'.heap[g]? = w.heap[g]?) : w'.ownsRow B e k v n xs := by
  obtain ⟨h1, h2⟩ := h
  refine ⟨h1, ?_⟩
  rcases h2 with ⟨rfl, rfl⟩ | ⟨g, cap, cur, rfl, hB, hh, h3⟩
  · exact .inl ⟨rfl, rfl⟩
  · exact .inr ⟨g, cap, cur, rfl, hB, (hb g rfl).trans hh, h3⟩
theorem cell_block {w w' : World} {b : Nat} (h : w'.heap[b]? = w.heap[b]?) (o : Nat) : w'.cell? ⟨b, o, none⟩ = w.cell? ⟨b, o, none⟩ := World.cell?_of_block (a := ⟨b, o, none⟩) h
theorem frozen_block {w w' : World} {b : Nat} (h : w'.heap[b]? = w.heap[b]?) (o : Nat) : w'.frozen? ⟨b, o, none⟩ = w.frozen? ⟨b, o, none⟩ := World.frozen?_of_block (a := ⟨b, o, none⟩) h
theorem sl_block {w w' : World} {v : Value} {s n : Nat} {xs : List Value} (h : Sl w v s n xs) (hb : ∀ g, v.ownBlock = some g → w'.heap[g]? = w.heap[g]?) : Sl w' v s n xs := by
  obtain ⟨h1, ao, cap, h2, h3, h4, h5, h6⟩ := h
  refine ⟨h1, ao, cap, h2, h3, h4, h5, fun a ha hx => ⟨(h6 a ha hx).1, ?_⟩⟩
  obtain ⟨b, off, sp⟩ := a
  have h7 := h6 _ ha hx
  have hs := h7.1
  simp only at hs
  subst hs
  intro j hj
  exact (cell_block (hb b (by rw [h2, ha]; rfl)) _).trans (h7.2 j hj)
theorem At.flat {α : Type} {w : World} {b : Nat} (f : α → List Value) (s : Nat) : ∀ {l : List α} {off : Nat}, (∀ x ∈ l, (f x).length = s) → (∀ i (h : i < l.length), At w b (off + i * s) (f l[i])) → At w b off (l.flatMap f)
  | [], _, _, _ => fun j hj => by simp at hj
  | x :: r, off, hf, h => by
    rw [List.flatMap_cons]
    have hx := hf x (by simp)
    have h0 := h 0 (by simp)
    rw [Nat.zero_mul, Nat.add_zero] at h0
    refine At.append h0 ?_
    rw [hx]
    refine At.flat f s (fun y hy => hf y (by simp [hy])) (fun i hi => ?_)
    have := h (i + 1) (by simp; omega)
    rw [Nat.add_mul, Nat.one_mul] at this
    rw [show off + s + i * s = off + (i * s + s) by omega]
    exact this
/-- one hart of a row is another: the rest is as it was -/
theorem at_harts_set {w w' : World} {b : Nat} {hs : List Hart} {k : Nat} {h' : Hart} (ha : At w b 0 (hs.flatMap hlist)) (hl : ∀ h ∈ hs, (hlist h).length = 37) (hl' : (hlist h').length = 37)
    (hk : At w' b (k * 37) (hlist h')) (hc : ∀ o, (o < k * 37 ∨ k * 37 + 37 ≤ o) → w'.cell? ⟨b, o, none⟩ = w.cell? ⟨b, o, none⟩) : At w' b 0 ((hs.set k h').flatMap hlist) := by
  refine At.flat hlist 37 (fun x hx => ?_) (fun i hi => ?_)
  · rcases List.mem_or_eq_of_mem_set hx with hx | rfl
    · exact hl x hx
    · exact hl'
  · rw [List.length_set] at hi
    rw [List.getElem_set]
    split
    · rename_i e; subst e; rw [Nat.zero_add]; exact hk
    · rename_i e
      have h1 := At.elem hlist 37 hl ha i hi
      intro j hj
      rw [hl _ (List.getElem_mem hi)] at hj
      rw [hc _ (by omega)]
      exact h1 j (by rw [hl _ (List.getElem_mem hi)]; exact hj)
theorem at_hart {w : World} {b : Nat} {hs : List Hart} {k : Nat} (ha : At w b 0 (hs.flatMap hlist)) (hl : ∀ h ∈ hs, (hlist h).length = 37) (hk : k < hs.length) : At w b (k * 37) (hlist hs[k]) := by
  have := At.elem hlist 37 hl ha k hk
  rw [Nat.zero_add] at this
  exact this
/-- the board at bp: its harts at bh, its bytes vm, what came out vo -/
structure Bd (bp bh hc : Nat) (vm vo : Value) (ty : TypeId) (w : World) (s : St) : Prop where
  b1 : bh < bp
  c0 : w.cell? ⟨bp, 0, none⟩ = some vm
  c1 : w.cell? ⟨bp, 1, none⟩ = some (.slice (some ⟨bh, 0, none⟩) s.harts.length hc)
  c2 : w.cell? ⟨bp, 2, none⟩ = some vo
  c3 : w.cell? ⟨bp, 3, none⟩ = some (.int .i64 s.steps)
  frz : ∀ o, w.frozen? ⟨bp, o, none⟩ = false
  harts : At w bh 0 (s.harts.flatMap hlist)
  hlt : bh < w.heap.size
  hfz : ∀ o, w.frozen? ⟨bh, o, none⟩ = false
  bytes : Ints .u8 w vm s.mem
  mfz : ∀ b off n c, vm = .slice (some ⟨b, off, none⟩) n c → b < w.heap.size ∧ ∀ o, w.frozen? ⟨b, o, none⟩ = false
  mlt : ∀ k, vm.ownBlock = some k → k < bp ∧ k ≠ bh
  own : w.ownsRow (bp + 1) ty 1 vo s.out.length (s.out.map (Value.int .u32))
  hcap : s.harts.length ≤ hc ∧ hc ≤ maxLen
/-- a board whose hart k is at work, at cp: o has come out of it, o0 ahead of it -/
structure Wk (bp bh hc cp k : Nat) (vm vo : Value) (ty : TypeId) (o0 o : List Int) (fr tw : Int) (w : World) (s : St) : Prop where
  core : CoreAt cp bh (k * 37) vm ty w ⟨s.hart k, s.mem, o, fr, tw⟩
  b1 : bh < bp
  b2 : bp < cp
  c0 : w.cell? ⟨bp, 0, none⟩ = some vm
  c1 : w.cell? ⟨bp, 1, none⟩ = some (.slice (some ⟨bh, 0, none⟩) s.harts.length hc)
  c2 : w.cell? ⟨bp, 2, none⟩ = some vo
  c3 : w.cell? ⟨bp, 3, none⟩ = some (.int .i64 s.steps)
  frz : ∀ o, w.frozen? ⟨bp, o, none⟩ = false
  harts : At w bh 0 (s.harts.flatMap hlist)
  mlt : ∀ k, vm.ownBlock = some k → k < bp ∧ k ≠ bh
  own : w.ownsRow (bp + 1) ty 1 vo o0.length (o0.map (Value.int .u32))
  vlt : ∀ g, vo.ownBlock = some g → g < cp
  kl : k < s.harts.length
  hcap : s.harts.length ≤ hc ∧ hc ≤ maxLen
/-- a board begins: two rows of its own -/
theorem Bd.begin {w : World} {m : Mach} {vm vh : Value} {B1 B2 : Nat} {t1 t2 tB ty : TypeId} (h1 : w.ownsRow B1 t1 1 vm m.mem.length (m.mem.map (Value.int .u8))) (h2 : w.ownsRow B2 t2 37 vh m.harts.length (m.harts.flatMap hlist))
    (hne : ∀ k, vm.ownBlock = some k → vh.ownBlock ≠ some k) (hl : 1 ≤ m.harts.length) :
    ∃ bh hc, vh = .slice (some ⟨bh, 0, none⟩) m.harts.length hc ∧ B2 ≤ bh ∧ Bd w.heap.size bh hc vm (.slice none 0 0) ty (w.alloc (.cells #[vm, vh, .slice none 0 0, .int .i64 0] tB)) (startM m) := by
  rcases owns_open h2 with ⟨_, e, _⟩ | ⟨g, cap, rfl, hB, hg, hn, hm, hat, hf⟩
  · omega
  have hb : Below w.heap.size w (w.alloc (.cells #[vm, .slice (some ⟨g, 0, none⟩) m.harts.length cap, .slice none 0 0, .int .i64 0] tB)) := Below.alloc (Below.refl _ _) (Nat.le_refl _) _
  refine ⟨g, cap, rfl, hB, hg, by simp, by simp [startM], by simp, by simp [startM], fun o => by unfold World.frozen?; rw [heap_alloc_new]; simp, hat.below hb, Nat.lt_of_lt_of_le hg hb.size, fun o => (hb.frozen (p := ⟨g, o, none⟩) hg).trans (hf o), (owns_sl h1).below hb, fun b off n c e => ?_, fun k e => ?_, World.ownsRow_nil _ _ _ _, hn, hm⟩
  · rcases owns_open h1 with ⟨rfl, _⟩ | ⟨g1, c1, rfl, _, hg1, _, _, _, hf1⟩
    · cases e
    · cases e
      exact ⟨Nat.lt_of_lt_of_le hg1 hb.size, fun o => (hb.frozen (p := ⟨b, o, none⟩) hg1).trans (hf1 o)⟩
  · exact ⟨(h1.lt k e).2, fun e2 => hne k e (by rw [e2]; rfl)⟩
section
variable {bp bh hc cp k : Nat} {vm vo : Value} {ty : TypeId} {o0 o : List Int} {fr tw : Int} {w w' : World} {s : St}
theorem CoreAt.move {hb ho : Nat} {d : CoreD} {h' : Hart} (h : CoreAt cp hb ho vm ty w d) (hcp : w'.heap[cp]? = w.heap[cp]?) (hvm : ∀ k, vm.ownBlock = some k → w'.heap[k]? = w.heap[k]?) (hrow : ∀ k, cp < k → k < w.heap.size → w'.heap[k]? = w.heap[k]?)
    (hsz : w.heap.size ≤ w'.heap.size) (hat : At w' hb ho (hlist h')) (hfz : ∀ o, w'.frozen? ⟨hb, o, none⟩ = false) : CoreAt cp hb ho vm ty w' { d with h := h' } := by
  refine ⟨h.hbl, (cell_block hcp _).trans h.ptr, (cell_block hcp _).trans h.mem, (cell_block hcp _).trans h.fr, (cell_block hcp _).trans h.tw, fun o => (frozen_block hcp o).trans (h.frz o), hat, hfz, sl_block h.bytes hvm, fun b off n c e => ?_, ?_, h.mlt⟩
  · obtain ⟨x1, x2, x3, x4⟩ := h.mfz b off n c e
    exact ⟨x1, x2, by omega, fun o => (frozen_block (hvm b (by rw [e]; rfl)) o).trans (x4 o)⟩
  · obtain ⟨vo', y1, y2⟩ := h.row
    refine ⟨vo', (cell_block hcp _).trans y1, owns_block y2 (fun g hg => ?_)⟩
    have := y2.lt g hg
    exact hrow g (by omega) this.2
theorem Bd.lt (h : Bd bp bh hc vm vo ty w s) : bp < w.heap.size := lt_of_cell h.c0
theorem Bd.below (h : Bd bp bh hc vm vo ty w s) (hb : Below w.heap.size w w') : Bd bp bh hc vm vo ty w' s := by
  have hl := h.lt
  have e := hb.block bp hl
  have eh := hb.block bh h.hlt
  refine ⟨h.b1, (cell_block e _).trans h.c0, (cell_block e _).trans h.c1, (cell_block e _).trans h.c2, (cell_block e _).trans h.c3, fun o => (frozen_block e o).trans (h.frz o), h.harts.below hb, Nat.lt_of_lt_of_le h.hlt hb.size, fun o => (frozen_block eh o).trans (h.hfz o), h.bytes.below hb, fun b off n c e => ?_, h.mlt, owns_below h.own hb, h.hcap⟩
  obtain ⟨x1, x2⟩ := h.mfz b off n c e
  exact ⟨Nat.lt_of_lt_of_le x1 hb.size, fun o => (frozen_block (hb.block b x1) o).trans (x2 o)⟩
/-- a hart goes to work -/
theorem Bd.start {tC : TypeId} (h : Bd bp bh hc vm vo ty w s) (wf : s.Wf) (hk : k < s.harts.length) :
    Wk bp bh hc w.heap.size k vm vo ty s.out [] 0 0 (w.alloc (.cells #[.pointer (some ⟨bh, k * 37, none⟩), vm, .slice none 0 0, .int .u32 0, .int .u32 0] tC)) s := by
  have hB : Below w.heap.size w (w.alloc (.cells #[.pointer (some ⟨bh, k * 37, none⟩), vm, .slice none 0 0, .int .u32 0, .int .u32 0] tC)) := Below.alloc (Below.refl _ _) (Nat.le_refl _) _
  have h2 := h.below hB
  have hat := at_hart h.harts (fun x hx => hlist_length (wf.harts x hx)) hk
  rw [← St.hart_at hk] at hat
  refine ⟨CoreAt.init hat h.hfz h.hlt h.bytes (fun b off n c e => ⟨(h.mlt b (by rw [e]; rfl)).2, h.mfz b off n c e⟩) (fun k e => Nat.lt_trans (h.mlt k e).1 h.lt), h.b1, h.lt, h2.c0, h2.c1, h2.c2, h2.c3, h2.frz, h2.harts, h.mlt, h2.own, fun g hg => (h.own.lt g hg).2, hk, h.hcap⟩
theorem Wk.clt (h : Wk bp bh hc cp k vm vo ty o0 o fr tw w s) : cp < w.heap.size := h.core.lt
theorem Wk.below (h : Wk bp bh hc cp k vm vo ty o0 o fr tw w s) (hb : Below w.heap.size w w') : Wk bp bh hc cp k vm vo ty o0 o fr tw w' s := by
  have e := hb.block bp (Nat.lt_trans h.b2 h.clt)
  exact ⟨h.core.below hb, h.b1, h.b2, (cell_block e _).trans h.c0, (cell_block e _).trans h.c1, (cell_block e _).trans h.c2, (cell_block e _).trans h.c3, fun o => (frozen_block e o).trans (h.frz o), h.harts.below hb, h.mlt, owns_below h.own hb, h.vlt, h.kl, h.hcap⟩
theorem Wk.drewN (h : Wk bp bh hc cp k vm vo ty o0 o fr tw w s) (n : Nat) : Wk bp bh hc cp k vm vo ty o0 o fr tw (w.drewN n) s := h.below (below_drewN (Below.refl _ _) _)
/-- the steps are told -/
theorem Wk.tick (h : Wk bp bh hc cp k vm vo ty o0 o fr tw w s) (n : Nat) : Wk bp bh hc cp k vm vo ty o0 o fr tw (w.setCell ⟨bp, 3, none⟩ (.int .i64 n)) { s with steps := n } := by
  have b1 := h.b1
  have b2 := h.b2
  have hbk : ∀ j, j ≠ bp → (w.setCell ⟨bp, 3, none⟩ (.int .i64 n)).heap[j]? = w.heap[j]? := fun j hj => Below.heap_setCell _ _ _ _ (by show j ≠ bp; exact hj)
  have hc : ∀ j, j ≠ 3 → (w.setCell ⟨bp, 3, none⟩ (.int .i64 n)).cell? ⟨bp, j, none⟩ = w.cell? ⟨bp, j, none⟩ := fun j hj => World.cell?_setCell_other _ _ _ _ (by intro e; injection e with _ e2; omega)
  refine ⟨h.core.move (h' := s.hart k) (hbk cp (by omega)) (fun g hg => hbk g (by have := h.mlt g hg; omega)) (fun g hg _ => hbk g (by omega)) (by simp) (h.core.hart.set_other (by show bp ≠ bh; omega) _) (fun o => (World.frozen?_setCell _ _ _ _).trans (h.core.hfz o)), h.b1, h.b2, (hc 0 (by omega)).trans h.c0, (hc 1 (by omega)).trans h.c1, (hc 2 (by omega)).trans h.c2, World.cell?_setCell_same _ _ _ h.c3, fun o => (World.frozen?_setCell _ _ _ _).trans (h.frz o), h.harts.set_other (by show bp ≠ bh; omega) _, h.mlt, owns_block h.own (fun g hg => hbk g (by have := h.own.lt g hg; omega)), h.vlt, h.kl, h.hcap⟩
/-- the hart at work does a step -/
theorem Wk.go {d : CoreD} (h : Wk bp bh hc cp k vm vo ty o0 o fr tw w s) (wf : s.Wf) (hd : d.h.Wf) (hc' : CoreAt cp bh (k * 37) vm ty w' d) (hg : Cgo cp bh (k * 37) vm ty w w') :
    Wk bp bh hc cp k vm vo ty o0 d.out d.fr d.tw w' ⟨s.harts.set k d.h, d.m, s.out, s.steps⟩ := by
  have b1 := h.b1
  have b2 := h.b2
  have hl := h.clt
  have e := hg.block bp (by omega) (by omega) (fun e => by have := h.mlt _ e; omega) (.inl h.b2)
  have ek : (⟨s.harts.set k d.h, d.m, s.out, s.steps⟩ : St).hart k = d.h := by
    rw [St.hart_at (by show k < (s.harts.set k d.h).length; rw [List.length_set]; exact h.kl)]
    show (s.harts.set k d.h)[k]'_ = _
    rw [List.getElem_set, if_pos rfl]
  refine ⟨by rw [ek]; exact hc', h.b1, h.b2, (cell_block e _).trans h.c0, (cell_block e _).trans (by rw [h.c1]; simp), (cell_block e _).trans h.c2, (cell_block e _).trans h.c3, fun o => (frozen_block e o).trans (h.frz o),
    at_harts_set h.harts (fun x hx => hlist_length (wf.harts x hx)) (hlist_length hd) hc'.hart hg.cell, h.mlt, owns_block h.own (fun g hg' => ?_), h.vlt, by show k < (s.harts.set k d.h).length; rw [List.length_set]; exact h.kl, by show (s.harts.set k d.h).length ≤ _ ∧ _; rw [List.length_set]; exact h.hcap⟩
  have := h.own.lt g hg'
  exact hg.block g this.2 (by omega) (fun e => by have := h.mlt _ e; omega) (.inl (h.vlt g hg'))
/-- others have lost what they had reserved -/
theorem Wk.lost {hs : List Hart} (h : Wk bp bh hc cp k vm vo ty o0 o fr tw w s) (wf : ∀ h ∈ hs, h.Wf) (hl : hs.length = s.harts.length) (hk : ∀ h' : k < hs.length, hs[k] = s.hart k) (ha : At w' bh 0 (hs.flatMap hlist)) (hg : Chg (fun p => p.block = bh) w w') :
    Wk bp bh hc cp k vm vo ty o0 o fr tw w' { s with harts := hs } := by
  have b1 := h.b1
  have b2 := h.b2
  have hlt := h.clt
  have kl : k < hs.length := by rw [hl]; exact h.kl
  have hbk : ∀ j, j < w.heap.size → j ≠ bh → w'.heap[j]? = w.heap[j]? := fun j hj hn => hg.block j hj (fun o e => hn e)
  have e := hbk bp (by omega) (by omega)
  have ek : (⟨hs, s.mem, s.out, s.steps⟩ : St).hart k = s.hart k := (St.hart_at kl).trans (hk kl)
  have hat := at_hart ha (fun x hx => hlist_length (wf x hx)) kl
  rw [hk kl] at hat
  refine ⟨by
      show CoreAt cp bh (k * 37) vm ty w' ⟨(⟨hs, s.mem, s.out, s.steps⟩ : St).hart k, s.mem, o, fr, tw⟩
      rw [ek]
      exact h.core.move (h' := s.hart k) (hbk cp hlt (by omega)) (fun g hg => hbk g (by have := h.mlt g hg; omega) (h.mlt g hg).2) (fun g hg hg2 => hbk g hg2 (by omega)) hg.size hat (fun o => (hg.frozen ⟨bh, o, none⟩ (by show bh < _; omega)).trans (h.core.hfz o)), h.b1, h.b2, (cell_block e _).trans h.c0, (cell_block e _).trans (by rw [h.c1, ← hl]), (cell_block e _).trans h.c2, (cell_block e _).trans h.c3, fun o => (frozen_block e o).trans (h.frz o),
    ha, h.mlt, owns_block h.own (fun g hg' => ?_), h.vlt, kl, by rw [show ({ s with harts := hs } : St).harts.length = s.harts.length from hl]; exact h.hcap⟩
  have := h.own.lt g hg'
  exact hbk g this.2 (by omega)
/-- what came out is laid behind what had come out -/
theorem Wk.stop {v' : Value} {w1 : World} (h : Wk bp bh hc cp k vm vo ty o0 o fr tw w s) (hown : w1.ownsRow (bp + 1) ty 1 v' (o0.length + o.length) (o0.map (Value.int .u32) ++ o.map (Value.int .u32))) (hg : w.grownBy w1 vo.ownBlock) :
    Bd bp bh hc vm v' ty (w1.setCell ⟨bp, 2, none⟩ v') { s with out := o0 ++ o } := by
  have b1 := h.b1
  have b2 := h.b2
  have hlt := h.clt
  have hfar : ∀ j, j < w.heap.size → j ≤ bp → w1.heap[j]? = w.heap[j]? := fun j hj hn => hg.block j hj (fun e => by have := h.own.lt j e.symm; omega)
  have hbk : ∀ j, j < bp → (w1.setCell ⟨bp, 2, none⟩ v').heap[j]? = w.heap[j]? := fun j hj => (Below.heap_setCell _ _ _ _ (by show j ≠ bp; omega)).trans (hfar j (by omega) (by omega))
  have e := hfar bp (by omega) (Nat.le_refl _)
  have hc : ∀ j, j ≠ 2 → (w1.setCell ⟨bp, 2, none⟩ v').cell? ⟨bp, j, none⟩ = w.cell? ⟨bp, j, none⟩ := fun j hj => (World.cell?_setCell_other _ _ _ _ (by intro e; injection e with _ e2; omega)).trans (cell_block e _)
  have hs := hg.size
  refine ⟨h.b1, (hc 0 (by omega)).trans h.c0, (hc 1 (by omega)).trans h.c1, World.cell?_setCell_same _ _ _ ((cell_block e 2).trans h.c2), (hc 3 (by omega)).trans h.c3, fun o => (World.frozen?_setCell _ _ _ _).trans ((frozen_block e o).trans (h.frz o)), fun j hj => (cell_block (hbk bh b1) _).trans (h.harts j hj), by simp; omega, fun o => (frozen_block (hbk bh b1) o).trans (h.core.hfz o), sl_block h.core.bytes (fun g hg' => hbk g (h.mlt g hg').1), fun b off n c e => ?_, h.mlt, ?_, h.hcap⟩
  · have hb := (h.mlt b (by rw [e]; rfl)).1
    exact ⟨by simp; omega, fun o => (frozen_block (hbk b hb) o).trans ((h.core.mfz b off n c e).2.2.2 o)⟩
  · have := ownsRow_setCell_below hown (a := ⟨bp, 2, none⟩) (Nat.lt_succ_self bp) v'
    simpa using this
end
end Go.Proofs.Ytlfnddmncbkjaab.Fb

/- Runs behind runs, as data. No program in sight. -/
namespace Go.Proofs.Ytlfnddmncbkjaab.Fb
set_option linter.unusedVariables false
set_option linter.unusedSimpArgs false
open Go.RowKit

/-- a board whose harts may be, and that has put out no more than it has done -/
structure St.Good (s : St) : Prop where
  wf : s.Wf
  ok : ∀ h ∈ s.harts, h.ok = true
  ol : s.out.length ≤ s.steps
theorem St.Good.hart {s : St} (h : s.Good) (k : Nat) : (s.hart k).ok = true := by
  by_cases hk : k < s.harts.length
  · rw [St.hart_at hk]; exact h.ok _ (List.getElem_mem hk)
  · unfold St.hart; rw [List.getD, List.getElem?_eq_none (by omega)]; rfl
theorem goM_ml (k : Nat) (s : St) : (goM k s).mem.length = s.mem.length := by
  show (goS _).m.length = _
  rw [goS_ml]
theorem goM_good {k : Nat} {s : St} (h : s.Good) (hs : (s.hart k).state = 0) : (goM k s).Good := by
  have hf := goS_fin (s.hart k) s.mem (h.hart k) hs
  refine ⟨goM_wf h.wf, mem_loseTo (P := fun h => h.ok = true) ?_ (fun _ => lose_ok), ?_⟩
  · intro x hx
    rcases List.mem_or_eq_of_mem_set hx with hx | rfl
    · exact h.ok _ hx
    · exact hf.ok
  · show (s.out ++ (goS _).out).length ≤ s.steps + 1
    have h1 := hf.ol
    have h2 := h.ol
    rw [List.length_append]
    omega
theorem pickM_good {k : Nat} : ∀ (n : Nat) {s : St}, s.Good → (pickM k n s).Good
  | 0, _, h => h
  | n + 1, s, h => by
    unfold pickM
    split
    · rename_i hs; exact pickM_good n (goM_good h hs)
    · exact h
theorem playM_good : ∀ (l : List (Int × Int)) {s : St}, s.Good → (playM l s).Good
  | [], _, h => h
  | _ :: r, _, h => playM_good r (pickM_good _ h)
theorem pickM_ml {k : Nat} : ∀ (n : Nat) (s : St), (pickM k n s).mem.length = s.mem.length
  | 0, _ => rfl
  | n + 1, s => by
    unfold pickM
    split
    · rw [pickM_ml n, goM_ml]
    · rfl
theorem playM_ml : ∀ (l : List (Int × Int)) (s : St), (playM l s).mem.length = s.mem.length
  | [], _ => rfl
  | _ :: r, s => by unfold playM; rw [playM_ml r, pickM_ml]
theorem pickM_steps {k : Nat} : ∀ (n : Nat) (s : St), (pickM k n s).steps ≤ s.steps + n
  | 0, _ => Nat.le_refl _
  | n + 1, s => by
    unfold pickM
    split
    · have := pickM_steps (k := k) n (goM k s)
      have h2 : (goM k s).steps = s.steps + 1 := rfl
      omega
    · omega
theorem playM_steps : ∀ (l : List (Int × Int)) (s : St), (∀ p ∈ l, p.2 ≤ 400) → (playM l s).steps ≤ s.steps + 400 * l.length
  | [], _, _ => Nat.le_refl _
  | p :: r, s, h => by
    unfold playM
    have h1 := playM_steps r (pickM p.1.toNat p.2.toNat s) (fun q hq => h q (by simp [hq]))
    have h2 := pickM_steps (k := p.1.toNat) p.2.toNat s
    have h3 := h p (by simp)
    rw [List.length_cons]
    omega
theorem startM_good {m : Mach} {l : List (Int × Int)} (wf : m.Wf) (h : wrong m l = 0) : (startM m).Good := by
  obtain ⟨h1, h2, h3, h4, _⟩ := wrong_parts h
  exact ⟨⟨wf.harts, wf.mem, h1, by intro x hx; cases hx⟩, h4, Nat.le_refl _⟩
theorem wrong_of {m : Mach} {l : List (Int × Int)} (h1 : m.mem.length ≤ 4096) (h2 : 1 ≤ m.harts.length) (h3 : m.harts.length ≤ 4) (h4 : ∀ x ∈ m.harts, x.ok = true) (h5 : l.length ≤ 300) (h6 : ∀ p ∈ l, 0 ≤ p.1 ∧ p.1 < m.harts.length ∧ 0 ≤ p.2 ∧ p.2 ≤ 400) : wrong m l = 0 := by
  unfold wrong
  rw [if_neg (by omega), if_neg, if_neg (by omega), if_neg]
  · rw [List.any_eq_true]
    rintro ⟨p, hp, hb⟩
    have := h6 p hp
    unfold badPick at hb
    simp at hb
    omega
  · rw [List.any_eq_true]
    rintro ⟨x, hx, hb⟩
    rw [h4 x hx] at hb
    cases hb
/-- the machine that a board shows -/
def St.mach (s : St) : Mach := ⟨s.mem, s.harts⟩
theorem play_mach {m : Mach} {a b : List (Int × Int)} (wf : m.Wf) (h : wrong m (a ++ b) = 0) : wrong m a = 0 ∧ wrong (playM a (startM m)).mach b = 0 := by
  obtain ⟨h1, h2, h3, h4, h5, h6⟩ := wrong_parts h
  rw [List.length_append] at h5
  have ha : wrong m a = 0 := wrong_of h1 h2 h3 h4 (by omega) (fun p hp => h6 p (by simp [hp]))
  refine ⟨ha, ?_⟩
  have hg := playM_good a (startM_good wf ha)
  have hl := playM_len a (startM m)
  have hm := playM_ml a (startM m)
  have e1 : (startM m).harts.length = m.harts.length := rfl
  have e2 : (startM m).mem.length = m.mem.length := rfl
  refine wrong_of ?_ ?_ ?_ hg.ok (by omega) (fun p hp => ?_)
  · show (playM a (startM m)).mem.length ≤ _; omega
  · show _ ≤ (playM a (startM m)).harts.length; omega
  · show (playM a (startM m)).harts.length ≤ _; omega
  · have := h6 p (by simp [hp])
    show _ ∧ _ < ((playM a (startM m)).harts.length : Int) ∧ _
    omega
theorem wrong_ahead {m : Mach} {a b : List (Int × Int)} (wf : m.Wf) (h : ¬ wrong m a = 0) : ¬ wrong m (a ++ b) = 0 := fun e => h (play_mach wf e).1
/-- what is shown ahead, laid ahead -/
def St.pre (o : List Int) (n : Nat) (s : St) : St := ⟨s.harts, s.mem, o ++ s.out, n + s.steps⟩
theorem goM_pre (k : Nat) (o : List Int) (n : Nat) (s : St) : goM k (s.pre o n) = (goM k s).pre o n := by
  unfold goM St.pre
  dsimp only
  rw [List.append_assoc]
  rfl
theorem pickM_pre (k : Nat) (o : List Int) (m : Nat) : ∀ (n : Nat) (s : St), pickM k n (s.pre o m) = (pickM k n s).pre o m
  | 0, _ => rfl
  | n + 1, s => by
    unfold pickM
    rw [goM_pre, pickM_pre k o m n]
    show (if (s.hart k).state = 0 then _ else _) = _
    split <;> rfl
theorem playM_pre (o : List Int) (m : Nat) : ∀ (l : List (Int × Int)) (s : St), playM l (s.pre o m) = (playM l s).pre o m
  | [], _ => rfl
  | _ :: r, s => by unfold playM; rw [pickM_pre, playM_pre o m r]
theorem playM_append : ∀ (a b : List (Int × Int)) (s : St), playM (a ++ b) s = playM b (playM a s)
  | [], _, _ => rfl
  | p :: r, b, s => by
    show playM (r ++ b) (pickM p.1.toNat p.2.toNat s) = playM b (playM r (pickM p.1.toNat p.2.toNat s))
    exact playM_append r b _
theorem pickM_add {k : Nat} : ∀ (n m : Nat) (s : St), pickM k (n + m) s = pickM k m (pickM k n s)
  | 0, m, s => by rw [Nat.zero_add]; rfl
  | n + 1, m, s => by
    rw [show n + 1 + m = (n + m) + 1 by omega]
    by_cases h : (s.hart k).state = 0
    · have e1 : pickM k (n + m + 1) s = pickM k (n + m) (goM k s) := by conv => lhs; unfold pickM; rw [if_pos h]
      have e2 : pickM k (n + 1) s = pickM k n (goM k s) := by conv => lhs; unfold pickM; rw [if_pos h]
      rw [e1, e2]; exact pickM_add n m (goM k s)
    · rw [pickM_stop h, pickM_stop h, pickM_stop h]
/-- a run, as what another one is behind it -/
theorem playM_split (m : Mach) (a b : List (Int × Int)) : playM (a ++ b) (startM m) = (playM b (startM (playM a (startM m)).mach)).pre (playM a (startM m)).out (playM a (startM m)).steps := by
  rw [playM_append, ← playM_pre]
  congr 1
  unfold St.pre startM St.mach
  simp
/-- a pick of so many steps is two -/
theorem playM_turns (l : List (Int × Int)) (k : Nat) (hk : k < l.length) (n : Int) (h0 : 0 ≤ n) (h1 : n ≤ (l[k]).2) (s : St) :
    playM (l.take k ++ [((l[k]).1, n), ((l[k]).1, (l[k]).2 - n)] ++ l.drop (k + 1)) s = playM l s := by
  have e : l = l.take k ++ [l[k]] ++ l.drop (k + 1) := by
    rw [List.append_assoc, List.singleton_append, ← List.drop_eq_getElem_cons hk, List.take_append_drop]
  conv => rhs; rw [e]
  rw [playM_append, playM_append, playM_append, playM_append]
  congr 1
  show pickM _ _ (pickM _ _ _) = pickM _ _ _
  rw [← pickM_add]
  congr 1
  show n.toNat + ((l[k]).2 - n).toNat = (l[k]).2.toNat
  omega
theorem wrong_turns {m : Mach} {l : List (Int × Int)} (h : wrong m l = 0) (k : Nat) (hk : k < l.length) (n : Int) (h0 : 0 ≤ n) (h1 : n ≤ (l[k]).2) (hl : l.length < 300) :
    wrong m (l.take k ++ [((l[k]).1, n), ((l[k]).1, (l[k]).2 - n)] ++ l.drop (k + 1)) = 0 := by
  obtain ⟨w1, w2, w3, w4, w5, w6⟩ := wrong_parts h
  refine wrong_of w1 w2 w3 w4 (by simp; omega) (fun p hp => ?_)
  have hp2 := w6 l[k] (List.getElem_mem hk)
  simp only [List.mem_append, List.mem_cons, List.not_mem_nil, or_false] at hp
  rcases hp with (hp | rfl | rfl) | hp
  · exact w6 p (List.mem_of_mem_take hp)
  · exact ⟨hp2.1, hp2.2.1, h0, by show n ≤ 400; omega⟩
  · exact ⟨hp2.1, hp2.2.1, by show 0 ≤ (l[k]).2 - n; omega, by show (l[k]).2 - n ≤ 400; omega⟩
  · exact w6 p (List.mem_of_mem_drop hp)
end Go.Proofs.Ytlfnddmncbkjaab.Fb

/- The document's step, as a struct of 41 cells. No program in sight. -/
namespace Go.Proofs.Ytlfnddmncbkjaab.Fb
set_option linter.unusedVariables false
set_option linter.unusedSimpArgs false
open Go.RowKit
structure DidD where
  h : Hart
  vm : Value
  vo : Value
  fr : Int
  many : Int
def dtail (d : DidD) : List Value := [d.vm, d.vo, .int .u32 d.fr, .int .i64 d.many]
def dlist (d : DidD) : List Value := hlist d.h ++ dtail d
def dcells (d : DidD) : Array Value := (dlist d).toArray
def DidD.set (d : DidD) (r x : Int) : DidD := { d with h := d.h.setReg r x }
def DidD.trap (d : DidD) (c : Int) : DidD := { d with h := d.h.trap c }
def did0 : DidD := ⟨hart0, .slice none 0 0, .slice none 0 0, 0, 0⟩
structure DidD.Ok (d : DidD) : Prop where
  len : d.h.regs.length = 32
  m1 : d.vm.oneCell' = true
  o1 : d.vo.oneCell' = true
theorem hlist_len {h : Hart} (wf : h.regs.length = 32) : (hlist h).length = 37 := by simp [hlist, wf]
theorem dlist_len {d : DidD} (h : d.Ok) : (dlist d).length = 41 := by
  rw [dlist, List.length_append, hlist_len h.len]; rfl
theorem dcells_size {d : DidD} (h : d.Ok) : (dcells d).size = 41 := by simp [dcells, dlist_len h]
theorem dlist_one {d : DidD} (h : d.Ok) : ∀ v ∈ (dcells d).toList, v.oneCell' = true := by
  intro v hv
  have hv' : v ∈ dlist d := by simpa [dcells] using hv
  rcases List.mem_append.1 hv' with h1 | h1
  · exact hlist_one d.h v (by simpa [hcells] using h1)
  · simp only [dtail, List.mem_cons, List.not_mem_nil, or_false] at h1
    rcases h1 with rfl | rfl | rfl | rfl
    · exact h.m1
    · exact h.o1
    · rfl
    · rfl
theorem dlist_all {d : DidD} (h : d.Ok) : (dcells d).all (·.oneCell') = true := Array.all_eq_true_iff_forall_mem.2 (fun v hv => dlist_one h v (by simpa using hv))
theorem dlist_h {d : DidD} {j : Nat} {v : Value} (h : (hlist d.h)[j]? = some v) : (dlist d)[j]? = some v := by
  rw [dlist, List.getElem?_append_left (List.getElem?_eq_some_iff.1 h).1]; exact h
theorem dlist_t {d : DidD} (h : d.h.regs.length = 32) (j : Nat) : (dlist d)[37 + j]? = (dtail d)[j]? := by
  rw [dlist, List.getElem?_append_right (by rw [hlist_len h]; omega), hlist_len h, Nat.add_sub_cancel_left]
theorem dlist_setH {d : DidD} {h' : Hart} {j : Nat} {v : Value} (hl : hlist h' = (hlist d.h).set j v) (hj : j < (hlist d.h).length) : dlist { d with h := h' } = (dlist d).set j v := by
  unfold dlist
  rw [List.set_append_left _ _ hj]
  show hlist h' ++ dtail d = _
  rw [hl]
theorem dlist_setT {d d' : DidD} (hh : d'.h = d.h) (h : d.h.regs.length = 32) {j : Nat} {v : Value} (ht : dtail d' = (dtail d).set j v) : dlist d' = (dlist d).set (37 + j) v := by
  unfold dlist
  rw [List.set_append_right _ _ (by rw [hlist_len h]; omega), hlist_len h, Nat.add_sub_cancel_left, hh, ht]
theorem box_did (d : DidD) (w : World) (t : TypeId) : At (w.alloc (.cells (dcells d) t)) w.heap.size 0 (dlist d) := at_alloc w (dlist d) t (0, 0)
theorem results_c1 {P : Program} {fn : Func} {a : Tmp} {t : TypeId} (h : fn.results = #[.cell a t]) (tmps : Array Value) {p : Addr} {w : World} {v : Value} (hp : tmps.getD a undef = .pointer (some p)) (hl : (loadVar t p).run P w = .ok v w) :
    (results fn tmps).run P w = .ok v w := by
  have hp' : tmps[a]?.getD undef = .pointer (some p) := by rw [← hp]; simp
  simp [results, h, hp', hl, Sem.run_bind, asAddr]
theorem results_c1t {P : Program} {fn : Func} {a x : Tmp} {t : TypeId} (h : fn.results = #[.cell a t, .tmp x]) (tmps : Array Value) {p : Addr} {w : World} {v : Value} (hp : tmps.getD a undef = .pointer (some p)) (hl : (loadVar t p).run P w = .ok v w) :
    (results fn tmps).run P w = .ok (.tuple #[v, tmps.getD x undef]) w := by
  have hp' : tmps[a]?.getD undef = .pointer (some p) := by rw [← hp]; simp
  simp [results, h, hp', hl, Sem.run_bind, asAddr]
theorem did0_ok : did0.Ok := ⟨rfl, rfl, rfl⟩
/-- what a function on a Did begins with: its box, and its answer's cells behind it -/
structure DBox (B R : Nat) (tD : TypeId) (w : World) (d : DidD) : Prop where
  at_ : At w B 0 (dlist d)
  frz : ∀ o, w.frozen? ⟨B, o, none⟩ = false
  there : w.there R 0 41
theorem DBox.begin {w : World} {tD : TypeId} {d : DidD} {z : Array Value} (hz : z.size = 41) : DBox w.heap.size (w.heap.size + 1) tD ((w.alloc (.cells (dcells d) tD)).alloc (.cells z tD)) d := by
  have hB : Below (w.heap.size + 1) (w.alloc (.cells (dcells d) tD)) ((w.alloc (.cells (dcells d) tD)).alloc (.cells z tD)) := Below.alloc (Below.refl _ _) (by simp) _
  refine ⟨(box_did d w tD).below (by have := hB; simpa using this), fun o => ?_, fun j hj => ?_⟩
  · rw [hB.frozen (p := ⟨w.heap.size, o, none⟩) (by show w.heap.size < _; omega)]
    unfold World.frozen?; rw [heap_alloc_new]; simp
  · have hn : ((w.alloc (.cells (dcells d) tD)).alloc (.cells z tD)).heap[w.heap.size + 1]? = some (.cells z tD (0, 0)) := by
      have := heap_alloc_new (w.alloc (.cells (dcells d) tD)) (.cells z tD)
      simpa using this
    have hj2 : 0 + j < z.size := by omega
    exact ⟨by unfold World.cell?; rw [hn]; simp; omega, by unfold World.frozen?; rw [hn]; simp⟩
theorem DBox.below {B R : Nat} {tD : TypeId} {w w' : World} {d : DidD} (h : DBox B R tD w d) (hB0 : B < w.heap.size) (hB : R < w.heap.size) (hb : Below w.heap.size w w') : DBox B R tD w' d :=
  ⟨h.at_.below hb, fun o => (hb.frozen (p := ⟨B, o, none⟩) hB0).trans (h.frz o), fun j hj => ⟨by rw [hb.cell (p := ⟨R, 0 + j, none⟩) hB]; exact (h.there j hj).1, by rw [hb.frozen (p := ⟨R, 0 + j, none⟩) hB]; exact (h.there j hj).2⟩⟩
theorem there_setCell {w : World} {b o n : Nat} (h : w.there b o n) (p : Addr) (hp : p.spot = none) (v : Value) : (w.setCell p v).there b o n := by
  obtain ⟨b', o', s⟩ := p
  simp only at hp
  subst hp
  have := World.there_setCells h b' o' [v]
  simpa [World.setCells] using this
/-- a cell of the box is laid -/
theorem DBox.set {B R : Nat} {tD : TypeId} {w : World} {d d' : DidD} (h : DBox B R tD w d) (j : Nat) (v : Value) (hj : j < (dlist d).length) (hl : dlist d' = (dlist d).set j v) : DBox B R tD (w.setCell ⟨B, j, none⟩ v) d' :=
  ⟨by rw [hl]; have := h.at_.set j hj v; simpa using this, fun o => (World.frozen?_setCell _ _ _ _).trans (h.frz o), there_setCell h.there _ rfl _⟩
theorem DBox.get {B R : Nat} {tD : TypeId} {w : World} {d : DidD} (h : DBox B R tD w d) {j : Nat} {v : Value} (hj : (dlist d)[j]? = some v) : w.cell? ⟨B, j, none⟩ = some v := by
  have := h.at_.get hj
  simpa using this
theorem DBox.drewN {B R : Nat} {tD : TypeId} {w : World} {d : DidD} (h : DBox B R tD w d) (n : Nat) : DBox B R tD (w.drewN n) d := ⟨h.at_, h.frz, h.there⟩
theorem DidD.Ok.setReg {d : DidD} (h : d.Ok) (r x : Int) : (d.set r x).Ok := ⟨by unfold DidD.set Hart.setReg; split <;> simp [h.len], h.m1, h.o1⟩
theorem hlist_pc' {h : Hart} (w : h.regs.length = 32) : (hlist h)[32]? = some (.int .u32 h.pc) := by simp [hlist, w]
theorem hlist_held' {h : Hart} (w : h.regs.length = 32) : (hlist h)[33]? = some (.bool h.held) := by simp [hlist, w]
theorem hlist_heldAt' {h : Hart} (w : h.regs.length = 32) : (hlist h)[34]? = some (.int .u32 h.heldAt) := by simp [hlist, w]
theorem hlist_state' {h : Hart} (w : h.regs.length = 32) : (hlist h)[35]? = some (.int .i64 h.state) := by simp [hlist, w]
theorem hlist_cause' {h : Hart} (w : h.regs.length = 32) : (hlist h)[36]? = some (.int .i64 h.cause) := by simp [hlist, w]
theorem hlist_reg' {h : Hart} (w : h.regs.length = 32) (k : Nat) (hk : k < 32) : (hlist h)[k]? = some (.int .u32 (h.regs.getD k 0)) := by
  have : k < h.regs.length := by rw [w]; exact hk
  simp [hlist, List.getElem?_append, this]
/-- the whole box is laid anew -/
theorem DBox.put {B R : Nat} {tD : TypeId} {w : World} {d d' : DidD} (h : DBox B R tD w d) (hd : d.Ok) (hd' : d'.Ok) : DBox B R tD (w.setCells B 0 (dcells d').toList) d' := by
  have ht : w.there B 0 (dcells d').toList.length := by
    have : (dcells d').toList.length = 41 := by simp [dcells, dlist_len hd']
    rw [this]
    exact there_at h.at_ (dlist_len hd) h.frz
  refine ⟨?_, fun o => by rw [World.frozen?_setCells]; exact h.frz o, World.there_setCells h.there _ _ _⟩
  have hr := World.rangeAt_setCells_same w B 0 (dcells d').toList ht
  intro j hj
  have := hr j (dlist d')[j] (by simp [dcells, hj])
  exact this
theorem DBox.thereB {B R : Nat} {tD : TypeId} {w : World} {d d' : DidD} (h : DBox B R tD w d) (hd : d.Ok) (hd' : d'.Ok) : w.there B 0 (dcells d').size := by
  rw [dcells_size hd']; exact there_at h.at_ (dlist_len hd) h.frz
theorem DBox.other {B R : Nat} {tD : TypeId} {w : World} {d : DidD} (h : DBox B R tD w d) {p : Addr} (hp : p.block ≠ B) (hs : p.spot = none) (v : Value) : DBox B R tD (w.setCell p v) d :=
  ⟨h.at_.set_other hp v, fun o => (World.frozen?_setCell _ _ _ _).trans (h.frz o), there_setCell h.there _ hs _⟩
/-- a Did, as a hart at work -/
structure DidOf (w : World) (d : DidD) (c : CoreD) : Prop where
  h : d.h = c.h
  m : Ints .u8 w d.vm c.m
  o : Ints .u32 w d.vo c.out
  fr : d.fr = c.fr
  many : d.many = c.tw - c.fr
theorem DidOf.below {w w' : World} {d : DidD} {c : CoreD} (h : DidOf w d c) (hb : Below w.heap.size w w') : DidOf w' d c := ⟨h.h, h.m.below hb, h.o.below hb, h.fr, h.many⟩
theorem Ints.one {k : IntKind} {w : World} {v : Value} {l : List Int} (h : Ints k w v l) : v.oneCell' = true := by
  obtain ⟨ao, cap, rfl, _⟩ := h.open
  rfl
theorem DidOf.ok {w : World} {d : DidD} {c : CoreD} (h : DidOf w d c) (wf : c.Wf) : d.Ok := ⟨by rw [h.h]; exact wf.h.len, h.m.one, h.o.one⟩
theorem DidOf.set {w : World} {d : DidD} {c : CoreD} (h : DidOf w d c) (r x : Int) : DidOf w (d.set r x) (c.set r x) := ⟨by show d.h.setReg r x = c.h.setReg r x; rw [h.h], h.m, h.o, h.fr, h.many⟩
theorem DidOf.trap {w : World} {d : DidD} {c : CoreD} (h : DidOf w d c) (x : Int) : DidOf w (d.trap x) (c.trap x) := ⟨by show d.h.trap x = c.h.trap x; rw [h.h], h.m, h.o, h.fr, h.many⟩
theorem DidOf.setPc {w : World} {d : DidD} {c : CoreD} (h : DidOf w d c) (x : Int) : DidOf w { d with h := { d.h with pc := x } } (c.setPc x) := ⟨by show ({ d.h with pc := x } : Hart) = { c.h with pc := x }; rw [h.h], h.m, h.o, h.fr, h.many⟩
theorem DidOf.hold {w : World} {d : DidD} {c : CoreD} (h : DidOf w d c) (b : Bool) (x : Int) : DidOf w { d with h := { d.h with held := b, heldAt := x } } (c.hold b x) := ⟨by show ({ d.h with held := b, heldAt := x } : Hart) = { c.h with held := b, heldAt := x }; rw [h.h], h.m, h.o, h.fr, h.many⟩
theorem DidOf.put {w : World} {d : DidD} {c : CoreD} {v : Value} {op at_ x : Int} (h : DidOf w d c) (hq : mStoreOk c.m op at_ = true) (ha : U32 at_) (hl : c.m.length ≤ 4096) (hv : Ints .u8 w v (mStore c.m op at_ x)) :
    DidOf w { d with vm := v, fr := at_, many := msize op } (c.put op at_ x) := by
  have hs : 0 < msize op ∧ at_ + msize op ≤ c.m.length := by simp [mStoreOk, there] at hq; omega
  have ha1 := ha.1
  have e : c.put op at_ x = { c with m := mStore c.m op at_ x, fr := at_, tw := (at_ + msize op) % 4294967296 } := by unfold CoreD.put; rw [if_pos hq]
  rw [e]
  refine ⟨h.h, hv, h.o, rfl, ?_⟩
  show msize op = (at_ + msize op) % 4294967296 - at_
  omega
theorem fresh_ne {v : Value} {S R : Nat} (hf : ∀ q, v.ownBlock = some q → S ≤ q) (hR : R < S) : ∀ b off n c, v = .slice (some ⟨b, off, none⟩) n c → R ≠ b := fun b off n c e => by
  have := hf b (by rw [e]; rfl)
  omega
theorem DidOf.setCells {w : World} {d : DidD} {c : CoreD} (h : DidOf w d c) {R : Nat} (h1 : ∀ b off n c, d.vm = .slice (some ⟨b, off, none⟩) n c → R ≠ b) (h2 : ∀ b off n c, d.vo = .slice (some ⟨b, off, none⟩) n c → R ≠ b) (o : Nat) (vs : List Value) : DidOf (w.setCells R o vs) d c :=
  ⟨h.h, sl_setCells h1 _ _ _ h.m, sl_setCells h2 _ _ _ h.o, h.fr, h.many⟩
theorem put_hold (c : CoreD) (b : Bool) (x op at_ y : Int) : (c.hold b x).put op at_ y = (c.put op at_ y).hold b x := by
  unfold CoreD.put CoreD.hold
  dsimp only
  split <;> rfl
theorem store_load (l : List Int) (a : Int) : mStoreOk l 18 a = mLoadOk l 13 a := rfl
theorem DBox.begin2 {w : World} {tD : TypeId} {d : DidD} {z : Array Value} {o : Obj} (hz : z.size = 41) : DBox w.heap.size (w.heap.size + 2) tD (((w.alloc (.cells (dcells d) tD)).alloc o).alloc (.cells z tD)) d := by
  have hB : Below (w.heap.size + 1) (w.alloc (.cells (dcells d) tD)) (((w.alloc (.cells (dcells d) tD)).alloc o).alloc (.cells z tD)) := (Below.alloc (Below.refl _ _) (by simp) _).alloc (by simp) _
  refine ⟨(box_did d w tD).below (by have := hB; simpa using this), fun o => ?_, fun j hj => ?_⟩
  · rw [hB.frozen (p := ⟨w.heap.size, o, none⟩) (by show w.heap.size < _; omega)]
    unfold World.frozen?; rw [heap_alloc_new]; simp
  · have hn : (((w.alloc (.cells (dcells d) tD)).alloc o).alloc (.cells z tD)).heap[w.heap.size + 2]? = some (.cells z tD (0, 0)) := by
      have := heap_alloc_new ((w.alloc (.cells (dcells d) tD)).alloc o) (.cells z tD)
      simpa using this
    exact ⟨by unfold World.cell?; rw [hn]; simp; omega, by unfold World.frozen?; rw [hn]; simp⟩
theorem size_setCells (b : Nat) : ∀ (vs : List Value) (o : Nat) (w : World), (w.setCells b o vs).heap.size = w.heap.size
  | [], _, _ => rfl
  | v :: r, o, w => by rw [World.setCells, size_setCells b r]; simp
theorem there_begin (h : Hart) {w : World} {tH tD : TypeId} : ((w.alloc (.cells (hcells h) tH)).alloc (.cells (dcells did0) tD)).there (w.heap.size + 1) 0 41 := fun j hj => by
  have hn : ((w.alloc (.cells (hcells h) tH)).alloc (.cells (dcells did0) tD)).heap[w.heap.size + 1]? = some (.cells (dcells did0) tD (0, 0)) := by
    have := heap_alloc_new (w.alloc (.cells (hcells h) tH)) (.cells (dcells did0) tD)
    simpa using this
  have hz : (dcells did0).size = 41 := rfl
  exact ⟨by unfold World.cell?; rw [hn]; simp; omega, by unfold World.frozen?; rw [hn]; simp⟩
theorem DBox.begin3 {w : World} {tD : TypeId} {d : DidD} {R : Nat} (hR : w.there R 0 41) (hl : R < w.heap.size) : DBox w.heap.size R tD (w.alloc (.cells (dcells d) tD)) d := by
  refine ⟨box_did d w tD, fun o => ?_, World.there_alloc hR _⟩
  unfold World.frozen?; rw [heap_alloc_new]; simp
theorem ints_inj {k : IntKind} {w : World} {v : Value} {l m : List Int} (h : Ints k w v l) (h' : Ints k w v m) : l = m := by
  obtain ⟨ao, cap, rfl, _, _, _, ho⟩ := h.open
  obtain ⟨ao', cap', e, _, _, _, ho'⟩ := h'.open
  injection e with e1 e2 e3
  subst e1
  by_cases hl : l = []
  · rw [hl] at e2
    rw [hl]
    exact (List.eq_nil_of_length_eq_zero (by simpa using e2.symm)).symm
  · have hm : m ≠ [] := by
      intro e; rw [e] at e2; exact hl (List.eq_nil_of_length_eq_zero (by simpa using e2))
    obtain ⟨b, off, rfl, _, hc⟩ := ho hl
    obtain ⟨b', off', e4, _, hc'⟩ := ho' hm
    injection e4 with e4
    injection e4 with e5 e6
    subst e5 e6
    apply List.ext_getElem e2
    intro i h1 h2
    have x1 := hc i h1
    have x2 := hc' i h2
    rw [x1] at x2
    injection x2 with x2
    injection x2 with _ x2
    rw [List.getD, List.getD, List.getElem?_eq_getElem h1, List.getElem?_eq_getElem h2] at x2
    exact x2
theorem ints_old {k : IntKind} {w w' wf : World} {v : Value} {l m : List Int} (h : Ints k w v l) (h' : Ints k w' v m) (hb : Below w.heap.size w w') (hf : Below w.heap.size w wf) : Ints k wf v m := by
  have := ints_inj (h.below hb) h'
  subst this
  exact h.below hf
end Go.Proofs.Ytlfnddmncbkjaab.Fb

/- The document's board, in memory, and what lies near a store. No program in sight. -/
namespace Go.Proofs.Ytlfnddmncbkjaab.Fb
set_option linter.unusedVariables false
set_option linter.unusedSimpArgs false
open Go.RowKit
/-- where a step has stored: nowhere, or in some bytes of the memory -/
def Rng (d : CoreD) : Prop := (d.fr = 0 ∧ d.tw = 0) ∨ (0 ≤ d.fr ∧ d.fr < d.tw ∧ d.tw ≤ d.m.length)
theorem Rng.put {d : CoreD} (h : Rng d) (hl : d.m.length ≤ 4096) (op a x : Int) (ha : 0 ≤ a) : Rng (d.put op a x) := by
  unfold CoreD.put
  split
  · rename_i hq
    have hs : 0 < msize op ∧ a + msize op ≤ d.m.length := by simp [mStoreOk, there] at hq; omega
    refine .inr ⟨ha, ?_, ?_⟩
    · show a < (a + msize op) % 4294967296
      omega
    · show (a + msize op) % 4294967296 ≤ ((mStore d.m op a x).length : Int)
      rw [mStore_length]
      omega
  · exact h
theorem ite_rng {P : CoreD → Prop} {c : Prop} [Decidable c] {a b : CoreD} (h1 : c → P a) (h2 : ¬ c → P b) : P (if c then a else b) := by split; exact h1 ‹_›; exact h2 ‹_›
theorem atomS_rng {d : CoreD} (h : Rng d) (hl : d.m.length ≤ 4096) (op a b : Int) (ha : 0 ≤ a) : Rng (atomS d op a b).1 := by
  unfold atomS
  split
  · split
    · exact h
    · split
      · split
        · exact h.put hl 18 a b ha
        · exact h
      · exact h.put hl 18 a _ ha
  · exact h
theorem callS_rng {d : CoreD} (h : Rng d) : Rng (callS d).1 := by
  unfold callS
  split
  · exact h
  · split
    · exact h
    · exact h
theorem doS_rng {d : CoreD} (h : Rng d) (hl : d.m.length ≤ 4096) (hr : ∀ k, 0 ≤ d.h.reg k) (i : InsD) : Rng (doS i d) := by
  unfold doS
  dsimp only
  repeat' (with_reducible refine ite_rng (P := Rng) (fun _ => ?_) (fun _ => ?_))
  all_goals first
    | exact h
    | exact h.put hl _ _ _ (Int.emod_nonneg _ (by decide))
    | exact atomS_rng h hl i.op (d.h.reg i.rs1) (d.h.reg i.rs2) (hr _)
    | exact callS_rng h
theorem goS_rng (h : Hart) (wf : h.Wf) (l : List Int) (hl : l.length ≤ 4096) : Rng (goS ⟨h, l, [], 0, 0⟩) := by
  have h0 : Rng (CoreD.none ⟨h, l, [], 0, 0⟩) := .inl ⟨rfl, rfl⟩
  unfold goS
  split
  · exact doS_rng h0 hl (fun k => (reg_u wf k).1) _
  · exact h0
/-- is a byte of a word among some? -/
def nearB (word fr many : Int) : Bool := decide (0 < many) && decide (fr < word + 4) && decide (word < fr + many)
theorem nearB_lose {d : CoreD} (h : Rng d) (hl : d.m.length ≤ 4096) (x : Hart) (wf : x.Wf) : lose d.fr d.tw x = if (x.held && nearB x.heldAt d.fr (d.tw - d.fr)) = true then { x with held := false, heldAt := 0 } else x := by
  have hu := wf.heldAt
  unfold U32 at hu
  unfold lose
  have e : (decide (d.fr < (x.heldAt + 4) % 4294967296) && decide (x.heldAt < d.tw)) = nearB x.heldAt d.fr (d.tw - d.fr) := by
    unfold nearB
    rw [← Bool.decide_and, ← Bool.decide_and, ← Bool.decide_and]
    refine decide_eq_decide.2 ?_
    rcases h with ⟨h1, h2⟩ | ⟨h1, h2, h3⟩
    · constructor <;> rintro ⟨⟩ <;> omega
    · constructor
      · rintro ⟨a, b⟩; omega
      · rintro ⟨⟨a, b⟩, c⟩; omega
  rw [Bool.and_assoc, e]
/-- one more is looked at -/
theorem near_all {word fr many : Int} (h : ∀ j : Int, 0 ≤ j → j < many → ¬ (0 ≤ fr + j - word ∧ fr + j - word < 4)) : nearB word fr many = false := by
  unfold nearB
  rw [← Bool.decide_and, ← Bool.decide_and]
  refine decide_eq_false ?_
  rintro ⟨⟨a, b⟩, c⟩
  by_cases e : fr ≤ word
  · exact h (word - fr) (by omega) (by omega) (by omega)
  · exact h 0 (by omega) (by omega) (by omega)
theorem near_one {word fr many j : Int} (h0 : 0 ≤ j) (h1 : j < many) (h2 : 0 ≤ fr + j - word) (h3 : fr + j - word < 4) : nearB word fr many = true := by
  unfold nearB
  rw [← Bool.decide_and, ← Bool.decide_and]
  refine decide_eq_true ⟨⟨?_, ?_⟩, ?_⟩ <;> omega
end Go.Proofs.Ytlfnddmncbkjaab.Fb

/- The document's board, in memory, at work. No program in sight. -/
namespace Go.Proofs.Ytlfnddmncbkjaab.Fb
set_option linter.unusedVariables false
set_option linter.unusedSimpArgs false
open Go.RowKit
/-- the document's board at bp: its harts at bh, its bytes vm, what came out vo -/
structure PB (bp bh hc : Nat) (vm vo : Value) (ty : TypeId) (w : World) (s : St) : Prop where
  b1 : bp < bh
  c0 : w.cell? ⟨bp, 0, none⟩ = some vm
  c1 : w.cell? ⟨bp, 1, none⟩ = some (.slice (some ⟨bh, 0, none⟩) s.harts.length hc)
  c2 : w.cell? ⟨bp, 2, none⟩ = some vo
  c3 : w.cell? ⟨bp, 3, none⟩ = some (.int .i64 s.steps)
  frz : ∀ o, w.frozen? ⟨bp, o, none⟩ = false
  harts : At w bh 0 (s.harts.flatMap hlist)
  hlt : bh < w.heap.size
  hfz : ∀ o, w.frozen? ⟨bh, o, none⟩ = false
  bytes : Ints .u8 w vm s.mem
  mlt : s.mem ≠ [] → ∀ k, vm.ownBlock = some k → bp < k ∧ k ≠ bh ∧ vo.ownBlock ≠ some k
  own : w.ownsRow (bh + 1) ty 1 vo s.out.length (s.out.map (Value.int .u32))
  hcap : s.harts.length ≤ hc ∧ hc ≤ maxLen
theorem ints_lt {k : IntKind} {w : World} {v : Value} {l : List Int} (h : Ints k w v l) (hl : l ≠ []) {g : Nat} (e : v.ownBlock = some g) : g < w.heap.size := by
  obtain ⟨ao, cap, rfl, _, _, _, ho⟩ := h.open
  obtain ⟨b, off, rfl, _, hx⟩ := ho hl
  cases e
  exact lt_of_cell (hx 0 (List.length_pos_iff.2 hl))
theorem ints_move {k : IntKind} {w w' : World} {v : Value} {l : List Int} (h : Ints k w v l) (hb : l ≠ [] → ∀ g, v.ownBlock = some g → w'.heap[g]? = w.heap[g]?) : Ints k w' v l := by
  by_cases hl : l = []
  · subst hl
    obtain ⟨h1, ao, cap, h2, h3, h4, h5, h6⟩ := h
    exact ⟨h1, ao, cap, h2, h3, h4, h5, fun a ha hx => absurd rfl hx⟩
  · exact sl_block h (hb hl)
section
variable {bp bh hc k : Nat} {vm vo : Value} {ty : TypeId} {w w' : World} {s : St}
theorem PB.lt (h : PB bp bh hc vm vo ty w s) : bp < w.heap.size := lt_of_cell h.c0
theorem PB.below (h : PB bp bh hc vm vo ty w s) (hb : Below w.heap.size w w') : PB bp bh hc vm vo ty w' s := by
  have e := hb.block bp h.lt
  have eh := hb.block bh h.hlt
  exact ⟨h.b1, (cell_block e _).trans h.c0, (cell_block e _).trans h.c1, (cell_block e _).trans h.c2, (cell_block e _).trans h.c3, fun o => (frozen_block e o).trans (h.frz o), h.harts.below hb, Nat.lt_of_lt_of_le h.hlt hb.size, fun o => (frozen_block eh o).trans (h.hfz o), h.bytes.below hb, h.mlt, owns_below h.own hb, h.hcap⟩
/-- the steps are told -/
theorem PB.tick (h : PB bp bh hc vm vo ty w s) (n : Nat) : PB bp bh hc vm vo ty (w.setCell ⟨bp, 3, none⟩ (.int .i64 n)) { s with steps := n } := by
  have b1 := h.b1
  have hbk : ∀ j, j ≠ bp → (w.setCell ⟨bp, 3, none⟩ (.int .i64 n)).heap[j]? = w.heap[j]? := fun j hj => Below.heap_setCell _ _ _ _ (by show j ≠ bp; exact hj)
  have hc : ∀ j, j ≠ 3 → (w.setCell ⟨bp, 3, none⟩ (.int .i64 n)).cell? ⟨bp, j, none⟩ = w.cell? ⟨bp, j, none⟩ := fun j hj => World.cell?_setCell_other _ _ _ _ (by intro e; injection e with _ e2; omega)
  exact ⟨h.b1, (hc 0 (by omega)).trans h.c0, (hc 1 (by omega)).trans h.c1, (hc 2 (by omega)).trans h.c2, World.cell?_setCell_same _ _ _ h.c3, fun o => (World.frozen?_setCell _ _ _ _).trans (h.frz o), h.harts.set_other (by show bp ≠ bh; omega) _, by have := h.hlt; simpa using this, fun o => (World.frozen?_setCell _ _ _ _).trans (h.hfz o), ints_move h.bytes (fun hm g hg => hbk g (by have := h.mlt hm g hg; omega)), h.mlt, owns_block h.own (fun g hg => hbk g (by have := h.own.lt g hg; omega)), h.hcap⟩
/-- the step's hart and bytes are laid -/
theorem PB.did {d : DidD} {c : CoreD} (h : PB bp bh hc vm vo ty w s) (wf : s.Wf) (wd : c.h.Wf) (hl : c.m.length = s.mem.length) (kl : k < s.harts.length) (hd : DidOf w d c) {S : Nat} (hS : bh < S) (hS2 : ∀ g, vo.ownBlock = some g → g < S)
    (hm : d.vm = vm ∨ ∀ q, d.vm.ownBlock = some q → S ≤ q) (ho : ∀ q, d.vo.ownBlock = some q → S ≤ q) :
    PB bp bh hc d.vm vo ty ((w.setCells bh (k * 37) (hlist d.h)).setCell ⟨bp, 0, none⟩ d.vm) ⟨s.harts.set k c.h, c.m, s.out, s.steps⟩ ∧
      Ints .u32 ((w.setCells bh (k * 37) (hlist d.h)).setCell ⟨bp, 0, none⟩ d.vm) d.vo c.out ∧ Below bp w ((w.setCells bh (k * 37) (hlist d.h)).setCell ⟨bp, 0, none⟩ d.vm) ∧
      (∀ g, g ≠ bp → g ≠ bh → ((w.setCells bh (k * 37) (hlist d.h)).setCell ⟨bp, 0, none⟩ d.vm).heap[g]? = w.heap[g]?) ∧ (w.setCells bh (k * 37) (hlist d.h)).there bh (k * 37) 37 := by
  have b1 := h.b1
  have hbk1 : ∀ j, j ≠ bh → (w.setCells bh (k * 37) (hlist d.h)).heap[j]? = w.heap[j]? := fun j hj => (by
    have : ∀ (vs : List Value) (o : Nat) (w : World), (w.setCells bh o vs).heap[j]? = w.heap[j]? := fun vs => by
      induction vs with
      | nil => intro _ _; rfl
      | cons v r ih => intro o w; rw [World.setCells, ih]; exact Below.heap_setCell _ _ _ _ (by show j ≠ bh; exact hj)
    exact this _ _ _)
  have hbk2 : ∀ j, j ≠ bp → ((w.setCells bh (k * 37) (hlist d.h)).setCell ⟨bp, 0, none⟩ d.vm).heap[j]? = (w.setCells bh (k * 37) (hlist d.h)).heap[j]? := fun j hj => Below.heap_setCell _ _ _ _ (by show j ≠ bp; exact hj)
  have hc0 : ∀ j, j ≠ 0 → ((w.setCells bh (k * 37) (hlist d.h)).setCell ⟨bp, 0, none⟩ d.vm).cell? ⟨bp, j, none⟩ = w.cell? ⟨bp, j, none⟩ := fun j hj => (World.cell?_setCell_other _ _ _ _ (by intro e; injection e with _ e2; omega)).trans (cell_block (hbk1 bp (by omega)) j)
  have hz : ((w.setCells bh (k * 37) (hlist d.h)).setCell ⟨bp, 0, none⟩ d.vm).heap.size = w.heap.size := by simp [size_setCells]
  have hof : ∀ b o, (w.setCells bh (k * 37) (hlist d.h)).frozen? ⟨b, o, none⟩ = w.frozen? ⟨b, o, none⟩ := fun b o => by rw [World.frozen?_setCells]
  have hll := hlist_length wd
  have hth : w.there bh (k * 37) 37 := by
    have hl37 := hlist_length (wf.harts _ (List.getElem_mem kl))
    exact there_at (at_hart h.harts (fun x hx => hlist_length (wf.harts x hx)) kl) hl37 h.hfz
  have hdl : (hlist d.h).length = 37 := by rw [hd.h]; exact hll
  have hsame : At (w.setCells bh (k * 37) (hlist d.h)) bh (k * 37) (hlist c.h) := by
    intro j hj
    have hr := World.rangeAt_setCells_same w bh (k * 37) (hlist d.h) (by rw [hdl]; exact hth)
    rw [← hd.h] at hj
    have := hr j (hlist d.h)[j] (by simp [hj])
    simp only [hd.h] at this ⊢
    exact this
  have hmb : c.m ≠ [] → ∀ g, d.vm.ownBlock = some g → bp < g ∧ g ≠ bh ∧ vo.ownBlock ≠ some g := fun hne g hg => by
    have hne' : s.mem ≠ [] := fun e => hne (List.eq_nil_of_length_eq_zero (by rw [hl, e]; rfl))
    rcases hm with e | e
    · rw [e] at hg; exact h.mlt hne' g hg
    · have := e g hg
      exact ⟨by omega, by omega, fun e2 => by have := hS2 g e2; omega⟩
  refine ⟨⟨h.b1, World.cell?_setCell_same _ _ _ ((cell_block (hbk1 bp (by omega)) 0).trans h.c0), (hc0 1 (by omega)).trans (by rw [h.c1]; simp), (hc0 2 (by omega)).trans h.c2, (hc0 3 (by omega)).trans h.c3, fun o => (World.frozen?_setCell _ _ _ _).trans ((hof bp o).trans (h.frz o)), ?_, by rw [hz]; exact h.hlt, fun o => (World.frozen?_setCell _ _ _ _).trans ((hof bh o).trans (h.hfz o)), ?_, hmb, ?_, by show (s.harts.set k c.h).length ≤ _ ∧ _; rw [List.length_set]; exact h.hcap⟩, ?_, ?_, fun g h1 h2 => (hbk2 g h1).trans (hbk1 g h2), World.there_setCells hth _ _ _⟩
  · refine At.set_other ?_ (by show bp ≠ bh; omega) _
    refine at_harts_set h.harts (fun x hx => hlist_length (wf.harts x hx)) hll hsame (fun o ho => ?_)
    exact World.cell?_setCells_out _ _ _ _ _ (fun _ hs => by rw [hdl]; exact ho)
  · exact ints_move hd.m (fun hne g hg => by have := hmb hne g hg; exact (hbk2 g (by omega)).trans (hbk1 g this.2.1))
  · exact owns_block h.own (fun g hg => by have := h.own.lt g hg; exact (hbk2 g (by omega)).trans (hbk1 g (by omega)))
  · exact ints_move hd.o (fun _ g hg => by have := ho g hg; exact (hbk2 g (by omega)).trans (hbk1 g (by omega)))
  · exact (below_setCells (B := bp) (by omega) _ _ _ (Below.refl bp w)).setCell (p := ⟨bp, 0, none⟩) (Nat.le_refl bp) _
/-- what came out is laid behind what had come out -/
theorem PB.out {v' : Value} {o : List Int} (h : PB bp bh hc vm vo ty w s) (hown : w'.ownsRow (bh + 1) ty 1 v' (s.out.length + o.length) (s.out.map (Value.int .u32) ++ o.map (Value.int .u32))) (hg : w.grownBy w' vo.ownBlock) (hf : ∀ k, v'.ownBlock = some k → vo.ownBlock = some k ∨ w.heap.size ≤ k) :
    PB bp bh hc vm v' ty (w'.setCell ⟨bp, 2, none⟩ v') { s with out := s.out ++ o } ∧ Below bp w (w'.setCell ⟨bp, 2, none⟩ v') ∧ (∀ g, g < w.heap.size → g ≠ bp → vo.ownBlock ≠ some g → (w'.setCell ⟨bp, 2, none⟩ v').heap[g]? = w.heap[g]?) := by
  have b1 := h.b1
  have hlt := h.lt
  have hh := h.hlt
  have hsz := hg.size
  have hfar : ∀ j, j < w.heap.size → vo.ownBlock ≠ some j → w'.heap[j]? = w.heap[j]? := fun j hj hn => hg.block j hj (fun e => hn e.symm)
  have hbk : ∀ j, j ≠ bp → (w'.setCell ⟨bp, 2, none⟩ v').heap[j]? = w'.heap[j]? := fun j hj => Below.heap_setCell _ _ _ _ (by show j ≠ bp; exact hj)
  have hno : ∀ j, j ≤ bh → vo.ownBlock ≠ some j := fun j hj e => by have := h.own.lt j e; omega
  have e := hfar bp hlt (hno bp (by omega))
  have eh := (hbk bh (by omega)).trans (hfar bh hh (hno bh (Nat.le_refl _)))
  have hcc : ∀ j, j ≠ 2 → (w'.setCell ⟨bp, 2, none⟩ v').cell? ⟨bp, j, none⟩ = w.cell? ⟨bp, j, none⟩ := fun j hj => (World.cell?_setCell_other _ _ _ _ (by intro e; injection e with _ e2; omega)).trans (cell_block e j)
  refine ⟨⟨h.b1, (hcc 0 (by omega)).trans h.c0, (hcc 1 (by omega)).trans h.c1, World.cell?_setCell_same _ _ _ ((cell_block e 2).trans h.c2), (hcc 3 (by omega)).trans h.c3, fun o => (World.frozen?_setCell _ _ _ _).trans ((frozen_block e o).trans (h.frz o)), fun j hj => (cell_block eh _).trans (h.harts j hj), by simp; omega, fun o => (frozen_block eh o).trans (h.hfz o), ints_move h.bytes (fun hne g hg' => ?_), fun hne g hg' => ?_, ?_, h.hcap⟩, ?_, fun g h1 h2 h3 => (hbk g h2).trans (hfar g h1 h3)⟩
  · have := h.mlt hne g hg'
    exact (hbk g (by omega)).trans (hfar g (ints_lt h.bytes hne hg') this.2.2)
  · have := h.mlt hne g hg'
    refine ⟨this.1, this.2.1, fun e2 => ?_⟩
    have hl := ints_lt h.bytes hne hg'
    rcases hf g e2 with e3 | e3
    · exact this.2.2 e3
    · omega
  · have := ownsRow_setCell_below hown (a := ⟨bp, 2, none⟩) (by show bp < bh + 1; omega) v'
    simpa using this
  · exact ((Below.refl bp w).grown hg (by omega) (fun g e => by have := h.own.lt g e; omega)).setCell (p := ⟨bp, 2, none⟩) (Nat.le_refl _) _
/-- others have lost what they had reserved -/
theorem PB.lost {hs : List Hart} (h : PB bp bh hc vm vo ty w s) (hl : hs.length = s.harts.length) (ha : At w' bh 0 (hs.flatMap hlist)) (hg : Chg (fun p => p.block = bh) w w') :
    PB bp bh hc vm vo ty w' { s with harts := hs } := by
  have b1 := h.b1
  have hlt := h.lt
  have hh := h.hlt
  have hsz := hg.size
  have hbk : ∀ j, j < w.heap.size → j ≠ bh → w'.heap[j]? = w.heap[j]? := fun j hj hn => hg.block j hj (fun o e => hn e)
  have e := hbk bp hlt (by omega)
  exact ⟨h.b1, (cell_block e _).trans h.c0, (cell_block e _).trans (by rw [h.c1, ← hl]), (cell_block e _).trans h.c2, (cell_block e _).trans h.c3, fun o => (frozen_block e o).trans (h.frz o), ha, by omega, fun o => (hg.frozen ⟨bh, o, none⟩ hh).trans (h.hfz o), ints_move h.bytes (fun hne g hg' => hbk g (ints_lt h.bytes hne hg') (h.mlt hne g hg').2.1), h.mlt, owns_block h.own (fun g hg' => hbk g (h.own.lt g hg').2 (by have := h.own.lt g hg'; omega)), by rw [show ({ s with harts := hs } : St).harts.length = s.harts.length from hl]; exact h.hcap⟩
end
end Go.Proofs.Ytlfnddmncbkjaab.Fb

/- Blocks that are kept: plain. No program in sight. -/
namespace Go.Proofs.Ytlfnddmncbkjaab.Fb
set_option linter.unusedVariables false
set_option linter.unusedSimpArgs false
open Go.RowKit
/-- a block as it lies in a row: where it begins, the slice, what that holds -/
structure BlkD where
  pc : Int
  vi : Value
  ins : List InsD
def blist (x : BlkD) : List Value := [.int .u32 x.pc, x.vi]
structure BlkOk (w : World) (x : BlkD) : Prop where
  at_ : BlockAt w x.vi x.ins
  pc : U32 x.pc
theorem BlkOk.below {w w' : World} {x : BlkD} (h : BlkOk w x) (hb : Below w.heap.size w w') : BlkOk w' x := ⟨Sl.below h.at_ hb, h.pc⟩
def Blks (w : World) (v : Value) (l : List BlkD) : Prop := Sl w v 2 l.length (l.flatMap blist) ∧ ∀ x ∈ l, BlkOk w x
theorem Blks.below {w w' : World} {v : Value} {l : List BlkD} (h : Blks w v l) (hb : Below w.heap.size w w') : Blks w' v l := ⟨Sl.below h.1 hb, fun x hx => (h.2 x hx).below hb⟩
theorem blist_one {w : World} {x : BlkD} (h : BlkOk w x) : ∀ u ∈ blist x, u.oneCell' = true := by
  obtain ⟨ao, cap, e, _⟩ := h.at_.open (fun _ _ => rfl) (by omega)
  intro u hu
  simp only [blist, List.mem_cons, List.not_mem_nil, or_false] at hu
  rcases hu with rfl | rfl
  · rfl
  · rw [e]; rfl
/-- where the first one of a place is; as many as there are: nowhere -/
def placeN (l : List BlkD) (pc : Int) : Nat := l.findIdx (fun x => x.pc == pc)
def placeI (l : List BlkD) (pc : Int) : Int := if placeN l pc < l.length then (placeN l pc : Int) else -1
theorem placeI_at {l : List BlkD} {pc : Int} {k : Nat} (hk : k < l.length) (h : l[k].pc = pc) (hn : ∀ j (hj : j < k), l[j].pc ≠ pc) : placeI l pc = k := by
  have e : placeN l pc = k := by
    refine Nat.le_antisymm ?_ ?_
    · refine Nat.le_of_not_lt (fun hlt => ?_)
      have := List.not_of_lt_findIdx hlt
      simp [h] at this
    · refine Nat.le_of_not_lt (fun hlt => ?_)
      have h2 : placeN l pc < l.length := by omega
      have : (l[placeN l pc].pc == pc) = true := List.findIdx_getElem (p := fun x : BlkD => x.pc == pc) (xs := l) (w := h2)
      exact hn _ hlt (by simpa using this)
  unfold placeI; rw [e, if_pos hk]
theorem placeI_no {l : List BlkD} {pc : Int} (hn : ∀ j (hj : j < l.length), l[j].pc ≠ pc) : placeI l pc = -1 := by
  unfold placeI
  rw [if_neg]
  intro h
  have : (l[placeN l pc].pc == pc) = true := List.findIdx_getElem (p := fun x : BlkD => x.pc == pc) (xs := l) (w := h)
  exact hn _ h (by simpa using this)
end Go.Proofs.Ytlfnddmncbkjaab.Fb
