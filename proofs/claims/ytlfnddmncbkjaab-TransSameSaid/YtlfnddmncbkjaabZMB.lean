import Derived.Test.YtlfnddmncbkjaabZMA
import Derived.Test.YtlfnddmncbkjaabZFbEnc
import Derived.Test.YtlfnddmncbkjaabZFbEnc3
import Derived.Deep.MidRow
import Derived.StillTailTactics
set_option linter.unusedVariables false
set_option linter.unusedSimpArgs false
set_option maxRecDepth 100000
set_option maxHeartbeats 4000000
namespace Go.Proofs.Ytlfnddmncbkjaab.Fb
open Go.RowKit
structure MicD where
  op : Int
  d : Int
  a : Int
  b : Int
  n : Int
deriving DecidableEq
def mlist (m : MicD) : List Value := [.int .i64 m.op, .int .i64 m.d, .int .i64 m.a, .int .i64 m.b, .int .u32 m.n]
theorem mlist_one (m : MicD) : ∀ u ∈ mlist m, u.oneCell' = true := by
  intro u hu
  simp only [mlist, List.mem_cons, List.not_mem_nil, or_false] at hu
  rcases hu with rfl | rfl | rfl | rfl | rfl <;> rfl
def namedI (op : Int) : Int :=
  if op = 1 ∨ op = 3 then 8 else if op = 2 then 9 else if op = 4 then 10 else if op = 5 ∨ op = 6 then 0
  else if op - op.tmod 100 = 100 then (if 5 ≤ op.tmod 100 ∧ op.tmod 100 ≤ 10 then 14 else -1)
  else if op - op.tmod 100 = 200 then (if 11 ≤ op.tmod 100 ∧ op.tmod 100 ≤ 15 then 11 else -1)
  else if op - op.tmod 100 = 300 then (if 16 ≤ op.tmod 100 ∧ op.tmod 100 ≤ 18 then 14 else -1)
  else if op - op.tmod 100 = 400 then (if 28 ≤ op.tmod 100 ∧ op.tmod 100 ≤ 45 then 7 else -1)
  else if op - op.tmod 100 = 500 then (if 28 ≤ op.tmod 100 ∧ op.tmod 100 ≤ 45 then 11 else -1)
  else if op - op.tmod 100 = 600 then (if 46 ≤ op.tmod 100 ∧ op.tmod 100 ≤ 56 then 7 else -1)
  else -1
def regOk (has : Bool) (r : Int) : Bool := !(!has && r != 0) && decide (0 ≤ r) && decide (r < 36)
def mayM (m : MicD) : Bool :=
  !(decide (namedI m.op < 0)) && !(decide (namedI m.op < 8) && m.n != 0) && regOk (decide ((namedI m.op).tmod 2 = 1)) m.d && regOk (decide (((namedI m.op).tdiv 2).tmod 2 = 1)) m.a && regOk (decide (((namedI m.op).tdiv 4).tmod 2 = 1)) m.b
def mayL (l : List MicD) : Bool := decide (l.length ≤ 200) && l.all mayM
def numOp (op : Int) : Int := if op = 19 then 28 else if op = 20 then 31 else if op = 21 then 32 else if op = 22 then 33 else if op = 23 then 36 else if op = 24 then 37 else if op = 25 then 30 else if op = 26 then 34 else 35
def numM (op rd rs1 n : Int) : List MicD :=
  if rd = 0 then []
  else if rs1 = 0 ∧ (op = 28 ∨ op = 36 ∨ op = 33) then [⟨2, rd, 0, 0, n⟩]
  else if rs1 = 0 ∧ (op = 37 ∨ op = 30 ∨ op = 34 ∨ op = 35) then [⟨2, rd, 0, 0, 0⟩]
  else [⟨500 + op, rd, rs1, 0, n⟩]
def u32 (x : Int) : Int := x % 4294967296
def bodyM (i : InsD) (pc : Int) : List MicD :=
  if i.op = 1 then [⟨2, i.rd, 0, 0, u32 i.imm⟩]
  else if i.op = 2 then [⟨2, i.rd, 0, 0, u32 (pc + u32 i.imm)⟩]
  else if i.op = 3 then [⟨2, i.rd, 0, 0, u32 (pc + 4)⟩, ⟨3, 0, 0, 0, u32 (pc + u32 i.imm)⟩]
  else if i.op = 4 then [⟨528, 32, i.rs1, 0, u32 i.imm⟩, ⟨2, i.rd, 0, 0, u32 (pc + 4)⟩, ⟨4, 0, 32, 0, 0⟩]
  else if i.op ≤ 10 then [⟨100 + i.op, 0, i.rs1, i.rs2, u32 (pc + u32 i.imm)⟩]
  else if i.op ≤ 15 then [⟨200 + i.op, i.rd, i.rs1, 0, u32 i.imm⟩]
  else if i.op ≤ 18 then [⟨300 + i.op, 0, i.rs1, i.rs2, u32 i.imm⟩]
  else if i.op ≤ 27 then numM (numOp i.op) i.rd i.rs1 (u32 i.imm)
  else if i.op ≤ 45 then (if i.rd = 0 then [] else [⟨400 + i.op, i.rd, i.rs1, i.rs2, 0⟩])
  else if i.op ≤ 56 then [⟨600 + i.op, i.rd, i.rs1, i.rs2, 0⟩]
  else if i.op = 58 then [⟨5, 0, 0, 0, 0⟩]
  else if i.op = 59 then [⟨6, 0, 0, 0, 0⟩]
  else []
def insM (i : InsD) (pc : Int) : List MicD := ⟨1, 0, 0, 0, pc⟩ :: bodyM i pc
def rowM (pc : Int) : Nat → List InsD → List MicD
  | _, [] => []
  | k, i :: r => insM i (u32 (pc + u32 (4 * (k : Int)))) ++ rowM pc (k + 1) r
def mkM (pc : Int) (l : List InsD) : List MicD := if 16 < l.length ∨ l.all isS = false then [] else rowM pc 0 l
theorem numM_len (op rd rs1 n : Int) : (numM op rd rs1 n).length ≤ 3 := by
  unfold numM
  by_cases c1 : rd = 0
  · rw [if_pos c1]; decide
  rw [if_neg c1]
  by_cases c2 : rs1 = 0 ∧ (op = 28 ∨ op = 36 ∨ op = 33)
  · rw [if_pos c2]; simp
  rw [if_neg c2]
  by_cases c3 : rs1 = 0 ∧ (op = 37 ∨ op = 30 ∨ op = 34 ∨ op = 35)
  · rw [if_pos c3]; simp
  rw [if_neg c3]; simp
theorem bodyM_len (i : InsD) (pc : Int) : (bodyM i pc).length ≤ 3 := by
  unfold bodyM
  by_cases c0 : i.op = 1
  · rw [if_pos c0]; simp
  rw [if_neg c0]
  by_cases c1 : i.op = 2
  · rw [if_pos c1]; simp
  rw [if_neg c1]
  by_cases c2 : i.op = 3
  · rw [if_pos c2]; simp
  rw [if_neg c2]
  by_cases c3 : i.op = 4
  · rw [if_pos c3]; simp
  rw [if_neg c3]
  by_cases c4 : i.op ≤ 10
  · rw [if_pos c4]; simp
  rw [if_neg c4]
  by_cases c5 : i.op ≤ 15
  · rw [if_pos c5]; simp
  rw [if_neg c5]
  by_cases c6 : i.op ≤ 18
  · rw [if_pos c6]; simp
  rw [if_neg c6]
  by_cases d1 : i.op ≤ 27
  · rw [if_pos d1]; exact numM_len _ _ _ _
  rw [if_neg d1]
  by_cases d2 : i.op ≤ 45
  · rw [if_pos d2]
    by_cases d3 : i.rd = 0
    · rw [if_pos d3]; decide
    · rw [if_neg d3]; simp
  rw [if_neg d2]
  by_cases d4 : i.op ≤ 56
  · rw [if_pos d4]; simp
  rw [if_neg d4]
  by_cases d5 : i.op = 58
  · rw [if_pos d5]; simp
  rw [if_neg d5]
  by_cases d6 : i.op = 59
  · rw [if_pos d6]; simp
  rw [if_neg d6]; decide
theorem rowM_len (pc : Int) : ∀ (l : List InsD) (k : Nat), (rowM pc k l).length ≤ 4 * l.length
  | [], _ => Nat.zero_le _
  | i :: r, k => by
    have := rowM_len pc r (k + 1)
    have h2 := bodyM_len i (u32 (pc + u32 (4 * (k : Int))))
    simp only [rowM, insM, List.length_append, List.length_cons]
    omega
theorem mkM_len (pc : Int) (l : List InsD) : (mkM pc l).length ≤ 4 * l.length := by
  unfold mkM; split
  · simp
  · exact rowM_len pc l 0
theorem isS_regs {i : InsD} (h : isS i = true) : (1 ≤ i.op ∧ i.op ≤ 59) ∧ (0 ≤ i.rd ∧ i.rd ≤ 31) ∧ (0 ≤ i.rs1 ∧ i.rs1 ≤ 31) ∧ (0 ≤ i.rs2 ∧ i.rs2 ≤ 31) := by
  unfold isS at h
  rw [Bool.and_eq_true] at h
  have := of_decide_eq_true h.1
  omega
theorem regOk_has {r : Int} (h : 0 ≤ r ∧ r < 36) : regOk true r = true := by simp [regOk, h]
theorem regOk_zero (b : Bool) : regOk b 0 = true := by cases b <;> rfl
theorem mayM_has {m : MicD} (k : Int) (hk : namedI m.op = k) (h0 : 0 ≤ k) (hn : k < 8 → m.n = 0) (hd : regOk (decide (k.tmod 2 = 1)) m.d = true) (ha : regOk (decide ((k.tdiv 2).tmod 2 = 1)) m.a = true) (hb : regOk (decide ((k.tdiv 4).tmod 2 = 1)) m.b = true) : mayM m = true := by
  unfold mayM
  rw [hk, hd, ha, hb]
  have h1 : decide (k < 0) = false := by simp; omega
  rw [h1]
  by_cases h8 : k < 8
  · rw [hn h8]; simp
  · have : decide (k < 8) = false := by simp; omega
    rw [this]; simp
theorem named_at (c s : Int) (hc : c = 100 ∨ c = 200 ∨ c = 300 ∨ c = 400 ∨ c = 500 ∨ c = 600) (h0 : 0 ≤ s) (h1 : s < 100) : (c + s).tmod 100 = s ∧ c + s - (c + s).tmod 100 = c := by
  have : (c + s).tmod 100 = s := by
    rw [Int.tmod_eq_emod_of_nonneg (by omega)]; omega
  omega
theorem named_if {s : Int} (h : 5 ≤ s ∧ s ≤ 10) : namedI (100 + s) = 14 := by
  obtain ⟨h1, h2⟩ := named_at 100 s (by omega) (by omega) (by omega)
  unfold namedI; rw [h2, h1]; repeat' split
  all_goals (first | rfl | omega)
theorem named_load {s : Int} (h : 11 ≤ s ∧ s ≤ 15) : namedI (200 + s) = 11 := by
  obtain ⟨h1, h2⟩ := named_at 200 s (by omega) (by omega) (by omega)
  unfold namedI; rw [h2, h1]; repeat' split
  all_goals (first | rfl | omega)
theorem named_store {s : Int} (h : 16 ≤ s ∧ s ≤ 18) : namedI (300 + s) = 14 := by
  obtain ⟨h1, h2⟩ := named_at 300 s (by omega) (by omega) (by omega)
  unfold namedI; rw [h2, h1]; repeat' split
  all_goals (first | rfl | omega)
theorem named_alu {s : Int} (h : 28 ≤ s ∧ s ≤ 45) : namedI (400 + s) = 7 := by
  obtain ⟨h1, h2⟩ := named_at 400 s (by omega) (by omega) (by omega)
  unfold namedI; rw [h2, h1]; repeat' split
  all_goals (first | rfl | omega)
theorem named_alun {s : Int} (h : 28 ≤ s ∧ s ≤ 45) : namedI (500 + s) = 11 := by
  obtain ⟨h1, h2⟩ := named_at 500 s (by omega) (by omega) (by omega)
  unfold namedI; rw [h2, h1]; repeat' split
  all_goals (first | rfl | omega)
theorem named_atom {s : Int} (h : 46 ≤ s ∧ s ≤ 56) : namedI (600 + s) = 7 := by
  obtain ⟨h1, h2⟩ := named_at 600 s (by omega) (by omega) (by omega)
  unfold namedI; rw [h2, h1]; repeat' split
  all_goals (first | rfl | omega)
theorem numOp_in (op : Int) : 28 ≤ numOp op ∧ numOp op ≤ 45 := by
  unfold numOp; repeat' split
  all_goals omega
theorem may_set {r n : Int} (h : 0 ≤ r ∧ r < 36) : mayM ⟨2, r, 0, 0, n⟩ = true := mayM_has 9 rfl (by omega) (by omega) (regOk_has h) (regOk_zero _) (regOk_zero _)
theorem may_alun {s d a n : Int} (h : 28 ≤ s ∧ s ≤ 45) (hd : 0 ≤ d ∧ d < 36) (ha : 0 ≤ a ∧ a < 36) : mayM ⟨500 + s, d, a, 0, n⟩ = true := mayM_has 11 (named_alun h) (by omega) (by omega) (regOk_has hd) (regOk_has ha) (regOk_zero _)
theorem bodyM_may {i : InsD} (h : isS i = true) (pc : Int) : ∀ m ∈ bodyM i pc, mayM m = true := by
  obtain ⟨h1, h2, h3, h4⟩ := isS_regs h
  clear h
  intro m hm
  unfold bodyM at hm
  by_cases c1 : i.op = 1
  · rw [if_pos c1] at hm
    rw [List.mem_singleton] at hm; subst hm
    exact may_set (by omega)
  rw [if_neg c1] at hm
  by_cases c2 : i.op = 2
  · rw [if_pos c2] at hm
    rw [List.mem_singleton] at hm; subst hm
    exact may_set (by omega)
  rw [if_neg c2] at hm
  by_cases c3 : i.op = 3
  · rw [if_pos c3] at hm
    simp only [List.mem_cons, List.not_mem_nil, or_false] at hm
    rcases hm with rfl | rfl
    · exact may_set (by omega)
    · exact mayM_has 8 rfl (by omega) (by omega) (regOk_zero _) (regOk_zero _) (regOk_zero _)
  rw [if_neg c3] at hm
  by_cases c4 : i.op = 4
  · rw [if_pos c4] at hm
    simp only [List.mem_cons, List.not_mem_nil, or_false] at hm
    rcases hm with rfl | rfl | rfl
    · exact may_alun (s := 28) (by omega) (by omega) (by omega)
    · exact may_set (by omega)
    · exact mayM_has 10 rfl (by omega) (by omega) (regOk_zero _) (regOk_has (by dsimp only; omega)) (regOk_zero _)
  rw [if_neg c4] at hm
  by_cases c5 : i.op ≤ 10
  · rw [if_pos c5] at hm
    rw [List.mem_singleton] at hm; subst hm
    exact mayM_has 14 (named_if (by omega)) (by omega) (by omega) (regOk_zero _) (regOk_has (by dsimp only; omega)) (regOk_has (by dsimp only; omega))
  rw [if_neg c5] at hm
  by_cases c6 : i.op ≤ 15
  · rw [if_pos c6] at hm
    rw [List.mem_singleton] at hm; subst hm
    exact mayM_has 11 (named_load (by omega)) (by omega) (by omega) (regOk_has (by dsimp only; omega)) (regOk_has (by dsimp only; omega)) (regOk_zero _)
  rw [if_neg c6] at hm
  by_cases c7 : i.op ≤ 18
  · rw [if_pos c7] at hm
    rw [List.mem_singleton] at hm; subst hm
    exact mayM_has 14 (named_store (by omega)) (by omega) (by omega) (regOk_zero _) (regOk_has (by dsimp only; omega)) (regOk_has (by dsimp only; omega))
  rw [if_neg c7] at hm
  by_cases c8 : i.op ≤ 27
  · rw [if_pos c8] at hm
    have hn := numOp_in i.op
    unfold numM at hm
    by_cases d1 : i.rd = 0
    · rw [if_pos d1] at hm; cases hm
    rw [if_neg d1] at hm
    generalize numOp i.op = q at hn hm
    by_cases d2 : i.rs1 = 0 ∧ (q = 28 ∨ q = 36 ∨ q = 33)
    · rw [if_pos d2] at hm; rw [List.mem_singleton] at hm; subst hm; exact may_set (by omega)
    rw [if_neg d2] at hm
    by_cases d3 : i.rs1 = 0 ∧ (q = 37 ∨ q = 30 ∨ q = 34 ∨ q = 35)
    · rw [if_pos d3] at hm; rw [List.mem_singleton] at hm; subst hm; exact may_set (by omega)
    rw [if_neg d3] at hm
    rw [List.mem_singleton] at hm; subst hm
    exact may_alun hn (by omega) (by omega)
  rw [if_neg c8] at hm
  by_cases c9 : i.op ≤ 45
  · rw [if_pos c9] at hm
    by_cases d1 : i.rd = 0
    · rw [if_pos d1] at hm; cases hm
    rw [if_neg d1] at hm
    rw [List.mem_singleton] at hm; subst hm
    exact mayM_has 7 (named_alu (by omega)) (by omega) (fun _ => rfl) (regOk_has (by dsimp only; omega)) (regOk_has (by dsimp only; omega)) (regOk_has (by dsimp only; omega))
  rw [if_neg c9] at hm
  by_cases c10 : i.op ≤ 56
  · rw [if_pos c10] at hm
    rw [List.mem_singleton] at hm; subst hm
    exact mayM_has 7 (named_atom (by omega)) (by omega) (fun _ => rfl) (regOk_has (by dsimp only; omega)) (regOk_has (by dsimp only; omega)) (regOk_has (by dsimp only; omega))
  rw [if_neg c10] at hm
  by_cases c11 : i.op = 58
  · rw [if_pos c11] at hm
    rw [List.mem_singleton] at hm; subst hm
    rfl
  rw [if_neg c11] at hm
  by_cases c12 : i.op = 59
  · rw [if_pos c12] at hm
    rw [List.mem_singleton] at hm; subst hm
    rfl
  rw [if_neg c12] at hm
  cases hm
theorem rowM_may (pc : Int) : ∀ (l : List InsD) (k : Nat), l.all isS = true → (rowM pc k l).all mayM = true
  | [], _, _ => rfl
  | i :: r, k, h => by
    simp only [List.all_cons, Bool.and_eq_true] at h
    simp only [rowM, insM, List.all_append, List.all_cons, Bool.and_eq_true]
    exact ⟨⟨rfl, List.all_eq_true.2 (bodyM_may h.1 _)⟩, rowM_may pc r (k + 1) h.2⟩
theorem mkM_may (pc : Int) (l : List InsD) : mayL (mkM pc l) = true := by
  have h := mkM_len pc l
  unfold mayL
  rw [Bool.and_eq_true, decide_eq_true_eq]
  unfold mkM at h ⊢
  split
  · exact ⟨by simp, rfl⟩
  · rename_i hc
    rw [if_neg hc] at h
    have hl : ¬ 16 < l.length := fun e => hc (.inl e)
    have ha : l.all isS = true := by
      cases e : l.all isS
      · exact absurd (.inr e) hc
      · rfl
    exact ⟨by omega, rowM_may pc l 0 ha⟩
end Go.Proofs.Ytlfnddmncbkjaab.Fb
namespace Go.Proofs.Ytlfnddmncbkjaab.Fb
open Go.RowKit
structure MicD.Ok (m : MicD) : Prop where
  op : -9223372036854775808 ≤ m.op ∧ m.op ≤ 9223372036854775807
  d : -9223372036854775808 ≤ m.d ∧ m.d ≤ 9223372036854775807
  a : -9223372036854775808 ≤ m.a ∧ m.a ≤ 9223372036854775807
  b : -9223372036854775808 ≤ m.b ∧ m.b ≤ 9223372036854775807
  n : U32 m.n
theorem u32_ok (x : Int) : U32 (u32 x) := by unfold u32; exact ⟨by omega, by omega⟩
theorem u32_0 : U32 0 := ⟨by omega, by omega⟩
theorem bodyM_opn {i : InsD} (h : isS i = true) (pc : Int) : ∀ m ∈ bodyM i pc, (1 ≤ m.op ∧ m.op ≤ 656) ∧ U32 m.n := by
  obtain ⟨h1, -⟩ := isS_regs h
  clear h
  intro m hm
  unfold bodyM at hm
  by_cases c1 : i.op = 1
  · rw [if_pos c1] at hm
    rw [List.mem_singleton] at hm; subst hm
    exact ⟨by dsimp only; omega, u32_ok _⟩
  rw [if_neg c1] at hm
  by_cases c2 : i.op = 2
  · rw [if_pos c2] at hm
    rw [List.mem_singleton] at hm; subst hm
    exact ⟨by dsimp only; omega, u32_ok _⟩
  rw [if_neg c2] at hm
  by_cases c3 : i.op = 3
  · rw [if_pos c3] at hm
    simp only [List.mem_cons, List.not_mem_nil, or_false] at hm
    rcases hm with rfl | rfl
    · exact ⟨by dsimp only; omega, u32_ok _⟩
    · exact ⟨by dsimp only; omega, u32_ok _⟩
  rw [if_neg c3] at hm
  by_cases c4 : i.op = 4
  · rw [if_pos c4] at hm
    simp only [List.mem_cons, List.not_mem_nil, or_false] at hm
    rcases hm with rfl | rfl | rfl
    · exact ⟨by dsimp only; omega, u32_ok _⟩
    · exact ⟨by dsimp only; omega, u32_ok _⟩
    · exact ⟨by dsimp only; omega, u32_0⟩
  rw [if_neg c4] at hm
  by_cases c5 : i.op ≤ 10
  · rw [if_pos c5] at hm
    rw [List.mem_singleton] at hm; subst hm
    exact ⟨by dsimp only; omega, u32_ok _⟩
  rw [if_neg c5] at hm
  by_cases c6 : i.op ≤ 15
  · rw [if_pos c6] at hm
    rw [List.mem_singleton] at hm; subst hm
    exact ⟨by dsimp only; omega, u32_ok _⟩
  rw [if_neg c6] at hm
  by_cases c7 : i.op ≤ 18
  · rw [if_pos c7] at hm
    rw [List.mem_singleton] at hm; subst hm
    exact ⟨by dsimp only; omega, u32_ok _⟩
  rw [if_neg c7] at hm
  by_cases c8 : i.op ≤ 27
  · rw [if_pos c8] at hm
    have hn := numOp_in i.op
    unfold numM at hm
    by_cases d1 : i.rd = 0
    · rw [if_pos d1] at hm; cases hm
    rw [if_neg d1] at hm
    generalize numOp i.op = q at hn hm
    by_cases d2 : i.rs1 = 0 ∧ (q = 28 ∨ q = 36 ∨ q = 33)
    · rw [if_pos d2] at hm; rw [List.mem_singleton] at hm; subst hm; exact ⟨by dsimp only; omega, u32_ok _⟩
    rw [if_neg d2] at hm
    by_cases d3 : i.rs1 = 0 ∧ (q = 37 ∨ q = 30 ∨ q = 34 ∨ q = 35)
    · rw [if_pos d3] at hm; rw [List.mem_singleton] at hm; subst hm; exact ⟨by dsimp only; omega, u32_0⟩
    rw [if_neg d3] at hm
    rw [List.mem_singleton] at hm; subst hm
    exact ⟨by dsimp only; omega, u32_ok _⟩
  rw [if_neg c8] at hm
  by_cases c9 : i.op ≤ 45
  · rw [if_pos c9] at hm
    by_cases d1 : i.rd = 0
    · rw [if_pos d1] at hm; cases hm
    rw [if_neg d1] at hm
    rw [List.mem_singleton] at hm; subst hm
    exact ⟨by dsimp only; omega, u32_0⟩
  rw [if_neg c9] at hm
  by_cases c10 : i.op ≤ 56
  · rw [if_pos c10] at hm
    rw [List.mem_singleton] at hm; subst hm
    exact ⟨by dsimp only; omega, u32_0⟩
  rw [if_neg c10] at hm
  by_cases c11 : i.op = 58
  · rw [if_pos c11] at hm
    rw [List.mem_singleton] at hm; subst hm
    exact ⟨by dsimp only; omega, u32_0⟩
  rw [if_neg c11] at hm
  by_cases c12 : i.op = 59
  · rw [if_pos c12] at hm
    rw [List.mem_singleton] at hm; subst hm
    exact ⟨by dsimp only; omega, u32_0⟩
  rw [if_neg c12] at hm
  cases hm
theorem regOk_in {b : Bool} {r : Int} (h : regOk b r = true) : 0 ≤ r ∧ r < 36 := by
  unfold regOk at h
  simp at h
  omega
theorem mayM_regs {m : MicD} (h : mayM m = true) : (0 ≤ m.d ∧ m.d < 36) ∧ (0 ≤ m.a ∧ m.a < 36) ∧ (0 ≤ m.b ∧ m.b < 36) := by
  unfold mayM at h
  rw [Bool.and_eq_true, Bool.and_eq_true, Bool.and_eq_true] at h
  exact ⟨regOk_in h.1.1.2, regOk_in h.1.2, regOk_in h.2⟩
theorem rowM_opn (pc : Int) : ∀ (l : List InsD) (k : Nat), l.all isS = true → ∀ m ∈ rowM pc k l, (1 ≤ m.op ∧ m.op ≤ 656) ∧ U32 m.n
  | [], _, _, m, hm => by cases hm
  | i :: r, k, h, m, hm => by
    simp only [List.all_cons, Bool.and_eq_true] at h
    simp only [rowM, insM, List.mem_append, List.mem_cons] at hm
    rcases hm with (hm | hm) | hm
    · subst hm; exact ⟨by dsimp only; omega, u32_ok _⟩
    · exact bodyM_opn h.1 _ m hm
    · exact rowM_opn pc r (k + 1) h.2 m hm
theorem mkM_ok (pc : Int) (l : List InsD) : ∀ m ∈ mkM pc l, m.Ok := fun m hm => by
  have h1 := mkM_may pc l
  unfold mayL at h1
  rw [Bool.and_eq_true, List.all_eq_true] at h1
  have h2 := mayM_regs (h1.2 m hm)
  have h3 : (1 ≤ m.op ∧ m.op ≤ 656) ∧ U32 m.n := by
    unfold mkM at hm
    split at hm
    · cases hm
    · rename_i hc
      have ha : l.all isS = true := by
        cases e : l.all isS
        · exact absurd (.inr e) hc
        · rfl
      exact rowM_opn pc l 0 ha m hm
  exact ⟨by omega, by omega, by omega, by omega, h3.2⟩
theorem rowS_is (l : List Int) : ∀ n pc, ∀ i ∈ rowS l n pc, isS i = true ∧ I32 i.imm
  | 0, _, i, hi => by cases hi
  | n + 1, pc, i, hi => by
    unfold rowS at hi
    split at hi
    · cases hd : dec (mLoad l 13 pc) with
      | none => rw [hd] at hi; cases hi
      | some x =>
        rw [hd] at hi
        dsimp only at hi
        rcases List.mem_cons.1 hi with rfl | hi
        · exact dec_is _ _ hd
        · split at hi
          · cases hi
          · exact rowS_is l n _ i hi
    · cases hi
theorem makeS_is (l : List Int) (pc : Int) : ∀ i ∈ (makeS l pc).2, isS i = true ∧ I32 i.imm := fun i hi => by
  unfold makeS at hi
  split at hi
  · cases hi
  · exact rowS_is l 16 pc i hi
end Go.Proofs.Ytlfnddmncbkjaab.Fb
namespace Go.Proofs.Ytlfnddmncbkjaab.Fb
open Go.RowKit
theorem mLoad_u (l : List Int) (op pc : Int) (hop : 11 ≤ op ∧ op ≤ 15) (hpc : U32 pc) (hb : ∀ i, 0 ≤ l.getD i 0 ∧ l.getD i 0 < 256) : U32 (mLoad l op pc) := by
  by_cases h : mLoadOk l op pc = true
  · obtain ⟨k, rfl⟩ := Int.eq_ofNat_of_zero_le hpc.1
    have h0 := hb k
    have h1 := hb (k + 1)
    have h2 := hb (k + 2)
    have h3 := hb (k + 3)
    have ho : op = 11 ∨ op = 12 ∨ op = 13 ∨ op = 14 ∨ op = 15 := by omega
    rcases ho with rfl | rfl | rfl | rfl | rfl
    · rw [mLoad_11 h]; exact mod_lo _
    · rw [mLoad_12 h]; exact mod_lo _
    · rw [mLoad_13 h]; unfold U32; omega
    · rw [mLoad_14 h]; unfold U32; omega
    · rw [mLoad_15 h]; unfold U32; omega
  · unfold mLoad; rw [if_neg h]; unfold U32; omega
theorem reg_u {h : Hart} (wf : h.Wf) (r : Int) : U32 (h.reg r) := by
  unfold Hart.reg
  by_cases hr : r.toNat < h.regs.length
  · rw [List.getD, List.getElem?_eq_getElem hr]; exact wf.regs _ (List.getElem_mem hr)
  · rw [List.getD, List.getElem?_eq_none (by omega)]; show U32 0; unfold U32; omega
theorem CoreD.Wf.set {d : CoreD} (wf : d.Wf) (r x : Int) (hx : U32 x) : (d.set r x).Wf := by
  refine ⟨?_, wf.m, wf.out, wf.fr, wf.tw, wf.mlen, wf.olen⟩
  show (d.h.setReg r x).Wf
  unfold Hart.setReg
  split
  · refine ⟨by simp [wf.h.len], fun y hy => ?_, wf.h.pc, wf.h.heldAt, wf.h.state, wf.h.cause⟩
    rcases List.mem_or_eq_of_mem_set hy with h | rfl
    · exact wf.h.regs _ h
    · exact hx
  · exact wf.h
theorem CoreD.Wf.setPc {d : CoreD} (wf : d.Wf) (x : Int) (hx : U32 x) : (d.setPc x).Wf :=
  ⟨⟨wf.h.len, wf.h.regs, hx, wf.h.heldAt, wf.h.state, wf.h.cause⟩, wf.m, wf.out, wf.fr, wf.tw, wf.mlen, wf.olen⟩
theorem CoreD.Wf.trap {d : CoreD} (wf : d.Wf) (c : Int) (hc : 1 ≤ c ∧ c ≤ 6) : (d.trap c).Wf :=
  ⟨⟨wf.h.len, wf.h.regs, wf.h.pc, wf.h.heldAt, ⟨(by decide : (-9223372036854775808 : Int) ≤ 2), (by decide : (2 : Int) ≤ 9223372036854775807)⟩, by show _ ≤ c ∧ c ≤ _; omega⟩, wf.m, wf.out, wf.fr, wf.tw, wf.mlen, wf.olen⟩
theorem CoreD.Wf.hold {d : CoreD} (wf : d.Wf) (b : Bool) (x : Int) (hx : U32 x) : (d.hold b x).Wf :=
  ⟨⟨wf.h.len, wf.h.regs, wf.h.pc, hx, wf.h.state, wf.h.cause⟩, wf.m, wf.out, wf.fr, wf.tw, wf.mlen, wf.olen⟩
theorem lay_bytes {l : List Int} (hb : Bytes l) (at_ w : Int) : ∀ m, Bytes (lay l at_ w m)
  | 0 => hb
  | m + 1 => fun x hx => by
    rcases List.mem_or_eq_of_mem_set hx with h | rfl
    · exact lay_bytes hb at_ w m x h
    · omega
theorem CoreD.Wf.put {d : CoreD} (wf : d.Wf) (op at_ x : Int) (ha : U32 at_) : (d.put op at_ x).Wf := by
  unfold CoreD.put
  split
  · rename_i hok
    have e : mStore d.m op at_ x = lay d.m at_ x (msize op).toNat := by unfold mStore; rw [if_pos hok]
    exact ⟨wf.h, by show Bytes (mStore d.m op at_ x); rw [e]; exact lay_bytes wf.m _ _ _, wf.out, ha, mod_lo _, by show (mStore d.m op at_ x).length ≤ _; rw [mStore_length]; exact wf.mlen, wf.olen⟩
  · exact wf
theorem CoreD.put_h (d : CoreD) (op at_ x : Int) : (d.put op at_ x).h = d.h := by unfold CoreD.put; split <;> rfl
theorem CoreD.put_out (d : CoreD) (op at_ x : Int) : (d.put op at_ x).out = d.out := by unfold CoreD.put; split <;> rfl
theorem CoreD.put_mlen (d : CoreD) (op at_ x : Int) : (d.put op at_ x).m.length = d.m.length := by unfold CoreD.put; split <;> simp [mStore_length]
theorem atomS_wf {d : CoreD} (wf : d.Wf) (op a b : Int) (ha : U32 a) (hb : U32 b) : (atomS d op a b).1.Wf ∧ U32 (atomS d op a b).2.1 := by
  have hl := mLoad_u d.m 13 a (by omega) ha wf.m.getD
  unfold atomS
  split
  · split
    · exact ⟨wf.hold _ _ ha, hl⟩
    · split
      · split
        · exact ⟨(wf.put _ _ _ ha).hold _ _ (by unfold U32; omega), by show U32 0; unfold U32; omega⟩
        · exact ⟨wf.hold _ _ (by unfold U32; omega), by show U32 1; unfold U32; omega⟩
      · exact ⟨wf.put _ _ _ ha, hl⟩
  · exact ⟨wf.trap _ (by split <;> omega), by show U32 0; unfold U32; omega⟩
theorem callS_wf {d : CoreD} (wf : d.Wf) (ho : d.out.length < 1099511627776) : (callS d).1.Wf := by
  unfold callS
  split
  · exact ⟨⟨wf.h.len, wf.h.regs, wf.h.pc, wf.h.heldAt, ⟨(by decide : (-9223372036854775808 : Int) ≤ 1), (by decide : (1 : Int) ≤ 9223372036854775807)⟩, wf.h.cause⟩, wf.m, wf.out, wf.fr, wf.tw, wf.mlen, wf.olen⟩
  · split
    · refine ⟨wf.h, wf.m, fun x hx => ?_, wf.fr, wf.tw, wf.mlen, by show (d.out ++ [d.h.reg 10]).length ≤ _; rw [List.length_append, List.length_singleton]; omega⟩
      rcases List.mem_append.1 hx with h | h
      · exact wf.out x h
      · rw [List.mem_singleton] at h; subst h; exact reg_u wf.h _
    · exact wf.trap _ (by omega)
theorem ite_ind {α : Type} {P : α → Prop} {c : Prop} [Decidable c] {x y : α} (h1 : c → P x) (h2 : ¬ c → P y) : P (if c then x else y) := by
  by_cases h : c
  · rw [if_pos h]; exact h1 h
  · rw [if_neg h]; exact h2 h
theorem doS_wf {d : CoreD} (wf : d.Wf) (i : InsD) (ho : d.out.length < 1099511627776) : (doS i d).Wf := by
  have ha := reg_u wf.h i.rs1
  have hb := reg_u wf.h i.rs2
  have hn : U32 (i.imm % 4294967296) := mod_lo _
  unfold doS
  dsimp only
  repeat' (refine ite_ind (P := CoreD.Wf) (fun _ => ?_) (fun _ => ?_))
  all_goals first
    | exact wf.setPc _ (ite_lo (mod_lo _) (mod_lo _))
    | exact (wf.set _ _ (mod_lo _)).setPc _ (mod_lo _)
    | exact (wf.set _ _ (mod_lo _)).setPc _ (by unfold U32; omega)
    | exact wf.setPc _ (mod_lo _)
    | exact (wf.set _ _ (mLoad_u _ _ _ (by omega) (mod_lo _) wf.m.getD)).setPc _ (mod_lo _)
    | exact (wf.put _ _ _ (mod_lo _)).setPc _ (mod_lo _)
    | exact (wf.set _ _ (alu_lo _ _ _ ha hn)).setPc _ (mod_lo _)
    | exact (wf.set _ _ (alu_lo _ _ _ ha hb)).setPc _ (mod_lo _)
    | exact ((atomS_wf wf _ _ _ ha hb).1.set _ _ (atomS_wf wf _ _ _ ha hb).2).setPc _ (mod_lo _)
    | exact (atomS_wf wf _ _ _ ha hb).1
    | exact (callS_wf wf ho).setPc _ (mod_lo _)
    | exact callS_wf wf ho
    | exact wf.trap _ (by omega)
theorem CoreD.Wf.none {d : CoreD} (wf : d.Wf) : d.none.Wf := ⟨wf.h, wf.m, wf.out, by show U32 0; unfold U32; omega, by show U32 0; unfold U32; omega, wf.mlen, wf.olen⟩
theorem fetchS_c (l : List Int) (pc : Int) : (fetchS l pc).2 = 0 ∨ (fetchS l pc).2 = 1 ∨ (fetchS l pc).2 = 2 := by
  unfold fetchS
  split
  · cases dec (mLoad l 13 pc) <;> simp
  · simp
theorem goS_wf {d : CoreD} (wf : d.Wf) (ho : d.out.length < 1099511627776) : (goS d).Wf := by
  unfold goS
  have := fetchS_c d.m d.h.pc
  split
  · exact doS_wf wf.none _ ho
  · exact wf.none.trap _ (by omega)
end Go.Proofs.Ytlfnddmncbkjaab.Fb
namespace Go.Proofs.Ytlfnddmncbkjaab.Fb
open Go.RowKit
theorem below_setCells {B : Nat} {a : World} {b : Nat} (hb : B ≤ b) : ∀ (vs : List Value) (o : Nat) (w : World), Below B a w → Below B a (w.setCells b o vs)
  | [], _, _, h => h
  | v :: r, o, w, h => below_setCells hb r (o + 1) _ (h.setCell hb v)
theorem at_setCells {b' off : Nat} {xs : List Value} {b : Nat} (hne : b ≠ b') : ∀ (vs : List Value) (o : Nat) (w : World), At w b' off xs → At (w.setCells b o vs) b' off xs
  | [], _, _, h => h
  | v :: r, o, w, h => at_setCells hne r (o + 1) _ (h.set_other hne v)
theorem sl_setCells {v : Value} {s n : Nat} {xs : List Value} {b : Nat} (hne : ∀ b' off n c, v = .slice (some ⟨b', off, none⟩) n c → b ≠ b') : ∀ (vs : List Value) (o : Nat) (w : World), Sl w v s n xs → Sl (w.setCells b o vs) v s n xs
  | [], _, _, h => h
  | u :: r, o, w, h => sl_setCells hne r (o + 1) _ (h.set_other hne u)
theorem there_at {w : World} {b o n : Nat} {xs : List Value} (h : At w b o xs) (hn : xs.length = n) (hf : ∀ o, w.frozen? ⟨b, o, none⟩ = false) : w.there b o n := fun j hj => by
  have h1 := h j (by omega)
  exact ⟨by rw [h1]; rfl, hf _⟩
theorem load_setCells {P : Program} {w : World} {b o : Nat} {cs : Array Value} {ty : TypeId} {d : TypeDesc} (ht : w.there b o cs.size) (hu : P.underlying ty = some d) (hd : d.isRow = true) (hi : (P.info? ty).map (·.size) = some cs.size) :
    (loadVar ty ⟨b, o, none⟩).run P (w.setCells b o cs.toList) = .ok (.agg cs) (w.setCells b o cs.toList) := by
  have hr := World.rangeAt_setCells_same w b o cs.toList (by simpa using ht)
  have := run_loadVar_mid (P := P) (w.setCells b o cs.toList) b o ty cs.toList d hr hu hd (by simpa using hi)
  simpa using this
theorem CoreAt.init {w : World} {hb ho : Nat} {vm : Value} {ty tC : TypeId} {h : Hart} {l : List Int} (hat : At w hb ho (hlist h)) (hfz : ∀ o, w.frozen? ⟨hb, o, none⟩ = false) (hlt : hb < w.heap.size)
    (hv : Ints .u8 w vm l) (hm : ∀ b off n c, vm = .slice (some ⟨b, off, none⟩) n c → b ≠ hb ∧ b < w.heap.size ∧ ∀ o, w.frozen? ⟨b, o, none⟩ = false) (hml : ∀ k, vm.ownBlock = some k → k < w.heap.size) :
    CoreAt w.heap.size hb ho vm ty (w.alloc (.cells #[.pointer (some ⟨hb, ho, none⟩), vm, .slice none 0 0, .int .u32 0, .int .u32 0] tC)) ⟨h, l, [], 0, 0⟩ := by
  have hB : Below w.heap.size w (w.alloc (.cells #[.pointer (some ⟨hb, ho, none⟩), vm, .slice none 0 0, .int .u32 0, .int .u32 0] tC)) := Below.alloc (Below.refl _ _) (Nat.le_refl _) _
  refine ⟨hlt, by simp, by simp, by simp, by simp, fun o => ?_, hat.below hB, fun o => ?_, hv.below hB, fun b off n c e => ?_, ⟨.slice none 0 0, by simp, World.ownsRow_nil _ _ _ _⟩, hml⟩
  · unfold World.frozen?; rw [heap_alloc_new]; simp
  · exact (hB.frozen (p := ⟨hb, o, none⟩) hlt).trans (hfz o)
  · obtain ⟨x1, x2, x3⟩ := hm b off n c e
    exact ⟨x2, x1, by simp; omega, fun o => (hB.frozen (p := ⟨b, o, none⟩) x2).trans (x3 o)⟩
def hart0 : Hart := ⟨List.replicate 32 0, 0, false, 0, 0, 0⟩
end Go.Proofs.Ytlfnddmncbkjaab.Fb
namespace Go.Proofs.Ytlfnddmncbkjaab.Fb
open Go.RowKit
abbrev Rd := List Int × Bool
theorem Bytes.drop {l : List Int} (h : Bytes l) (n : Nat) : Bytes (l.drop n) := fun x hx => h x (List.mem_of_mem_drop hx)
theorem Bytes.take {l : List Int} (h : Bytes l) (n : Nat) : Bytes (l.take n) := fun x hx => h x (List.mem_of_mem_take hx)
section
variable {a : List Int × Rd}
end
end Go.Proofs.Ytlfnddmncbkjaab.Fb
namespace Go.Proofs.Ytlfnddmncbkjaab.Fb
open Go.RowKit
structure Run (n : Nat) (d : CoreD) : Prop where
  ok : d.h.ok = true
  st : d.h.state = 0
  ml : d.m.length = n
  ol : d.out.length ≤ 1
structure Fin0 (d0 d : CoreD) : Prop where
  ok : d.h.ok = true
  ml : d.m.length = d0.m.length
  ol : d.out.length ≤ 1
  no : ¬ d.h.state = 0 → { d.h with state := d0.h.state, cause := d0.h.cause } = d0.h ∧ d.m = d0.m ∧ d.out = d0.out
theorem Run.fin {d0 d : CoreD} (h : Run d0.m.length d) : Fin0 d0 d := ⟨h.ok, h.ml, h.ol, fun e => absurd h.st e⟩
theorem ok_parts {h : Hart} (hs : h.state = 0) : h.ok = true ↔ h.regs.getD 0 0 = 0 ∧ (h.held = true ∨ h.heldAt = 0) ∧ h.cause = 0 := by
  unfold Hart.ok
  rw [hs]
  simp only [Bool.and_eq_true, Bool.or_eq_true, beq_iff_eq, decide_eq_true_eq]
  constructor
  · rintro ⟨⟨h1, h2⟩, h3 | h3⟩
    · exact absurd h3.1.1 (by decide)
    · exact ⟨h1, h2, h3.2⟩
  · rintro ⟨h1, h2, h3⟩
    exact ⟨⟨h1, h2⟩, .inr ⟨.inl (by first | rfl | trivial), h3⟩⟩
theorem Run.set {n : Nat} {d : CoreD} (h : Run n d) (r x : Int) : Run n (d.set r x) := by
  refine ⟨?_, ?_, h.ml, h.ol⟩
  · have hs : (d.set r x).h.state = 0 := by unfold CoreD.set Hart.setReg; split <;> exact h.st
    rw [ok_parts hs]
    have h0 := (ok_parts h.st).1 h.ok
    unfold CoreD.set Hart.setReg
    split
    · refine ⟨?_, h0.2⟩
      show (d.h.regs.set r.toNat x).getD 0 0 = 0
      rw [List.getD, List.getElem?_set_ne (by omega)]
      exact h0.1
    · exact h0
  · unfold CoreD.set Hart.setReg; split <;> exact h.st
theorem Run.setPc {n : Nat} {d : CoreD} (h : Run n d) (x : Int) : Run n (d.setPc x) := ⟨h.ok, h.st, h.ml, h.ol⟩
theorem Run.hold {n : Nat} {d : CoreD} (h : Run n d) (b : Bool) (x : Int) (hx : b = true ∨ x = 0) : Run n (d.hold b x) := by
  refine ⟨?_, h.st, h.ml, h.ol⟩
  have h0 := (ok_parts h.st).1 h.ok
  exact (ok_parts (h := (d.hold b x).h) h.st).2 ⟨h0.1, hx, h0.2.2⟩
theorem Run.put {n : Nat} {d : CoreD} (h : Run n d) (op at_ x : Int) : Run n (d.put op at_ x) :=
  ⟨by rw [CoreD.put_h]; exact h.ok, by rw [CoreD.put_h]; exact h.st, by rw [CoreD.put_mlen]; exact h.ml, by rw [CoreD.put_out]; exact h.ol⟩
theorem Run.trap {d : CoreD} (h : Run d.m.length d) (c : Int) (hc : 1 ≤ c ∧ c ≤ 6) : Fin0 d (d.trap c) := by
  refine ⟨?_, rfl, h.ol, fun _ => ⟨rfl, rfl, rfl⟩⟩
  have h0 := (ok_parts h.st).1 h.ok
  unfold Hart.ok CoreD.trap Hart.trap
  simp only [Bool.and_eq_true, Bool.or_eq_true, beq_iff_eq, decide_eq_true_eq]
  exact ⟨⟨h0.1, h0.2.1⟩, .inl ⟨⟨by first | rfl | trivial, hc.1⟩, hc.2⟩⟩
theorem atomS_run {d : CoreD} (h : Run d.m.length d) (op a b : Int) : ((atomS d op a b).2.2 = true ∧ Run d.m.length (atomS d op a b).1) ∨ ((atomS d op a b).2.2 = false ∧ Fin0 d (atomS d op a b).1) := by
  unfold atomS
  split
  · split
    · exact .inl ⟨rfl, h.hold true a (.inl (by first | rfl | trivial))⟩
    · split
      · split
        · exact .inl ⟨by first | rfl | trivial, (h.put _ _ _).hold false 0 (.inr rfl)⟩
        · exact .inl ⟨rfl, h.hold false 0 (.inr rfl)⟩
      · exact .inl ⟨rfl, h.put _ _ _⟩
  · exact .inr ⟨rfl, h.trap _ (by split <;> omega)⟩
theorem callS_run {d : CoreD} (h : Run d.m.length d) (ho : d.out = []) : ((callS d).2 = true ∧ Run d.m.length (callS d).1) ∨ ((callS d).2 = false ∧ Fin0 d (callS d).1) := by
  unfold callS
  split
  · refine .inr ⟨rfl, ?_, rfl, h.ol, fun _ => ⟨rfl, rfl, rfl⟩⟩
    have h0 := (ok_parts h.st).1 h.ok
    unfold Hart.ok
    simp only [Bool.and_eq_true, Bool.or_eq_true, beq_iff_eq, decide_eq_true_eq]
    exact ⟨⟨h0.1, h0.2.1⟩, .inr ⟨.inr trivial, h0.2.2⟩⟩
  · split
    · exact .inl ⟨rfl, h.ok, h.st, rfl, by show (d.out ++ [d.h.reg 10]).length ≤ 1; rw [ho]; simp⟩
    · exact .inr ⟨rfl, h.trap 5 (by omega)⟩
theorem doS_fin {d : CoreD} (h : Run d.m.length d) (ho : d.out = []) (i : InsD) : Fin0 d (doS i d) := by
  unfold doS
  dsimp only
  repeat' (refine ite_ind (P := Fin0 d) (fun _ => ?_) (fun _ => ?_))
  all_goals first
    | exact Run.fin ((h.set _ _).setPc _)
    | exact Run.fin (h.setPc _)
    | exact Run.fin ((h.put _ _ _).setPc _)
    | exact h.trap _ (by omega)
    | (rename_i hq; rcases atomS_run h i.op (d.h.reg i.rs1) (d.h.reg i.rs2) with ⟨e, hr⟩ | ⟨e, hr⟩
       · exact Run.fin ((hr.set _ _).setPc _)
       · exact absurd hq (by rw [e]; decide))
    | (rename_i hq; rcases atomS_run h i.op (d.h.reg i.rs1) (d.h.reg i.rs2) with ⟨e, hr⟩ | ⟨e, hr⟩
       · exact absurd e hq
       · exact hr)
    | (rename_i hq; rcases callS_run h ho with ⟨e, hr⟩ | ⟨e, hr⟩
       · exact Run.fin (hr.setPc _)
       · exact absurd hq (by rw [e]; decide))
    | (rename_i hq; rcases callS_run h ho with ⟨e, hr⟩ | ⟨e, hr⟩
       · exact absurd e hq
       · exact hr)
theorem goS_fin (h : Hart) (l : List Int) (hok : h.ok = true) (hst : h.state = 0) : Fin0 ⟨h, l, [], 0, 0⟩ (goS ⟨h, l, [], 0, 0⟩) := by
  have hr : Run l.length ⟨h, l, [], 0, 0⟩ := ⟨hok, hst, rfl, by simp⟩
  have hc := fetchS_c l h.pc
  unfold goS
  dsimp only
  split
  · exact doS_fin (d := CoreD.none ⟨h, l, [], 0, 0⟩) hr rfl _
  · exact Run.trap (d := CoreD.none ⟨h, l, [], 0, 0⟩) hr _ (by omega)
end Go.Proofs.Ytlfnddmncbkjaab.Fb
namespace Go.Proofs.Ytlfnddmncbkjaab.Fb
open Go.RowKit
structure St where
  harts : List Hart
  mem : List Int
  out : List Int
  steps : Nat
def St.hart (s : St) (k : Nat) : Hart := s.harts.getD k hart0
def startM (m : Mach) : St := ⟨m.harts, m.mem, [], 0⟩
def CoreD.pre (o : List Int) (d : CoreD) : CoreD := { d with out := o ++ d.out }
structure St.Wf (s : St) : Prop where
  harts : ∀ h ∈ s.harts, h.Wf
  mem : Bytes s.mem
  mlen : s.mem.length ≤ 4096
  out : ∀ x ∈ s.out, U32 x
theorem hart0_wf : hart0.Wf := ⟨rfl, by intro x hx; have := List.eq_of_mem_replicate hx; subst this; exact ⟨by decide, by decide⟩, ⟨by decide, by decide⟩, ⟨by decide, by decide⟩, ⟨by decide, by decide⟩, ⟨by decide, by decide⟩⟩
theorem St.hart_at {s : St} {k : Nat} (h : k < s.harts.length) : s.hart k = s.harts[k] := by
  unfold St.hart; rw [List.getD, List.getElem?_eq_getElem h]; rfl
theorem St.Wf.hart {s : St} (h : s.Wf) (k : Nat) : (s.hart k).Wf := by
  by_cases hk : k < s.harts.length
  · rw [St.hart_at hk]; exact h.harts _ (List.getElem_mem hk)
  · unfold St.hart; rw [List.getD, List.getElem?_eq_none (by omega)]; exact hart0_wf
theorem St.Wf.core {s : St} (h : s.Wf) (k : Nat) : (⟨s.hart k, s.mem, [], 0, 0⟩ : CoreD).Wf :=
  ⟨h.hart k, h.mem, by simp, (⟨by decide, by decide⟩ : U32 0), (⟨by decide, by decide⟩ : U32 0), (by show s.mem.length ≤ _; have := h.mlen; omega), by simp⟩
end Go.Proofs.Ytlfnddmncbkjaab.Fb
namespace Go.Proofs.Ytlfnddmncbkjaab.Fb
open Go.RowKit
theorem owns_block {B : Nat} {e : TypeId} {k : Nat} {v : Value} {n : Nat} {xs : List Value} {w w' : World} (h : w.ownsRow B e k v n xs) (hb : ∀ g, v.ownBlock = some g → w'.heap[g]? = w.heap[g]?) : w'.ownsRow B e k v n xs := by
  obtain ⟨h1, h2⟩ := h
  refine ⟨h1, ?_⟩
  rcases h2 with ⟨rfl, rfl⟩ | ⟨g, cap, cur, rfl, hB, hh, h3⟩
  · exact .inl ⟨rfl, rfl⟩
  · exact .inr ⟨g, cap, cur, rfl, hB, (hb g rfl).trans hh, h3⟩
theorem cell_block {w w' : World} {b : Nat} (h : w'.heap[b]? = w.heap[b]?) (o : Nat) : w'.cell? ⟨b, o, none⟩ = w.cell? ⟨b, o, none⟩ := World.cell?_of_block (a := ⟨b, o, none⟩) h
theorem frozen_block {w w' : World} {b : Nat} (h : w'.heap[b]? = w.heap[b]?) (o : Nat) : w'.frozen? ⟨b, o, none⟩ = w.frozen? ⟨b, o, none⟩ := World.frozen?_of_block (a := ⟨b, o, none⟩) h
theorem sl_block {w w' : World} {v : Value} {s n : Nat} {xs : List Value} (h : Sl w v s n xs) (hb : ∀ g, v.ownBlock = some g → w'.heap[g]? = w.heap[g]?) : Sl w' v s n xs := by
  obtain ⟨h1, ao, cap, h2, h3, h4, h5, h6⟩ := h
  refine ⟨h1, ao, cap, h2, h3, h4, h5, fun a ha hx => ⟨(h6 a ha hx).1, ?_⟩⟩
  obtain ⟨b, off, sp⟩ := a
  have h7 := h6 _ ha hx
  have hs := h7.1
  simp only at hs
  subst hs
  intro j hj
  exact (cell_block (hb b (by rw [h2, ha]; rfl)) _).trans (h7.2 j hj)
theorem at_hart {w : World} {b : Nat} {hs : List Hart} {k : Nat} (ha : At w b 0 (hs.flatMap hlist)) (hl : ∀ h ∈ hs, (hlist h).length = 37) (hk : k < hs.length) : At w b (k * 37) (hlist hs[k]) := by
  have := At.elem hlist 37 hl ha k hk
  rw [Nat.zero_add] at this
  exact this
structure Bd (bp bh hc : Nat) (vm vo : Value) (ty : TypeId) (w : World) (s : St) : Prop where
  b1 : bh < bp
  c0 : w.cell? ⟨bp, 0, none⟩ = some vm
  c1 : w.cell? ⟨bp, 1, none⟩ = some (.slice (some ⟨bh, 0, none⟩) s.harts.length hc)
  c2 : w.cell? ⟨bp, 2, none⟩ = some vo
  c3 : w.cell? ⟨bp, 3, none⟩ = some (.int .i64 s.steps)
  frz : ∀ o, w.frozen? ⟨bp, o, none⟩ = false
  harts : At w bh 0 (s.harts.flatMap hlist)
  hlt : bh < w.heap.size
  hfz : ∀ o, w.frozen? ⟨bh, o, none⟩ = false
  bytes : Ints .u8 w vm s.mem
  mfz : ∀ b off n c, vm = .slice (some ⟨b, off, none⟩) n c → b < w.heap.size ∧ ∀ o, w.frozen? ⟨b, o, none⟩ = false
  mlt : ∀ k, vm.ownBlock = some k → k < bp ∧ k ≠ bh
  own : w.ownsRow (bp + 1) ty 1 vo s.out.length (s.out.map (Value.int .u32))
  hcap : s.harts.length ≤ hc ∧ hc ≤ maxLen
structure Wk (bp bh hc cp k : Nat) (vm vo : Value) (ty : TypeId) (o0 o : List Int) (fr tw : Int) (w : World) (s : St) : Prop where
  core : CoreAt cp bh (k * 37) vm ty w ⟨s.hart k, s.mem, o, fr, tw⟩
  b1 : bh < bp
  b2 : bp < cp
  c0 : w.cell? ⟨bp, 0, none⟩ = some vm
  c1 : w.cell? ⟨bp, 1, none⟩ = some (.slice (some ⟨bh, 0, none⟩) s.harts.length hc)
  c2 : w.cell? ⟨bp, 2, none⟩ = some vo
  c3 : w.cell? ⟨bp, 3, none⟩ = some (.int .i64 s.steps)
  frz : ∀ o, w.frozen? ⟨bp, o, none⟩ = false
  harts : At w bh 0 (s.harts.flatMap hlist)
  mlt : ∀ k, vm.ownBlock = some k → k < bp ∧ k ≠ bh
  own : w.ownsRow (bp + 1) ty 1 vo o0.length (o0.map (Value.int .u32))
  vlt : ∀ g, vo.ownBlock = some g → g < cp
  kl : k < s.harts.length
  hcap : s.harts.length ≤ hc ∧ hc ≤ maxLen
theorem Bd.begin {w : World} {m : Mach} {vm vh : Value} {B1 B2 : Nat} {t1 t2 tB ty : TypeId} (h1 : w.ownsRow B1 t1 1 vm m.mem.length (m.mem.map (Value.int .u8))) (h2 : w.ownsRow B2 t2 37 vh m.harts.length (m.harts.flatMap hlist))
    (hne : ∀ k, vm.ownBlock = some k → vh.ownBlock ≠ some k) (hl : 1 ≤ m.harts.length) :
    ∃ bh hc, vh = .slice (some ⟨bh, 0, none⟩) m.harts.length hc ∧ B2 ≤ bh ∧ Bd w.heap.size bh hc vm (.slice none 0 0) ty (w.alloc (.cells #[vm, vh, .slice none 0 0, .int .i64 0] tB)) (startM m) := by
  rcases owns_open h2 with ⟨_, e, _⟩ | ⟨g, cap, rfl, hB, hg, hn, hm, hat, hf⟩
  · omega
  have hb : Below w.heap.size w (w.alloc (.cells #[vm, .slice (some ⟨g, 0, none⟩) m.harts.length cap, .slice none 0 0, .int .i64 0] tB)) := Below.alloc (Below.refl _ _) (Nat.le_refl _) _
  refine ⟨g, cap, rfl, hB, hg, by simp, by simp [startM], by simp, by simp [startM], fun o => by unfold World.frozen?; rw [heap_alloc_new]; simp, hat.below hb, Nat.lt_of_lt_of_le hg hb.size, fun o => (hb.frozen (p := ⟨g, o, none⟩) hg).trans (hf o), (owns_sl h1).below hb, fun b off n c e => ?_, fun k e => ?_, World.ownsRow_nil _ _ _ _, hn, hm⟩
  · rcases owns_open h1 with ⟨rfl, _⟩ | ⟨g1, c1, rfl, _, hg1, _, _, _, hf1⟩
    · cases e
    · cases e
      exact ⟨Nat.lt_of_lt_of_le hg1 hb.size, fun o => (hb.frozen (p := ⟨b, o, none⟩) hg1).trans (hf1 o)⟩
  · exact ⟨(h1.lt k e).2, fun e2 => hne k e (by rw [e2]; rfl)⟩
section
variable {bp bh hc cp k : Nat} {vm vo : Value} {ty : TypeId} {o0 o : List Int} {fr tw : Int} {w w' : World} {s : St}
theorem CoreAt.move {hb ho : Nat} {d : CoreD} {h' : Hart} (h : CoreAt cp hb ho vm ty w d) (hcp : w'.heap[cp]? = w.heap[cp]?) (hvm : ∀ k, vm.ownBlock = some k → w'.heap[k]? = w.heap[k]?) (hrow : ∀ k, cp < k → k < w.heap.size → w'.heap[k]? = w.heap[k]?)
    (hsz : w.heap.size ≤ w'.heap.size) (hat : At w' hb ho (hlist h')) (hfz : ∀ o, w'.frozen? ⟨hb, o, none⟩ = false) : CoreAt cp hb ho vm ty w' { d with h := h' } := by
  refine ⟨h.hbl, (cell_block hcp _).trans h.ptr, (cell_block hcp _).trans h.mem, (cell_block hcp _).trans h.fr, (cell_block hcp _).trans h.tw, fun o => (frozen_block hcp o).trans (h.frz o), hat, hfz, sl_block h.bytes hvm, fun b off n c e => ?_, ?_, h.mlt⟩
  · obtain ⟨x1, x2, x3, x4⟩ := h.mfz b off n c e
    exact ⟨x1, x2, by omega, fun o => (frozen_block (hvm b (by rw [e]; rfl)) o).trans (x4 o)⟩
  · obtain ⟨vo', y1, y2⟩ := h.row
    refine ⟨vo', (cell_block hcp _).trans y1, owns_block y2 (fun g hg => ?_)⟩
    have := y2.lt g hg
    exact hrow g (by omega) this.2
theorem Bd.lt (h : Bd bp bh hc vm vo ty w s) : bp < w.heap.size := lt_of_cell h.c0
theorem Bd.below (h : Bd bp bh hc vm vo ty w s) (hb : Below w.heap.size w w') : Bd bp bh hc vm vo ty w' s := by
  have hl := h.lt
  have e := hb.block bp hl
  have eh := hb.block bh h.hlt
  refine ⟨h.b1, (cell_block e _).trans h.c0, (cell_block e _).trans h.c1, (cell_block e _).trans h.c2, (cell_block e _).trans h.c3, fun o => (frozen_block e o).trans (h.frz o), h.harts.below hb, Nat.lt_of_lt_of_le h.hlt hb.size, fun o => (frozen_block eh o).trans (h.hfz o), h.bytes.below hb, fun b off n c e => ?_, h.mlt, owns_below h.own hb, h.hcap⟩
  obtain ⟨x1, x2⟩ := h.mfz b off n c e
  exact ⟨Nat.lt_of_lt_of_le x1 hb.size, fun o => (frozen_block (hb.block b x1) o).trans (x2 o)⟩
theorem Wk.clt (h : Wk bp bh hc cp k vm vo ty o0 o fr tw w s) : cp < w.heap.size := h.core.lt
theorem Wk.below (h : Wk bp bh hc cp k vm vo ty o0 o fr tw w s) (hb : Below w.heap.size w w') : Wk bp bh hc cp k vm vo ty o0 o fr tw w' s := by
  have e := hb.block bp (Nat.lt_trans h.b2 h.clt)
  exact ⟨h.core.below hb, h.b1, h.b2, (cell_block e _).trans h.c0, (cell_block e _).trans h.c1, (cell_block e _).trans h.c2, (cell_block e _).trans h.c3, fun o => (frozen_block e o).trans (h.frz o), h.harts.below hb, h.mlt, owns_below h.own hb, h.vlt, h.kl, h.hcap⟩
theorem Wk.drewN (h : Wk bp bh hc cp k vm vo ty o0 o fr tw w s) (n : Nat) : Wk bp bh hc cp k vm vo ty o0 o fr tw (w.drewN n) s := h.below (below_drewN (Below.refl _ _) _)
theorem Wk.tick (h : Wk bp bh hc cp k vm vo ty o0 o fr tw w s) (n : Nat) : Wk bp bh hc cp k vm vo ty o0 o fr tw (w.setCell ⟨bp, 3, none⟩ (.int .i64 n)) { s with steps := n } := by
  have b1 := h.b1
  have b2 := h.b2
  have hbk : ∀ j, j ≠ bp → (w.setCell ⟨bp, 3, none⟩ (.int .i64 n)).heap[j]? = w.heap[j]? := fun j hj => Below.heap_setCell _ _ _ _ (by show j ≠ bp; exact hj)
  have hc : ∀ j, j ≠ 3 → (w.setCell ⟨bp, 3, none⟩ (.int .i64 n)).cell? ⟨bp, j, none⟩ = w.cell? ⟨bp, j, none⟩ := fun j hj => World.cell?_setCell_other _ _ _ _ (by intro e; injection e with _ e2; omega)
  refine ⟨h.core.move (h' := s.hart k) (hbk cp (by omega)) (fun g hg => hbk g (by have := h.mlt g hg; omega)) (fun g hg _ => hbk g (by omega)) (by simp) (h.core.hart.set_other (by show bp ≠ bh; omega) _) (fun o => (World.frozen?_setCell _ _ _ _).trans (h.core.hfz o)), h.b1, h.b2, (hc 0 (by omega)).trans h.c0, (hc 1 (by omega)).trans h.c1, (hc 2 (by omega)).trans h.c2, World.cell?_setCell_same _ _ _ h.c3, fun o => (World.frozen?_setCell _ _ _ _).trans (h.frz o), h.harts.set_other (by show bp ≠ bh; omega) _, h.mlt, owns_block h.own (fun g hg => hbk g (by have := h.own.lt g hg; omega)), h.vlt, h.kl, h.hcap⟩
theorem Wk.lost {hs : List Hart} (h : Wk bp bh hc cp k vm vo ty o0 o fr tw w s) (wf : ∀ h ∈ hs, h.Wf) (hl : hs.length = s.harts.length) (hk : ∀ h' : k < hs.length, hs[k] = s.hart k) (ha : At w' bh 0 (hs.flatMap hlist)) (hg : Chg (fun p => p.block = bh) w w') :
    Wk bp bh hc cp k vm vo ty o0 o fr tw w' { s with harts := hs } := by
  have b1 := h.b1
  have b2 := h.b2
  have hlt := h.clt
  have kl : k < hs.length := by rw [hl]; exact h.kl
  have hbk : ∀ j, j < w.heap.size → j ≠ bh → w'.heap[j]? = w.heap[j]? := fun j hj hn => hg.block j hj (fun o e => hn e)
  have e := hbk bp (by omega) (by omega)
  have ek : (⟨hs, s.mem, s.out, s.steps⟩ : St).hart k = s.hart k := (St.hart_at kl).trans (hk kl)
  have hat := at_hart ha (fun x hx => hlist_length (wf x hx)) kl
  rw [hk kl] at hat
  refine ⟨by
      show CoreAt cp bh (k * 37) vm ty w' ⟨(⟨hs, s.mem, s.out, s.steps⟩ : St).hart k, s.mem, o, fr, tw⟩
      rw [ek]
      exact h.core.move (h' := s.hart k) (hbk cp hlt (by omega)) (fun g hg => hbk g (by have := h.mlt g hg; omega) (h.mlt g hg).2) (fun g hg hg2 => hbk g hg2 (by omega)) hg.size hat (fun o => (hg.frozen ⟨bh, o, none⟩ (by show bh < _; omega)).trans (h.core.hfz o)), h.b1, h.b2, (cell_block e _).trans h.c0, (cell_block e _).trans (by rw [h.c1, ← hl]), (cell_block e _).trans h.c2, (cell_block e _).trans h.c3, fun o => (frozen_block e o).trans (h.frz o),
    ha, h.mlt, owns_block h.own (fun g hg' => ?_), h.vlt, kl, by rw [show ({ s with harts := hs } : St).harts.length = s.harts.length from hl]; exact h.hcap⟩
  have := h.own.lt g hg'
  exact hbk g this.2 (by omega)
theorem Wk.stop {v' : Value} {w1 : World} (h : Wk bp bh hc cp k vm vo ty o0 o fr tw w s) (hown : w1.ownsRow (bp + 1) ty 1 v' (o0.length + o.length) (o0.map (Value.int .u32) ++ o.map (Value.int .u32))) (hg : w.grownBy w1 vo.ownBlock) :
    Bd bp bh hc vm v' ty (w1.setCell ⟨bp, 2, none⟩ v') { s with out := o0 ++ o } := by
  have b1 := h.b1
  have b2 := h.b2
  have hlt := h.clt
  have hfar : ∀ j, j < w.heap.size → j ≤ bp → w1.heap[j]? = w.heap[j]? := fun j hj hn => hg.block j hj (fun e => by have := h.own.lt j e.symm; omega)
  have hbk : ∀ j, j < bp → (w1.setCell ⟨bp, 2, none⟩ v').heap[j]? = w.heap[j]? := fun j hj => (Below.heap_setCell _ _ _ _ (by show j ≠ bp; omega)).trans (hfar j (by omega) (by omega))
  have e := hfar bp (by omega) (Nat.le_refl _)
  have hc : ∀ j, j ≠ 2 → (w1.setCell ⟨bp, 2, none⟩ v').cell? ⟨bp, j, none⟩ = w.cell? ⟨bp, j, none⟩ := fun j hj => (World.cell?_setCell_other _ _ _ _ (by intro e; injection e with _ e2; omega)).trans (cell_block e _)
  have hs := hg.size
  refine ⟨h.b1, (hc 0 (by omega)).trans h.c0, (hc 1 (by omega)).trans h.c1, World.cell?_setCell_same _ _ _ ((cell_block e 2).trans h.c2), (hc 3 (by omega)).trans h.c3, fun o => (World.frozen?_setCell _ _ _ _).trans ((frozen_block e o).trans (h.frz o)), fun j hj => (cell_block (hbk bh b1) _).trans (h.harts j hj), by simp; omega, fun o => (frozen_block (hbk bh b1) o).trans (h.core.hfz o), sl_block h.core.bytes (fun g hg' => hbk g (h.mlt g hg').1), fun b off n c e => ?_, h.mlt, ?_, h.hcap⟩
  · have hb := (h.mlt b (by rw [e]; rfl)).1
    exact ⟨by simp; omega, fun o => (frozen_block (hbk b hb) o).trans ((h.core.mfz b off n c e).2.2.2 o)⟩
  · have := ownsRow_setCell_below hown (a := ⟨bp, 2, none⟩) (Nat.lt_succ_self bp) v'
    simpa using this
end
end Go.Proofs.Ytlfnddmncbkjaab.Fb
namespace Go.Proofs.Ytlfnddmncbkjaab.Fb
open Go.RowKit
structure RdAt (rp : Nat) (w : World) (s : Rd) : Prop where
  v : ∃ v, w.cell? ⟨rp, 0, none⟩ = some v ∧ Ints .u8 w v s.1 ∧ (s.1 ≠ [] → ∀ k, v.ownBlock = some k → k < rp)
  bad : w.cell? ⟨rp, 1, none⟩ = some (.bool s.2)
  frz : ∀ o, w.frozen? ⟨rp, o, none⟩ = false
  lt : rp < w.heap.size
theorem RdAt.below {rp : Nat} {w w' : World} {s : Rd} (h : RdAt rp w s) (hb : Below w.heap.size w w') : RdAt rp w' s := by
  obtain ⟨v, h1, h2, h3⟩ := h.v
  have e := hb.block rp h.lt
  exact ⟨⟨v, (cell_block e _).trans h1, h2.below hb, h3⟩, (cell_block e _).trans h.bad, fun o => (frozen_block e o).trans (h.frz o), Nat.lt_of_lt_of_le h.lt hb.size⟩
theorem ints_set {k : IntKind} {w : World} {v : Value} {l : List Int} {rp : Nat} (h : Ints k w v l) (hn : l ≠ [] → ∀ k, v.ownBlock = some k → k < rp) {p : Addr} (hp : rp ≤ p.block) (u : Value) : Ints k (w.setCell p u) v l := by
  by_cases hl : l = []
  · subst hl
    obtain ⟨h1, ao, cap, h2, h3, h4, h5, h6⟩ := h
    exact ⟨h1, ao, cap, h2, h3, h4, h5, fun a _ hx => absurd rfl hx⟩
  · exact Sl.set_other h (fun b off n c e => by have := hn hl b (by rw [e]; rfl); omega) u
theorem Ints.cut {k : IntKind} {w : World} {ao : Option Addr} {cap : Nat} {l : List Int} (h : Ints k w (.slice ao l.length cap) l) (n : Nat) (hn : n ≤ l.length) : Ints k w (.slice ao n cap) (l.take n) := by
  obtain ⟨h1, ao', cap', h2, h3, h4, h5, h6⟩ := h
  cases h2
  refine ⟨by simp, ao, cap, by rw [List.length_take, Nat.min_eq_left hn], by rw [List.length_take]; omega, h4, h5, fun a ha hx => ?_⟩
  have hne : l.map (Value.int k) ≠ [] := by intro e; rw [List.map_eq_nil_iff] at e; subst e; simp at hx
  obtain ⟨h7, h8⟩ := h6 a ha hne
  refine ⟨h7, fun j hj => ?_⟩
  rw [List.length_map, List.length_take] at hj
  rw [h8 j (by rw [List.length_map]; omega)]
  simp
theorem Ints.rest {k : IntKind} {w : World} {b off cap : Nat} {l : List Int} (h : Ints k w (.slice (some ⟨b, off, none⟩) l.length cap) l) (n : Nat) (hn : n ≤ l.length) : Ints k w (.slice (some ⟨b, off + n, none⟩) (l.length - n) (cap - n)) (l.drop n) := by
  obtain ⟨h1, ao', cap', h2, h3, h4, h5, h6⟩ := h
  cases h2
  refine ⟨by simp, _, cap - n, by rw [List.length_drop], by rw [List.length_drop]; omega, by unfold maxLen at *; omega, (by intro e; cases e), fun a ha hx => ?_⟩
  cases ha
  have hne : l.map (Value.int k) ≠ [] := by intro e; rw [List.map_eq_nil_iff] at e; subst e; simp at hx
  obtain ⟨h7, h8⟩ := h6 _ rfl hne
  refine ⟨rfl, fun j hj => ?_⟩
  rw [List.length_map, List.length_drop] at hj
  have := h8 (n + j) (by rw [List.length_map]; omega)
  rw [show off + n + j = off + (n + j) by omega]
  rw [this]
  simp
end Go.Proofs.Ytlfnddmncbkjaab.Fb
namespace Go.Proofs.Ytlfnddmncbkjaab.Fb
open Go.RowKit
structure DidD where
  h : Hart
  vm : Value
  vo : Value
  fr : Int
  many : Int
def dtail (d : DidD) : List Value := [d.vm, d.vo, .int .u32 d.fr, .int .i64 d.many]
def dlist (d : DidD) : List Value := hlist d.h ++ dtail d
def dcells (d : DidD) : Array Value := (dlist d).toArray
def DidD.set (d : DidD) (r x : Int) : DidD := { d with h := d.h.setReg r x }
def DidD.trap (d : DidD) (c : Int) : DidD := { d with h := d.h.trap c }
def did0 : DidD := ⟨hart0, .slice none 0 0, .slice none 0 0, 0, 0⟩
structure DidD.Ok (d : DidD) : Prop where
  len : d.h.regs.length = 32
  m1 : d.vm.oneCell' = true
  o1 : d.vo.oneCell' = true
theorem hlist_len {h : Hart} (wf : h.regs.length = 32) : (hlist h).length = 37 := by simp [hlist, wf]
theorem dlist_len {d : DidD} (h : d.Ok) : (dlist d).length = 41 := by
  rw [dlist, List.length_append, hlist_len h.len]; rfl
theorem dcells_size {d : DidD} (h : d.Ok) : (dcells d).size = 41 := by simp [dcells, dlist_len h]
theorem dlist_one {d : DidD} (h : d.Ok) : ∀ v ∈ (dcells d).toList, v.oneCell' = true := by
  intro v hv
  have hv' : v ∈ dlist d := by simpa [dcells] using hv
  rcases List.mem_append.1 hv' with h1 | h1
  · exact hlist_one d.h v (by simpa [hcells] using h1)
  · simp only [dtail, List.mem_cons, List.not_mem_nil, or_false] at h1
    rcases h1 with rfl | rfl | rfl | rfl
    · exact h.m1
    · exact h.o1
    · rfl
    · rfl
theorem dlist_all {d : DidD} (h : d.Ok) : (dcells d).all (·.oneCell') = true := Array.all_eq_true_iff_forall_mem.2 (fun v hv => dlist_one h v (by simpa using hv))
theorem dlist_h {d : DidD} {j : Nat} {v : Value} (h : (hlist d.h)[j]? = some v) : (dlist d)[j]? = some v := by
  rw [dlist, List.getElem?_append_left (List.getElem?_eq_some_iff.1 h).1]; exact h
theorem dlist_t {d : DidD} (h : d.h.regs.length = 32) (j : Nat) : (dlist d)[37 + j]? = (dtail d)[j]? := by
  rw [dlist, List.getElem?_append_right (by rw [hlist_len h]; omega), hlist_len h, Nat.add_sub_cancel_left]
theorem dlist_setH {d : DidD} {h' : Hart} {j : Nat} {v : Value} (hl : hlist h' = (hlist d.h).set j v) (hj : j < (hlist d.h).length) : dlist { d with h := h' } = (dlist d).set j v := by
  unfold dlist
  rw [List.set_append_left _ _ hj]
  show hlist h' ++ dtail d = _
  rw [hl]
theorem dlist_setT {d d' : DidD} (hh : d'.h = d.h) (h : d.h.regs.length = 32) {j : Nat} {v : Value} (ht : dtail d' = (dtail d).set j v) : dlist d' = (dlist d).set (37 + j) v := by
  unfold dlist
  rw [List.set_append_right _ _ (by rw [hlist_len h]; omega), hlist_len h, Nat.add_sub_cancel_left, hh, ht]
theorem box_did (d : DidD) (w : World) (t : TypeId) : At (w.alloc (.cells (dcells d) t)) w.heap.size 0 (dlist d) := at_alloc w (dlist d) t (0, 0)
theorem results_c1 {P : Program} {fn : Func} {a : Tmp} {t : TypeId} (h : fn.results = #[.cell a t]) (tmps : Array Value) {p : Addr} {w : World} {v : Value} (hp : tmps.getD a undef = .pointer (some p)) (hl : (loadVar t p).run P w = .ok v w) :
    (results fn tmps).run P w = .ok v w := by
  have hp' : tmps[a]?.getD undef = .pointer (some p) := by rw [← hp]; simp
  simp [results, h, hp', hl, Sem.run_bind, asAddr]
theorem results_c1t {P : Program} {fn : Func} {a x : Tmp} {t : TypeId} (h : fn.results = #[.cell a t, .tmp x]) (tmps : Array Value) {p : Addr} {w : World} {v : Value} (hp : tmps.getD a undef = .pointer (some p)) (hl : (loadVar t p).run P w = .ok v w) :
    (results fn tmps).run P w = .ok (.tuple #[v, tmps.getD x undef]) w := by
  have hp' : tmps[a]?.getD undef = .pointer (some p) := by rw [← hp]; simp
  simp [results, h, hp', hl, Sem.run_bind, asAddr]
theorem did0_ok : did0.Ok := ⟨rfl, rfl, rfl⟩
structure DBox (B R : Nat) (tD : TypeId) (w : World) (d : DidD) : Prop where
  at_ : At w B 0 (dlist d)
  frz : ∀ o, w.frozen? ⟨B, o, none⟩ = false
  there : w.there R 0 41
theorem DBox.begin {w : World} {tD : TypeId} {d : DidD} {z : Array Value} (hz : z.size = 41) : DBox w.heap.size (w.heap.size + 1) tD ((w.alloc (.cells (dcells d) tD)).alloc (.cells z tD)) d := by
  have hB : Below (w.heap.size + 1) (w.alloc (.cells (dcells d) tD)) ((w.alloc (.cells (dcells d) tD)).alloc (.cells z tD)) := Below.alloc (Below.refl _ _) (by simp) _
  refine ⟨(box_did d w tD).below (by have := hB; simpa using this), fun o => ?_, fun j hj => ?_⟩
  · rw [hB.frozen (p := ⟨w.heap.size, o, none⟩) (by show w.heap.size < _; omega)]
    unfold World.frozen?; rw [heap_alloc_new]; simp
  · have hn : ((w.alloc (.cells (dcells d) tD)).alloc (.cells z tD)).heap[w.heap.size + 1]? = some (.cells z tD (0, 0)) := by
      have := heap_alloc_new (w.alloc (.cells (dcells d) tD)) (.cells z tD)
      simpa using this
    have hj2 : 0 + j < z.size := by omega
    exact ⟨by unfold World.cell?; rw [hn]; simp; omega, by unfold World.frozen?; rw [hn]; simp⟩
theorem DBox.below {B R : Nat} {tD : TypeId} {w w' : World} {d : DidD} (h : DBox B R tD w d) (hB0 : B < w.heap.size) (hB : R < w.heap.size) (hb : Below w.heap.size w w') : DBox B R tD w' d :=
  ⟨h.at_.below hb, fun o => (hb.frozen (p := ⟨B, o, none⟩) hB0).trans (h.frz o), fun j hj => ⟨by rw [hb.cell (p := ⟨R, 0 + j, none⟩) hB]; exact (h.there j hj).1, by rw [hb.frozen (p := ⟨R, 0 + j, none⟩) hB]; exact (h.there j hj).2⟩⟩
theorem there_setCell {w : World} {b o n : Nat} (h : w.there b o n) (p : Addr) (hp : p.spot = none) (v : Value) : (w.setCell p v).there b o n := by
  obtain ⟨b', o', s⟩ := p
  simp only at hp
  subst hp
  have := World.there_setCells h b' o' [v]
  simpa [World.setCells] using this
theorem DBox.set {B R : Nat} {tD : TypeId} {w : World} {d d' : DidD} (h : DBox B R tD w d) (j : Nat) (v : Value) (hj : j < (dlist d).length) (hl : dlist d' = (dlist d).set j v) : DBox B R tD (w.setCell ⟨B, j, none⟩ v) d' :=
  ⟨by rw [hl]; have := h.at_.set j hj v; simpa using this, fun o => (World.frozen?_setCell _ _ _ _).trans (h.frz o), there_setCell h.there _ rfl _⟩
theorem DBox.get {B R : Nat} {tD : TypeId} {w : World} {d : DidD} (h : DBox B R tD w d) {j : Nat} {v : Value} (hj : (dlist d)[j]? = some v) : w.cell? ⟨B, j, none⟩ = some v := by
  have := h.at_.get hj
  simpa using this
theorem DBox.drewN {B R : Nat} {tD : TypeId} {w : World} {d : DidD} (h : DBox B R tD w d) (n : Nat) : DBox B R tD (w.drewN n) d := ⟨h.at_, h.frz, h.there⟩
theorem DidD.Ok.setReg {d : DidD} (h : d.Ok) (r x : Int) : (d.set r x).Ok := ⟨by unfold DidD.set Hart.setReg; split <;> simp [h.len], h.m1, h.o1⟩
theorem hlist_pc' {h : Hart} (w : h.regs.length = 32) : (hlist h)[32]? = some (.int .u32 h.pc) := by simp [hlist, w]
theorem hlist_held' {h : Hart} (w : h.regs.length = 32) : (hlist h)[33]? = some (.bool h.held) := by simp [hlist, w]
theorem hlist_heldAt' {h : Hart} (w : h.regs.length = 32) : (hlist h)[34]? = some (.int .u32 h.heldAt) := by simp [hlist, w]
theorem hlist_state' {h : Hart} (w : h.regs.length = 32) : (hlist h)[35]? = some (.int .i64 h.state) := by simp [hlist, w]
theorem hlist_cause' {h : Hart} (w : h.regs.length = 32) : (hlist h)[36]? = some (.int .i64 h.cause) := by simp [hlist, w]
theorem DBox.put {B R : Nat} {tD : TypeId} {w : World} {d d' : DidD} (h : DBox B R tD w d) (hd : d.Ok) (hd' : d'.Ok) : DBox B R tD (w.setCells B 0 (dcells d').toList) d' := by
  have ht : w.there B 0 (dcells d').toList.length := by
    have : (dcells d').toList.length = 41 := by simp [dcells, dlist_len hd']
    rw [this]
    exact there_at h.at_ (dlist_len hd) h.frz
  refine ⟨?_, fun o => by rw [World.frozen?_setCells]; exact h.frz o, World.there_setCells h.there _ _ _⟩
  have hr := World.rangeAt_setCells_same w B 0 (dcells d').toList ht
  intro j hj
  have := hr j (dlist d')[j] (by simp [dcells, hj])
  exact this
theorem DBox.thereB {B R : Nat} {tD : TypeId} {w : World} {d d' : DidD} (h : DBox B R tD w d) (hd : d.Ok) (hd' : d'.Ok) : w.there B 0 (dcells d').size := by
  rw [dcells_size hd']; exact there_at h.at_ (dlist_len hd) h.frz
theorem DBox.other {B R : Nat} {tD : TypeId} {w : World} {d : DidD} (h : DBox B R tD w d) {p : Addr} (hp : p.block ≠ B) (hs : p.spot = none) (v : Value) : DBox B R tD (w.setCell p v) d :=
  ⟨h.at_.set_other hp v, fun o => (World.frozen?_setCell _ _ _ _).trans (h.frz o), there_setCell h.there _ hs _⟩
structure DidOf (w : World) (d : DidD) (c : CoreD) : Prop where
  h : d.h = c.h
  m : Ints .u8 w d.vm c.m
  o : Ints .u32 w d.vo c.out
  fr : d.fr = c.fr
  many : d.many = c.tw - c.fr
theorem DidOf.below {w w' : World} {d : DidD} {c : CoreD} (h : DidOf w d c) (hb : Below w.heap.size w w') : DidOf w' d c := ⟨h.h, h.m.below hb, h.o.below hb, h.fr, h.many⟩
theorem Ints.one {k : IntKind} {w : World} {v : Value} {l : List Int} (h : Ints k w v l) : v.oneCell' = true := by
  obtain ⟨ao, cap, rfl, _⟩ := h.open
  rfl
theorem DidOf.ok {w : World} {d : DidD} {c : CoreD} (h : DidOf w d c) (wf : c.Wf) : d.Ok := ⟨by rw [h.h]; exact wf.h.len, h.m.one, h.o.one⟩
theorem DidOf.set {w : World} {d : DidD} {c : CoreD} (h : DidOf w d c) (r x : Int) : DidOf w (d.set r x) (c.set r x) := ⟨by show d.h.setReg r x = c.h.setReg r x; rw [h.h], h.m, h.o, h.fr, h.many⟩
theorem DidOf.trap {w : World} {d : DidD} {c : CoreD} (h : DidOf w d c) (x : Int) : DidOf w (d.trap x) (c.trap x) := ⟨by show d.h.trap x = c.h.trap x; rw [h.h], h.m, h.o, h.fr, h.many⟩
theorem DidOf.setPc {w : World} {d : DidD} {c : CoreD} (h : DidOf w d c) (x : Int) : DidOf w { d with h := { d.h with pc := x } } (c.setPc x) := ⟨by show ({ d.h with pc := x } : Hart) = { c.h with pc := x }; rw [h.h], h.m, h.o, h.fr, h.many⟩
theorem DidOf.hold {w : World} {d : DidD} {c : CoreD} (h : DidOf w d c) (b : Bool) (x : Int) : DidOf w { d with h := { d.h with held := b, heldAt := x } } (c.hold b x) := ⟨by show ({ d.h with held := b, heldAt := x } : Hart) = { c.h with held := b, heldAt := x }; rw [h.h], h.m, h.o, h.fr, h.many⟩
theorem DidOf.put {w : World} {d : DidD} {c : CoreD} {v : Value} {op at_ x : Int} (h : DidOf w d c) (hq : mStoreOk c.m op at_ = true) (ha : U32 at_) (hl : c.m.length ≤ 4096) (hv : Ints .u8 w v (mStore c.m op at_ x)) :
    DidOf w { d with vm := v, fr := at_, many := msize op } (c.put op at_ x) := by
  have hs : 0 < msize op ∧ at_ + msize op ≤ c.m.length := by simp [mStoreOk, there] at hq; omega
  have ha1 := ha.1
  have e : c.put op at_ x = { c with m := mStore c.m op at_ x, fr := at_, tw := (at_ + msize op) % 4294967296 } := by unfold CoreD.put; rw [if_pos hq]
  rw [e]
  refine ⟨h.h, hv, h.o, rfl, ?_⟩
  show msize op = (at_ + msize op) % 4294967296 - at_
  omega
theorem fresh_ne {v : Value} {S R : Nat} (hf : ∀ q, v.ownBlock = some q → S ≤ q) (hR : R < S) : ∀ b off n c, v = .slice (some ⟨b, off, none⟩) n c → R ≠ b := fun b off n c e => by
  have := hf b (by rw [e]; rfl)
  omega
theorem DidOf.setCells {w : World} {d : DidD} {c : CoreD} (h : DidOf w d c) {R : Nat} (h1 : ∀ b off n c, d.vm = .slice (some ⟨b, off, none⟩) n c → R ≠ b) (h2 : ∀ b off n c, d.vo = .slice (some ⟨b, off, none⟩) n c → R ≠ b) (o : Nat) (vs : List Value) : DidOf (w.setCells R o vs) d c :=
  ⟨h.h, sl_setCells h1 _ _ _ h.m, sl_setCells h2 _ _ _ h.o, h.fr, h.many⟩
theorem put_hold (c : CoreD) (b : Bool) (x op at_ y : Int) : (c.hold b x).put op at_ y = (c.put op at_ y).hold b x := by
  unfold CoreD.put CoreD.hold
  dsimp only
  split <;> rfl
theorem store_load (l : List Int) (a : Int) : mStoreOk l 18 a = mLoadOk l 13 a := rfl
theorem DBox.begin2 {w : World} {tD : TypeId} {d : DidD} {z : Array Value} {o : Obj} (hz : z.size = 41) : DBox w.heap.size (w.heap.size + 2) tD (((w.alloc (.cells (dcells d) tD)).alloc o).alloc (.cells z tD)) d := by
  have hB : Below (w.heap.size + 1) (w.alloc (.cells (dcells d) tD)) (((w.alloc (.cells (dcells d) tD)).alloc o).alloc (.cells z tD)) := (Below.alloc (Below.refl _ _) (by simp) _).alloc (by simp) _
  refine ⟨(box_did d w tD).below (by have := hB; simpa using this), fun o => ?_, fun j hj => ?_⟩
  · rw [hB.frozen (p := ⟨w.heap.size, o, none⟩) (by show w.heap.size < _; omega)]
    unfold World.frozen?; rw [heap_alloc_new]; simp
  · have hn : (((w.alloc (.cells (dcells d) tD)).alloc o).alloc (.cells z tD)).heap[w.heap.size + 2]? = some (.cells z tD (0, 0)) := by
      have := heap_alloc_new ((w.alloc (.cells (dcells d) tD)).alloc o) (.cells z tD)
      simpa using this
    exact ⟨by unfold World.cell?; rw [hn]; simp; omega, by unfold World.frozen?; rw [hn]; simp⟩
theorem size_setCells (b : Nat) : ∀ (vs : List Value) (o : Nat) (w : World), (w.setCells b o vs).heap.size = w.heap.size
  | [], _, _ => rfl
  | v :: r, o, w => by rw [World.setCells, size_setCells b r]; simp
theorem there_begin (h : Hart) {w : World} {tH tD : TypeId} : ((w.alloc (.cells (hcells h) tH)).alloc (.cells (dcells did0) tD)).there (w.heap.size + 1) 0 41 := fun j hj => by
  have hn : ((w.alloc (.cells (hcells h) tH)).alloc (.cells (dcells did0) tD)).heap[w.heap.size + 1]? = some (.cells (dcells did0) tD (0, 0)) := by
    have := heap_alloc_new (w.alloc (.cells (hcells h) tH)) (.cells (dcells did0) tD)
    simpa using this
  have hz : (dcells did0).size = 41 := rfl
  exact ⟨by unfold World.cell?; rw [hn]; simp; omega, by unfold World.frozen?; rw [hn]; simp⟩
theorem DBox.begin3 {w : World} {tD : TypeId} {d : DidD} {R : Nat} (hR : w.there R 0 41) (hl : R < w.heap.size) : DBox w.heap.size R tD (w.alloc (.cells (dcells d) tD)) d := by
  refine ⟨box_did d w tD, fun o => ?_, World.there_alloc hR _⟩
  unfold World.frozen?; rw [heap_alloc_new]; simp
theorem ints_inj {k : IntKind} {w : World} {v : Value} {l m : List Int} (h : Ints k w v l) (h' : Ints k w v m) : l = m := by
  obtain ⟨ao, cap, rfl, _, _, _, ho⟩ := h.open
  obtain ⟨ao', cap', e, _, _, _, ho'⟩ := h'.open
  injection e with e1 e2 e3
  subst e1
  by_cases hl : l = []
  · rw [hl] at e2
    rw [hl]
    exact (List.eq_nil_of_length_eq_zero (by simpa using e2.symm)).symm
  · have hm : m ≠ [] := by
      intro e; rw [e] at e2; exact hl (List.eq_nil_of_length_eq_zero (by simpa using e2))
    obtain ⟨b, off, rfl, _, hc⟩ := ho hl
    obtain ⟨b', off', e4, _, hc'⟩ := ho' hm
    injection e4 with e4
    injection e4 with e5 e6
    subst e5 e6
    apply List.ext_getElem e2
    intro i h1 h2
    have x1 := hc i h1
    have x2 := hc' i h2
    rw [x1] at x2
    injection x2 with x2
    injection x2 with _ x2
    rw [List.getD, List.getD, List.getElem?_eq_getElem h1, List.getElem?_eq_getElem h2] at x2
    exact x2
theorem ints_old {k : IntKind} {w w' wf : World} {v : Value} {l m : List Int} (h : Ints k w v l) (h' : Ints k w' v m) (hb : Below w.heap.size w w') (hf : Below w.heap.size w wf) : Ints k wf v m := by
  have := ints_inj (h.below hb) h'
  subst this
  exact h.below hf
end Go.Proofs.Ytlfnddmncbkjaab.Fb
namespace Go.Proofs.Ytlfnddmncbkjaab.Fb
open Go.RowKit
structure HB (B R : Nat) (w : World) (h : Hart) : Prop where
  at_ : At w B 0 (hlist h)
  frz : ∀ o, w.frozen? ⟨B, o, none⟩ = false
  there : w.there R 0 37
  len : h.regs.length = 32
theorem HB.lt {B R : Nat} {w : World} {h : Hart} (k : HB B R w h) : B < w.heap.size := by
  have := k.at_ 0 (by rw [hlist_len k.len]; omega)
  exact lt_of_cell this
theorem HB.rlt {B R : Nat} {w : World} {h : Hart} (k : HB B R w h) : R < w.heap.size := by
  have := (k.there 0 (by omega)).1
  cases e : w.cell? ⟨R, 0 + 0, none⟩ with
  | none => rw [e] at this; cases this
  | some v => exact lt_of_cell e
theorem HB.set {B R : Nat} {w : World} {h h' : Hart} (k : HB B R w h) (j : Nat) (v : Value) (hj : j < 37) (hl : hlist h' = (hlist h).set j v) (hl2 : h'.regs.length = 32) : HB B R (w.setCell ⟨B, j, none⟩ v) h' :=
  ⟨by rw [hl]; have := k.at_.set j (by rw [hlist_len k.len]; exact hj) v; simpa using this, fun o => (World.frozen?_setCell _ _ _ _).trans (k.frz o), there_setCell k.there _ rfl _, hl2⟩
theorem HB.get {B R : Nat} {w : World} {h : Hart} (k : HB B R w h) {j : Nat} {v : Value} (hj : (hlist h)[j]? = some v) : w.cell? ⟨B, j, none⟩ = some v := by
  have := k.at_.get hj
  simpa using this
theorem there_block {w w' : World} {R n : Nat} (h : w.there R 0 n) (e : w'.heap[R]? = w.heap[R]?) : w'.there R 0 n := fun j hj => ⟨by rw [cell_block e]; exact (h j hj).1, by rw [frozen_block e]; exact (h j hj).2⟩
theorem HB.move {B R : Nat} {w w' : World} {h : Hart} (k : HB B R w h) (e1 : w'.heap[B]? = w.heap[B]?) (e2 : w'.heap[R]? = w.heap[R]?) : HB B R w' h :=
  ⟨fun j hj => (cell_block e1 _).trans (k.at_ j hj), fun o => (frozen_block e1 o).trans (k.frz o), there_block k.there e2, k.len⟩
theorem HB.begin (w : World) (t : TypeId) : HB (w.heap.size + 1) w.heap.size ((w.alloc (.cells (hcells hart0) t)).alloc (.cells (hcells hart0) t)) hart0 := by
  have hb : Below (w.heap.size + 1) (w.alloc (.cells (hcells hart0) t)) ((w.alloc (.cells (hcells hart0) t)).alloc (.cells (hcells hart0) t)) := Below.alloc (Below.refl _ _) (by simp) _
  have hz : (hcells hart0).size = 37 := rfl
  refine ⟨?_, fun o => ?_, fun j hj => ?_, rfl⟩
  · have := at_alloc (w.alloc (.cells (hcells hart0) t)) (hlist hart0) t (0, 0)
    rw [World.size_alloc] at this
    exact this
  · have := heap_alloc_new (w.alloc (.cells (hcells hart0) t)) (.cells (hcells hart0) t)
    have h2 : (w.alloc (.cells (hcells hart0) t)).heap.size = w.heap.size + 1 := by simp
    rw [h2] at this
    unfold World.frozen?
    rw [this]; simp
  · have e := hb.block w.heap.size (by omega)
    rw [heap_alloc_new] at e
    have hj2 : 0 + j < (hcells hart0).size := by omega
    exact ⟨by unfold World.cell?; rw [e]; simp; omega, by unfold World.frozen?; rw [e]; simp⟩
theorem RdAt.other {rp : Nat} {w : World} {s : Rd} (h : RdAt rp w s) {p : Addr} (hp : rp < p.block) (u : Value) : RdAt rp (w.setCell p u) s := by
  obtain ⟨v, h1, h2, h3⟩ := h.v
  have hne : ∀ o, (w.setCell p u).cell? ⟨rp, o, none⟩ = w.cell? ⟨rp, o, none⟩ := fun o => World.cell?_setCell_other _ _ _ _ (by intro e; rw [e] at hp; exact absurd hp (Nat.lt_irrefl _))
  exact ⟨⟨v, (hne _).trans h1, ints_set h2 h3 (Nat.le_of_lt hp) u, h3⟩, (hne _).trans h.bad, fun o => (World.frozen?_setCell _ _ _ _).trans (h.frz o), by simpa using h.lt⟩
end Go.Proofs.Ytlfnddmncbkjaab.Fb
namespace Go.Proofs.Ytlfnddmncbkjaab.Fb
open Go.RowKit
theorem owns_apart {B B' : Nat} {e e' : TypeId} {k k' : Nat} {v v' : Value} {n n' : Nat} {xs xs' : List Value} {w : World} (h : w.ownsRow B e k v n xs) (h' : w.ownsRow B' e' k' v' n' xs') (hne : e ≠ e') : ∀ g, v.ownBlock = some g → v'.ownBlock ≠ some g := by
  intro g h1 h2
  rcases h.2 with ⟨rfl, _⟩ | ⟨g1, _, c1, rfl, _, e1, _⟩
  · cases h1
  rcases h'.2 with ⟨rfl, _⟩ | ⟨g2, _, c2, rfl, _, e2, _⟩
  · cases h2
  cases h1; cases h2
  rw [e1] at e2
  cases e2
  exact hne rfl
structure MB (mp : Nat) (t8 tH : TypeId) (vm vh : Value) (w : World) (mem : List Int) (hs : List Hart) : Prop where
  c0 : w.cell? ⟨mp, 0, none⟩ = some vm
  c1 : w.cell? ⟨mp, 1, none⟩ = some vh
  frz : ∀ o, w.frozen? ⟨mp, o, none⟩ = false
  own0 : w.ownsRow (mp + 1) t8 1 vm mem.length (mem.map (Value.int .u8))
  own1 : w.ownsRow (mp + 1) tH 37 vh hs.length (hs.flatMap hlist)
section
variable {mp : Nat} {t8 tH : TypeId} {vm vh : Value} {w w' : World} {mem : List Int} {hs : List Hart}
theorem MB.lt (h : MB mp t8 tH vm vh w mem hs) : mp < w.heap.size := lt_of_cell h.c0
theorem MB.move (h : MB mp t8 tH vm vh w mem hs) (hb : ∀ g, mp ≤ g → g < w.heap.size → w'.heap[g]? = w.heap[g]?) : MB mp t8 tH vm vh w' mem hs := by
  have e := hb mp (Nat.le_refl _) h.lt
  exact ⟨(cell_block e _).trans h.c0, (cell_block e _).trans h.c1, fun o => (frozen_block e o).trans (h.frz o), owns_block h.own0 (fun g hg => by have := h.own0.lt g hg; exact hb g (by omega) this.2), owns_block h.own1 (fun g hg => by have := h.own1.lt g hg; exact hb g (by omega) this.2)⟩
theorem MB.at (h : MB mp t8 tH vm vh w mem hs) : MachAt w vm vh ⟨mem, hs⟩ := ⟨owns_sl h.own0, owns_sl h.own1⟩
theorem MB.next {v' : Value} {x : Hart} (h : MB mp t8 tH vm vh w mem hs) (hne : t8 ≠ tH) (hown : w'.ownsRow (mp + 1) tH 37 v' (hs.length + 1) (hs.flatMap hlist ++ hlist x)) (hg : w.grownBy w' vh.ownBlock) : MB mp t8 tH vm v' (w'.setCell ⟨mp, 1, none⟩ v') mem (hs ++ [x]) := by
  have hfar : ∀ j, j < w.heap.size → vh.ownBlock ≠ some j → w'.heap[j]? = w.heap[j]? := fun j hj hn => hg.block j hj (fun e => hn e.symm)
  have e := hfar mp h.lt (fun e => by have := h.own1.lt _ e; omega)
  refine ⟨(World.cell?_setCell_other _ _ _ _ (by intro e; injection e with _ e2; omega)).trans ((cell_block e _).trans h.c0), World.cell?_setCell_same _ _ _ ((cell_block e _).trans h.c1), fun o => (World.frozen?_setCell _ _ _ _).trans ((frozen_block e o).trans (h.frz o)), ?_, ?_⟩
  · refine owns_block h.own0 (fun g hg' => ?_)
    have h1 := h.own0.lt g hg'
    exact (Below.heap_setCell _ _ _ _ (by show g ≠ mp; omega)).trans (hfar g h1.2 (owns_apart h.own0 h.own1 hne g hg'))
  · have := ownsRow_setCell_below hown (a := ⟨mp, 1, none⟩) (Nat.lt_succ_self mp) v'
    simpa using this
end
theorem RdAt.far {rp B : Nat} {w w' : World} {s : Rd} (h : RdAt rp w s) (hb : Below B w w') (hlt : rp < B) : RdAt rp w' s := by
  obtain ⟨v, h1, h2, h3⟩ := h.v
  have e := hb.block rp hlt
  refine ⟨⟨v, (cell_block e _).trans h1, ?_, h3⟩, (cell_block e _).trans h.bad, fun o => (frozen_block e o).trans (h.frz o), Nat.lt_of_lt_of_le h.lt hb.size⟩
  obtain ⟨k1, ao, cap, k2, k3, k4, k5, k6⟩ := h2
  refine ⟨k1, ao, cap, k2, k3, k4, k5, fun a ha hx => ⟨(k6 a ha hx).1, fun j hj => ?_⟩⟩
  have hne : s.1 ≠ [] := fun e => hx (by rw [e]; rfl)
  have hbl := h3 hne a.block (by rw [k2, ha]; rfl)
  exact (cell_block (hb.block a.block (by omega)) _).trans ((k6 a ha hx).2 j hj)
end Go.Proofs.Ytlfnddmncbkjaab.Fb
namespace Go.Proofs.Ytlfnddmncbkjaab.Fb
open Go.RowKit
structure RunD where
  h : Hart
  m : List Int
  out : List Int
  steps : Int
  stores : List (Int × Int)
  temps : List Int
  here : Int
  own : Bool
  over : Bool
  bf : Int
  bt : Int
def rg (p : Int × Int) : List Value := [.int .u32 p.1, .int .u32 p.2]
def RunD.get (d : RunD) (k : Nat) : Int := if k < 32 then d.h.regs.getD k 0 else d.temps.getD (k - 32) 0
def RunD.put (d : RunD) (k : Nat) (x : Int) : RunD := if 32 ≤ k then { d with temps := d.temps.set (k - 32) x } else { d with h := d.h.setReg k x }
def RunD.stop (d : RunD) (pc : Int) : RunD := { d with over := true, h := d.h.setPc pc }
def RunD.trap (d : RunD) (c : Int) : RunD := { d with over := true, h := (d.h.trap c).setPc d.here }
def hits (a bf bt : Int) (n : Nat) : Bool := (List.range n).any (fun k => decide (bf ≤ u32 (a + (k : Int)) ∧ u32 (a + (k : Int)) < bt))
def RunD.stored (d : RunD) (a : Int) (n : Nat) : RunD := { d with stores := d.stores ++ [(a, u32 (a + n))], own := d.own || hits a d.bf d.bt n }
structure RunD.Wf (d : RunD) : Prop where
  h : d.h.Wf
  m : Bytes d.m
  mlen : d.m.length ≤ 140737488351232
  out : ∀ x ∈ d.out, U32 x
  steps : i64ok d.steps
  stores : ∀ p ∈ d.stores, U32 p.1 ∧ U32 p.2
  tlen : d.temps.length = 4
  temps : ∀ x ∈ d.temps, U32 x
  here : U32 d.here
  bf : U32 d.bf
  bt : U32 d.bt
def r7tail (d : RunD) (vm vo vs : Value) : List Value := [vm, vo, .int .i64 d.steps, vs] ++ (d.temps.map (Value.int .u32) ++ [.int .u32 d.here, .bool d.own, .bool d.over, .int .u32 d.bf, .int .u32 d.bt])
def r7list (d : RunD) (vm vo vs : Value) : List Value := hlist d.h ++ r7tail d vm vo vs
section
variable {d : RunD} {vm vo vs : Value}
theorem r7_len (h : d.h.regs.length = 32) (ht : d.temps.length = 4) : (r7list d vm vo vs).length = 50 := by
  simp [r7list, r7tail, hlist, h, ht]
theorem r7_hart (h : d.h.regs.length = 32) {j : Nat} (hj : j < 37) : (r7list d vm vo vs)[j]? = (hlist d.h)[j]? := by
  unfold r7list
  rw [List.getElem?_append_left (by rw [hlist_len h]; exact hj)]
theorem r7_tail (h : d.h.regs.length = 32) (j : Nat) : (r7list d vm vo vs)[37 + j]? = (r7tail d vm vo vs)[j]? := by
  unfold r7list
  rw [List.getElem?_append_right (by rw [hlist_len h]; omega), hlist_len h, Nat.add_sub_cancel_left]
theorem r7_temp (h : d.h.regs.length = 32) (ht : d.temps.length = 4) {k : Nat} (hk : k < 4) : (r7list d vm vo vs)[41 + k]? = some (.int .u32 (d.temps.getD k 0)) := by
  have := r7_tail (vm := vm) (vo := vo) (vs := vs) h (4 + k)
  rw [show 37 + (4 + k) = 41 + k by omega] at this
  rw [this]
  unfold r7tail
  rw [List.getElem?_append_right (by simp), List.getElem?_append_left (by simp; omega)]
  simp [List.getD, show k < d.temps.length by omega]
theorem r7_end (h : d.h.regs.length = 32) (ht : d.temps.length = 4) (j : Nat) : (r7list d vm vo vs)[45 + j]? = [Value.int .u32 d.here, .bool d.own, .bool d.over, .int .u32 d.bf, .int .u32 d.bt][j]? := by
  have := r7_tail (vm := vm) (vo := vo) (vs := vs) h (8 + j)
  rw [show 37 + (8 + j) = 45 + j by omega] at this
  rw [this]
  unfold r7tail
  rw [List.getElem?_append_right (by simp; omega), show 8 + j - [vm, vo, Value.int .i64 d.steps, vs].length = 4 + j by simp; omega, List.getElem?_append_right (by simp [ht]), show 4 + j - (d.temps.map (Value.int .u32)).length = j by simp [ht]]
theorem r7_setHart (h : d.h.regs.length = 32) {j : Nat} {v : Value} (hj : j < 37) {h' : Hart} (e : hlist h' = (hlist d.h).set j v) : (r7list d vm vo vs).set j v = r7list { d with h := h' } vm vo vs := by
  unfold r7list
  rw [List.set_append_left _ _ (by rw [hlist_len h]; exact hj), ← e]
  rfl
theorem r7_setTail (h : d.h.regs.length = 32) {j : Nat} {v : Value} {d' : RunD} {vm' vo' vs' : Value} (hh : d'.h = d.h) (e : r7tail d' vm' vo' vs' = (r7tail d vm vo vs).set j v) : (r7list d vm vo vs).set (37 + j) v = r7list d' vm' vo' vs' := by
  unfold r7list
  rw [List.set_append_right _ _ (by rw [hlist_len h]; omega), hlist_len h, Nat.add_sub_cancel_left, ← e, hh]
theorem r7_setTemp (h : d.h.regs.length = 32) (ht : d.temps.length = 4) {k : Nat} (hk : k < 4) (x : Int) : (r7list d vm vo vs).set (41 + k) (.int .u32 x) = r7list { d with temps := d.temps.set k x } vm vo vs := by
  have := r7_setTail (vm := vm) (vo := vo) (vs := vs) (d := d) (j := 4 + k) (v := .int .u32 x) (d' := { d with temps := d.temps.set k x }) (vm' := vm) (vo' := vo) (vs' := vs) h rfl (by
    unfold r7tail
    rw [List.set_append_right _ _ (by simp), show 4 + k - [vm, vo, Value.int .i64 d.steps, vs].length = k by simp, List.set_append_left _ _ (by simp; omega), List.map_set])
  rw [show 37 + (4 + k) = 41 + k by omega] at this
  exact this
theorem r7_setEnd (h : d.h.regs.length = 32) (ht : d.temps.length = 4) {j : Nat} {v : Value} {d' : RunD} (hh : d'.h = d.h) (hs : d'.steps = d.steps) (htm : d'.temps = d.temps) (e : [Value.int .u32 d'.here, .bool d'.own, .bool d'.over, .int .u32 d'.bf, .int .u32 d'.bt] = [Value.int .u32 d.here, .bool d.own, .bool d.over, .int .u32 d.bf, .int .u32 d.bt].set j v) :
    (r7list d vm vo vs).set (45 + j) v = r7list d' vm vo vs := by
  have := r7_setTail (vm := vm) (vo := vo) (vs := vs) (d := d) (j := 8 + j) (v := v) (d' := d') (vm' := vm) (vo' := vo) (vs' := vs) h hh (by
    unfold r7tail
    rw [List.set_append_right _ _ (by simp; omega), show 8 + j - [vm, vo, Value.int .i64 d.steps, vs].length = 4 + j by simp; omega, List.set_append_right _ _ (by simp [ht]), show 4 + j - (d.temps.map (Value.int .u32)).length = j by simp [ht], hs, htm, e])
  rw [show 37 + (8 + j) = 45 + j by omega] at this
  exact this
end
theorem r7ints_keep {k : IntKind} {w w' : World} {v : Value} {l : List Int} (h : Ints k w v l) (hk : l ≠ [] → ∀ q, v.ownBlock = some q → w'.heap[q]? = w.heap[q]?) : Ints k w' v l := by
  obtain ⟨hl, ao, cap, e, q1, q2, q3, q4⟩ := h
  refine ⟨hl, ao, cap, e, q1, q2, q3, fun x hx hn => ?_⟩
  obtain ⟨hs, ha⟩ := q4 x hx hn
  have hb := hk (by intro e2; rw [e2] at hn; exact hn rfl) x.block (by rw [e, hx]; rfl)
  exact ⟨hs, fun j hj => (cell_block hb _).trans (ha j hj)⟩
structure R7 (rp : Nat) (TO TS : TypeId) (w : World) (d : RunD) (vm vo vs : Value) : Prop where
  wf : d.Wf
  at_ : At w rp 0 (r7list d vm vo vs)
  frz : ∀ o, w.frozen? ⟨rp, o, none⟩ = false
  mem : Ints .u8 w vm d.m
  out : w.ownsRow (rp + 1) TO 1 vo d.out.length (d.out.map (Value.int .u32))
  sto : w.ownsRow (rp + 1) TS 2 vs d.stores.length (d.stores.flatMap rg)
  mlt : d.m ≠ [] → ∀ q, vm.ownBlock = some q → q < w.heap.size ∧ q ≠ rp ∧ vo.ownBlock ≠ some q ∧ vs.ownBlock ≠ some q
  apart : ∀ q, vo.ownBlock = some q → vs.ownBlock ≠ some q
structure G7 (rp : Nat) (w : World) (vo vs : Value) (w' : World) (vo' vs' : Value) : Prop where
  os : w'.os = w.os
  tape : w'.tape = w.tape
  output : w'.output = w.output
  size : w.heap.size ≤ w'.heap.size
  block : ∀ k, k < w.heap.size → k ≠ rp → vo.ownBlock ≠ some k → vs.ownBlock ≠ some k → w'.heap[k]? = w.heap[k]?
  vo : ∀ q, vo'.ownBlock = some q → vo.ownBlock = some q ∨ w.heap.size ≤ q
  vs : ∀ q, vs'.ownBlock = some q → vs.ownBlock = some q ∨ w.heap.size ≤ q
section
variable {rp : Nat} {TO TS : TypeId} {w w' w'' : World} {d d' : RunD} {vm vo vs vo' vs' vo'' vs'' : Value}
theorem G7.refl : G7 rp w vo vs w vo vs := ⟨rfl, rfl, rfl, Nat.le_refl _, fun _ _ _ _ _ => rfl, fun _ h => .inl h, fun _ h => .inl h⟩
theorem G7.trans (h : G7 rp w vo vs w' vo' vs') (k : G7 rp w' vo' vs' w'' vo'' vs'') : G7 rp w vo vs w'' vo'' vs'' :=
  ⟨k.os.trans h.os, k.tape.trans h.tape, k.output.trans h.output, Nat.le_trans h.size k.size, fun j hj h1 h2 h3 =>
    (k.block j (Nat.lt_of_lt_of_le hj h.size) h1 (fun e => (h.vo j e).elim h2 (fun e2 => absurd hj (Nat.not_lt.2 e2))) (fun e => (h.vs j e).elim h3 (fun e2 => absurd hj (Nat.not_lt.2 e2)))).trans (h.block j hj h1 h2 h3),
    fun q e => (k.vo q e).elim (fun e2 => h.vo q e2) (fun e2 => .inr (Nat.le_trans h.size e2)),
    fun q e => (k.vs q e).elim (fun e2 => h.vs q e2) (fun e2 => .inr (Nat.le_trans h.size e2))⟩
theorem G7.below (hb : Below w.heap.size w w') : G7 rp w vo vs w' vo vs := ⟨hb.os, hb.tape, hb.output, hb.size, fun k hk _ _ _ => hb.block k hk, fun _ h => .inl h, fun _ h => .inl h⟩
theorem G7.set (o : Nat) (v : Value) : G7 rp w vo vs (w.setCell ⟨rp, o, none⟩ v) vo vs :=
  ⟨rfl, rfl, rfl, by simp, fun k _ h1 _ _ => Below.heap_setCell _ _ _ _ (by show k ≠ rp; exact h1), fun _ h => .inl h, fun _ h => .inl h⟩
theorem R7.lt (h : R7 rp TO TS w d vm vo vs) : rp < w.heap.size := by
  have h1 := h.at_ 0 (by rw [r7_len h.wf.h.len h.wf.tlen]; omega)
  exact lt_of_cell h1
theorem R7.below (h : R7 rp TO TS w d vm vo vs) (hb : Below w.heap.size w w') : R7 rp TO TS w' d vm vo vs :=
  ⟨h.wf, h.at_.below hb, fun o => (hb.frozen (p := ⟨rp, o, none⟩) h.lt).trans (h.frz o), h.mem.below hb, owns_below h.out hb, owns_below h.sto hb, fun hn q e => by have := h.mlt hn q e; exact ⟨Nat.lt_of_lt_of_le this.1 hb.size, this.2⟩, h.apart⟩
theorem r7_setCell (h : R7 rp TO TS w d vm vo vs) (i : Nat) (hi : i < 50) (v : Value) (hl : (r7list d vm vo vs).set i v = r7list d' vm vo vs) (hm : d'.m = d.m) (ho : d'.out = d.out) (hs : d'.stores = d.stores) (wf : d'.Wf) : R7 rp TO TS (w.setCell ⟨rp, i, none⟩ v) d' vm vo vs := by
  refine ⟨wf, ?_, fun o => (World.frozen?_setCell _ _ _ _).trans (h.frz o), ?_, ?_, ?_, fun hn q e => by have := h.mlt (by rw [← hm]; exact hn) q e; exact ⟨by simpa using this.1, this.2⟩, h.apart⟩
  · have := h.at_.set i (by rw [r7_len h.wf.h.len h.wf.tlen]; exact hi) v
    rw [Nat.zero_add, hl] at this
    exact this
  · rw [hm]
    exact r7ints_keep h.mem (fun hn q e => Below.heap_setCell _ _ _ _ (by show q ≠ rp; exact (h.mlt hn q e).2.1))
  · rw [ho]; exact ownsRow_setCell_below h.out (a := ⟨rp, i, none⟩) (Nat.lt_succ_self rp) v
  · rw [hs]; exact ownsRow_setCell_below h.sto (a := ⟨rp, i, none⟩) (Nat.lt_succ_self rp) v
theorem G7.keeps (h : G7 rp w vo vs w' vo' vs') {b off : Nat} {xs : List Value} (ha : At w b off xs) (h1 : b ≠ rp) (h2 : vo.ownBlock ≠ some b) (h3 : vs.ownBlock ≠ some b) : At w' b off xs := fun j hj =>
  (World.cell?_of_block (h.block b (lt_of_cell (ha j hj)) h1 h2 h3)).trans (ha j hj)
end
end Go.Proofs.Ytlfnddmncbkjaab.Fb
namespace Go.Proofs.Ytlfnddmncbkjaab.Fb
open Go.RowKit
section
variable {rp : Nat} {TO TS : TypeId} {w w2 w3 : World} {d : RunD} {vm vo vs v' : Value}
theorem r7_sto (hne : TO ≠ TS) (h : R7 rp TO TS w d vm vo vs) (hb : Below w.heap.size w w2) {p : Int × Int} (hp : U32 p.1 ∧ U32 p.2)
    (hown : w3.ownsRow (rp + 1) TS 2 v' (d.stores.length + 1) (d.stores.flatMap rg ++ rg p)) (hg : w2.grownBy w3 vs.ownBlock) (hk : ∀ k, v'.ownBlock = some k → vs.ownBlock = some k ∨ w2.heap.size ≤ k) :
    R7 rp TO TS (w3.setCell ⟨rp, 40, none⟩ v') { d with stores := d.stores ++ [p] } vm vo v' ∧ G7 rp w vo vs (w3.setCell ⟨rp, 40, none⟩ v') vo v' := by
  have h2 := h.below hb
  have hrp : vs.ownBlock ≠ some rp := fun e => by have := (h2.sto.lt rp e).1; omega
  have e2 : ∀ k, k < w2.heap.size → vs.ownBlock ≠ some k → w3.heap[k]? = w2.heap[k]? := fun k hk1 hk2 => hg.block k hk1 (fun e => hk2 e.symm)
  have hat : At w3 rp 0 (r7list d vm vo vs) := fun j hj => (World.cell?_of_block (e2 rp h2.lt hrp)).trans (h2.at_ j hj)
  have hfz : ∀ o, w3.frozen? ⟨rp, o, none⟩ = false := fun o => (World.frozen?_of_block (e2 rp h2.lt hrp)).trans (h2.frz o)
  have hmem : Ints .u8 w3 vm d.m := r7ints_keep h2.mem (fun hn q e => by have hq := h2.mlt hn q e; exact e2 q hq.1 hq.2.2.2)
  have hout : w3.ownsRow (rp + 1) TO 1 vo d.out.length (d.out.map (Value.int .u32)) := owns_block h2.out (fun g e => e2 g (h2.out.lt g e).2 (h2.apart g e))
  have hwf : ({ d with stores := d.stores ++ [p] } : RunD).Wf := { h.wf with stores := fun q hq => (List.mem_append.1 hq).elim (h.wf.stores q) (fun hq => (List.mem_singleton.1 hq) ▸ hp) }
  refine ⟨⟨hwf, ?_, fun o => (World.frozen?_setCell _ _ _ _).trans (hfz o), ?_, ?_, ?_, fun hn q e => ?_, fun q e e3 => ?_⟩, ?_⟩
  · have := hat.set 40 (by rw [r7_len h.wf.h.len h.wf.tlen]; omega) v'
    rw [Nat.zero_add, r7_setTail (j := 3) (d' := { d with stores := d.stores ++ [p] }) (vm' := vm) (vo' := vo) (vs' := v') h.wf.h.len rfl rfl] at this
    exact this
  · exact r7ints_keep hmem (fun hn q e => Below.heap_setCell _ _ _ _ (by show q ≠ rp; exact (h2.mlt hn q e).2.1))
  · exact ownsRow_setCell_below hout (a := ⟨rp, 40, none⟩) (Nat.lt_succ_self rp) v'
  · have := ownsRow_setCell_below hown (a := ⟨rp, 40, none⟩) (Nat.lt_succ_self rp) v'
    simpa using this
  · have hq := h2.mlt hn q e
    refine ⟨by have := hg.size; simp; omega, hq.2.1, hq.2.2.1, fun e3 => ?_⟩
    rcases hk q e3 with e4 | e4
    · exact hq.2.2.2 e4
    · omega
  · rcases hk q e3 with e4 | e4
    · exact h2.apart q e e4
    · have := (h2.out.lt q e).2; omega
  · refine ⟨hg.os.trans hb.os, hg.tape.trans hb.tape, hg.output.trans hb.output, ?_, fun k hk1 hk2 hk3 hk4 => ?_, fun q e => .inl e, fun q e => ?_⟩
    · have := hb.size; have := hg.size; simp; omega
    · rw [Below.heap_setCell _ _ _ _ (by show k ≠ rp; exact hk2), e2 k (by have := hb.size; omega) hk4]
      exact hb.block k hk1
    · rcases hk q e with e4 | e4
      · exact .inl e4
      · exact .inr (Nat.le_trans hb.size e4)
theorem r7_out (hne : TO ≠ TS) (h : R7 rp TO TS w d vm vo vs) (hb : Below w.heap.size w w2) {p : Int} (hp : U32 p)
    (hown : w3.ownsRow (rp + 1) TO 1 v' (d.out.length + 1) (d.out.map (Value.int .u32) ++ [.int .u32 p])) (hg : w2.grownBy w3 vo.ownBlock) (hk : ∀ k, v'.ownBlock = some k → vo.ownBlock = some k ∨ w2.heap.size ≤ k) :
    R7 rp TO TS (w3.setCell ⟨rp, 38, none⟩ v') { d with out := d.out ++ [p] } vm v' vs ∧ G7 rp w vo vs (w3.setCell ⟨rp, 38, none⟩ v') v' vs := by
  have h2 := h.below hb
  have hrp : vo.ownBlock ≠ some rp := fun e => by have := (h2.out.lt rp e).1; omega
  have e2 : ∀ k, k < w2.heap.size → vo.ownBlock ≠ some k → w3.heap[k]? = w2.heap[k]? := fun k hk1 hk2 => hg.block k hk1 (fun e => hk2 e.symm)
  have hat : At w3 rp 0 (r7list d vm vo vs) := fun j hj => (World.cell?_of_block (e2 rp h2.lt hrp)).trans (h2.at_ j hj)
  have hfz : ∀ o, w3.frozen? ⟨rp, o, none⟩ = false := fun o => (World.frozen?_of_block (e2 rp h2.lt hrp)).trans (h2.frz o)
  have hmem : Ints .u8 w3 vm d.m := r7ints_keep h2.mem (fun hn q e => by have hq := h2.mlt hn q e; exact e2 q hq.1 hq.2.2.1)
  have hsto : w3.ownsRow (rp + 1) TS 2 vs d.stores.length (d.stores.flatMap rg) := owns_block h2.sto (fun g e => e2 g (h2.sto.lt g e).2 (fun e4 => h2.apart g e4 e))
  have hwf : ({ d with out := d.out ++ [p] } : RunD).Wf := { h.wf with out := fun q hq => (List.mem_append.1 hq).elim (h.wf.out q) (fun hq => (List.mem_singleton.1 hq) ▸ hp) }
  refine ⟨⟨hwf, ?_, fun o => (World.frozen?_setCell _ _ _ _).trans (hfz o), ?_, ?_, ?_, fun hn q e => ?_, fun q e e3 => ?_⟩, ?_⟩
  · have := hat.set 38 (by rw [r7_len h.wf.h.len h.wf.tlen]; omega) v'
    rw [Nat.zero_add, r7_setTail (j := 1) (d' := { d with out := d.out ++ [p] }) (vm' := vm) (vo' := v') (vs' := vs) h.wf.h.len rfl rfl] at this
    exact this
  · exact r7ints_keep hmem (fun hn q e => Below.heap_setCell _ _ _ _ (by show q ≠ rp; exact (h2.mlt hn q e).2.1))
  · have := ownsRow_setCell_below hown (a := ⟨rp, 38, none⟩) (Nat.lt_succ_self rp) v'
    simpa using this
  · exact ownsRow_setCell_below hsto (a := ⟨rp, 38, none⟩) (Nat.lt_succ_self rp) v'
  · have hq := h2.mlt hn q e
    refine ⟨by have := hg.size; simp; omega, hq.2.1, fun e3 => ?_, hq.2.2.2⟩
    rcases hk q e3 with e4 | e4
    · exact hq.2.2.1 e4
    · omega
  · rcases hk q e with e4 | e4
    · exact h2.apart q e4 e3
    · have := (h2.sto.lt q e3).2; omega
  · refine ⟨hg.os.trans hb.os, hg.tape.trans hb.tape, hg.output.trans hb.output, ?_, fun k hk1 hk2 hk3 hk4 => ?_, fun q e => ?_, fun q e => .inl e⟩
    · have := hb.size; have := hg.size; simp; omega
    · rw [Below.heap_setCell _ _ _ _ (by show k ≠ rp; exact hk2), e2 k (by have := hb.size; omega) hk3]
      exact hb.block k hk1
    · rcases hk q e with e4 | e4
      · exact .inl e4
      · exact .inr (Nat.le_trans hb.size e4)
theorem r7_mem (h : R7 rp TO TS w d vm vo vs) (hb : Below w.heap.size w w2) {vm' : Value} {m' : List Int} (hm : Ints .u8 w2 vm' m') (hf : ∀ q, vm'.ownBlock = some q → w.heap.size ≤ q ∧ q < w2.heap.size) (hby : Bytes m') (hl : m'.length ≤ 140737488351232) :
    R7 rp TO TS (w2.setCell ⟨rp, 37, none⟩ vm') { d with m := m' } vm' vo vs ∧ G7 rp w vo vs (w2.setCell ⟨rp, 37, none⟩ vm') vo vs := by
  have h2 := h.below hb
  have hlt := h.lt
  refine ⟨⟨{ h.wf with m := hby, mlen := hl }, ?_, fun o => (World.frozen?_setCell _ _ _ _).trans (h2.frz o), ?_, ?_, ?_, fun _ q e => ?_, h.apart⟩, (G7.below hb).trans (G7.set 37 _)⟩
  · have := h2.at_.set 37 (by rw [r7_len h.wf.h.len h.wf.tlen]; omega) vm'
    rw [Nat.zero_add, r7_setTail (j := 0) (d' := { d with m := m' }) (vm' := vm') (vo' := vo) (vs' := vs) h.wf.h.len rfl rfl] at this
    exact this
  · exact hm.set_other (p := ⟨rp, 37, none⟩) (fun b off n c e => by have := (hf b (by rw [e]; rfl)).1; exact fun e3 => by have e4 : rp = b := e3; omega) vm'
  · exact ownsRow_setCell_below h2.out (a := ⟨rp, 37, none⟩) (Nat.lt_succ_self rp) vm'
  · exact ownsRow_setCell_below h2.sto (a := ⟨rp, 37, none⟩) (Nat.lt_succ_self rp) vm'
  · have hq := hf q e
    refine ⟨by simpa using hq.2, by omega, fun e3 => ?_, fun e3 => ?_⟩
    · have := (h.out.lt q e3).2; omega
    · have := (h.sto.lt q e3).2; omega
end
theorem hits_next (a bf bt : Int) (k : Nat) : hits a bf bt (k + 1) = (hits a bf bt k || decide (bf ≤ u32 (a + (k : Int)) ∧ u32 (a + (k : Int)) < bt)) := by
  unfold hits
  rw [List.range_succ, List.any_append]
  simp
end Go.Proofs.Ytlfnddmncbkjaab.Fb
namespace Go.Proofs.Ytlfnddmncbkjaab.Fb
open Go.RowKit
structure St.Good (s : St) : Prop where
  wf : s.Wf
  ok : ∀ h ∈ s.harts, h.ok = true
  ol : s.out.length ≤ s.steps
theorem St.Good.hart {s : St} (h : s.Good) (k : Nat) : (s.hart k).ok = true := by
  by_cases hk : k < s.harts.length
  · rw [St.hart_at hk]; exact h.ok _ (List.getElem_mem hk)
  · unfold St.hart; rw [List.getD, List.getElem?_eq_none (by omega)]; rfl
def St.mach (s : St) : Mach := ⟨s.mem, s.harts⟩
def St.pre (o : List Int) (n : Nat) (s : St) : St := ⟨s.harts, s.mem, o ++ s.out, n + s.steps⟩
end Go.Proofs.Ytlfnddmncbkjaab.Fb
namespace Go.Proofs.Ytlfnddmncbkjaab.Fb
open Go.RowKit
def Rng (d : CoreD) : Prop := (d.fr = 0 ∧ d.tw = 0) ∨ (0 ≤ d.fr ∧ d.fr < d.tw ∧ d.tw ≤ d.m.length)
theorem Rng.put {d : CoreD} (h : Rng d) (hl : d.m.length ≤ 4096) (op a x : Int) (ha : 0 ≤ a) : Rng (d.put op a x) := by
  unfold CoreD.put
  split
  · rename_i hq
    have hs : 0 < msize op ∧ a + msize op ≤ d.m.length := by simp [mStoreOk, there] at hq; omega
    refine .inr ⟨ha, ?_, ?_⟩
    · show a < (a + msize op) % 4294967296
      omega
    · show (a + msize op) % 4294967296 ≤ ((mStore d.m op a x).length : Int)
      rw [mStore_length]
      omega
  · exact h
theorem ite_rng {P : CoreD → Prop} {c : Prop} [Decidable c] {a b : CoreD} (h1 : c → P a) (h2 : ¬ c → P b) : P (if c then a else b) := by split; exact h1 ‹_›; exact h2 ‹_›
theorem atomS_rng {d : CoreD} (h : Rng d) (hl : d.m.length ≤ 4096) (op a b : Int) (ha : 0 ≤ a) : Rng (atomS d op a b).1 := by
  unfold atomS
  split
  · split
    · exact h
    · split
      · split
        · exact h.put hl 18 a b ha
        · exact h
      · exact h.put hl 18 a _ ha
  · exact h
theorem callS_rng {d : CoreD} (h : Rng d) : Rng (callS d).1 := by
  unfold callS
  split
  · exact h
  · split
    · exact h
    · exact h
theorem doS_rng {d : CoreD} (h : Rng d) (hl : d.m.length ≤ 4096) (hr : ∀ k, 0 ≤ d.h.reg k) (i : InsD) : Rng (doS i d) := by
  unfold doS
  dsimp only
  repeat' (with_reducible refine ite_rng (P := Rng) (fun _ => ?_) (fun _ => ?_))
  all_goals first
    | exact h
    | exact h.put hl _ _ _ (Int.emod_nonneg _ (by decide))
    | exact atomS_rng h hl i.op (d.h.reg i.rs1) (d.h.reg i.rs2) (hr _)
    | exact callS_rng h
theorem goS_rng (h : Hart) (wf : h.Wf) (l : List Int) (hl : l.length ≤ 4096) : Rng (goS ⟨h, l, [], 0, 0⟩) := by
  have h0 : Rng (CoreD.none ⟨h, l, [], 0, 0⟩) := .inl ⟨rfl, rfl⟩
  unfold goS
  split
  · exact doS_rng h0 hl (fun k => (reg_u wf k).1) _
  · exact h0
end Go.Proofs.Ytlfnddmncbkjaab.Fb
namespace Go.Proofs.Ytlfnddmncbkjaab.Fb
open Go.RowKit
structure PB (bp bh hc : Nat) (vm vo : Value) (ty : TypeId) (w : World) (s : St) : Prop where
  b1 : bp < bh
  c0 : w.cell? ⟨bp, 0, none⟩ = some vm
  c1 : w.cell? ⟨bp, 1, none⟩ = some (.slice (some ⟨bh, 0, none⟩) s.harts.length hc)
  c2 : w.cell? ⟨bp, 2, none⟩ = some vo
  c3 : w.cell? ⟨bp, 3, none⟩ = some (.int .i64 s.steps)
  frz : ∀ o, w.frozen? ⟨bp, o, none⟩ = false
  harts : At w bh 0 (s.harts.flatMap hlist)
  hlt : bh < w.heap.size
  hfz : ∀ o, w.frozen? ⟨bh, o, none⟩ = false
  bytes : Ints .u8 w vm s.mem
  mlt : s.mem ≠ [] → ∀ k, vm.ownBlock = some k → bp < k ∧ k ≠ bh ∧ vo.ownBlock ≠ some k
  own : w.ownsRow (bh + 1) ty 1 vo s.out.length (s.out.map (Value.int .u32))
  hcap : s.harts.length ≤ hc ∧ hc ≤ maxLen
theorem ints_lt {k : IntKind} {w : World} {v : Value} {l : List Int} (h : Ints k w v l) (hl : l ≠ []) {g : Nat} (e : v.ownBlock = some g) : g < w.heap.size := by
  obtain ⟨ao, cap, rfl, _, _, _, ho⟩ := h.open
  obtain ⟨b, off, rfl, _, hx⟩ := ho hl
  cases e
  exact lt_of_cell (hx 0 (List.length_pos_iff.2 hl))
theorem ints_move {k : IntKind} {w w' : World} {v : Value} {l : List Int} (h : Ints k w v l) (hb : l ≠ [] → ∀ g, v.ownBlock = some g → w'.heap[g]? = w.heap[g]?) : Ints k w' v l := by
  by_cases hl : l = []
  · subst hl
    obtain ⟨h1, ao, cap, h2, h3, h4, h5, h6⟩ := h
    exact ⟨h1, ao, cap, h2, h3, h4, h5, fun a ha hx => absurd rfl hx⟩
  · exact sl_block h (hb hl)
section
variable {bp bh hc k : Nat} {vm vo : Value} {ty : TypeId} {w w' : World} {s : St}
theorem PB.lt (h : PB bp bh hc vm vo ty w s) : bp < w.heap.size := lt_of_cell h.c0
theorem PB.below (h : PB bp bh hc vm vo ty w s) (hb : Below w.heap.size w w') : PB bp bh hc vm vo ty w' s := by
  have e := hb.block bp h.lt
  have eh := hb.block bh h.hlt
  exact ⟨h.b1, (cell_block e _).trans h.c0, (cell_block e _).trans h.c1, (cell_block e _).trans h.c2, (cell_block e _).trans h.c3, fun o => (frozen_block e o).trans (h.frz o), h.harts.below hb, Nat.lt_of_lt_of_le h.hlt hb.size, fun o => (frozen_block eh o).trans (h.hfz o), h.bytes.below hb, h.mlt, owns_below h.own hb, h.hcap⟩
theorem PB.tick (h : PB bp bh hc vm vo ty w s) (n : Nat) : PB bp bh hc vm vo ty (w.setCell ⟨bp, 3, none⟩ (.int .i64 n)) { s with steps := n } := by
  have b1 := h.b1
  have hbk : ∀ j, j ≠ bp → (w.setCell ⟨bp, 3, none⟩ (.int .i64 n)).heap[j]? = w.heap[j]? := fun j hj => Below.heap_setCell _ _ _ _ (by show j ≠ bp; exact hj)
  have hc : ∀ j, j ≠ 3 → (w.setCell ⟨bp, 3, none⟩ (.int .i64 n)).cell? ⟨bp, j, none⟩ = w.cell? ⟨bp, j, none⟩ := fun j hj => World.cell?_setCell_other _ _ _ _ (by intro e; injection e with _ e2; omega)
  exact ⟨h.b1, (hc 0 (by omega)).trans h.c0, (hc 1 (by omega)).trans h.c1, (hc 2 (by omega)).trans h.c2, World.cell?_setCell_same _ _ _ h.c3, fun o => (World.frozen?_setCell _ _ _ _).trans (h.frz o), h.harts.set_other (by show bp ≠ bh; omega) _, by have := h.hlt; simpa using this, fun o => (World.frozen?_setCell _ _ _ _).trans (h.hfz o), ints_move h.bytes (fun hm g hg => hbk g (by have := h.mlt hm g hg; omega)), h.mlt, owns_block h.own (fun g hg => hbk g (by have := h.own.lt g hg; omega)), h.hcap⟩
theorem PB.out {v' : Value} {o : List Int} (h : PB bp bh hc vm vo ty w s) (hown : w'.ownsRow (bh + 1) ty 1 v' (s.out.length + o.length) (s.out.map (Value.int .u32) ++ o.map (Value.int .u32))) (hg : w.grownBy w' vo.ownBlock) (hf : ∀ k, v'.ownBlock = some k → vo.ownBlock = some k ∨ w.heap.size ≤ k) :
    PB bp bh hc vm v' ty (w'.setCell ⟨bp, 2, none⟩ v') { s with out := s.out ++ o } ∧ Below bp w (w'.setCell ⟨bp, 2, none⟩ v') ∧ (∀ g, g < w.heap.size → g ≠ bp → vo.ownBlock ≠ some g → (w'.setCell ⟨bp, 2, none⟩ v').heap[g]? = w.heap[g]?) := by
  have b1 := h.b1
  have hlt := h.lt
  have hh := h.hlt
  have hsz := hg.size
  have hfar : ∀ j, j < w.heap.size → vo.ownBlock ≠ some j → w'.heap[j]? = w.heap[j]? := fun j hj hn => hg.block j hj (fun e => hn e.symm)
  have hbk : ∀ j, j ≠ bp → (w'.setCell ⟨bp, 2, none⟩ v').heap[j]? = w'.heap[j]? := fun j hj => Below.heap_setCell _ _ _ _ (by show j ≠ bp; exact hj)
  have hno : ∀ j, j ≤ bh → vo.ownBlock ≠ some j := fun j hj e => by have := h.own.lt j e; omega
  have e := hfar bp hlt (hno bp (by omega))
  have eh := (hbk bh (by omega)).trans (hfar bh hh (hno bh (Nat.le_refl _)))
  have hcc : ∀ j, j ≠ 2 → (w'.setCell ⟨bp, 2, none⟩ v').cell? ⟨bp, j, none⟩ = w.cell? ⟨bp, j, none⟩ := fun j hj => (World.cell?_setCell_other _ _ _ _ (by intro e; injection e with _ e2; omega)).trans (cell_block e j)
  refine ⟨⟨h.b1, (hcc 0 (by omega)).trans h.c0, (hcc 1 (by omega)).trans h.c1, World.cell?_setCell_same _ _ _ ((cell_block e 2).trans h.c2), (hcc 3 (by omega)).trans h.c3, fun o => (World.frozen?_setCell _ _ _ _).trans ((frozen_block e o).trans (h.frz o)), fun j hj => (cell_block eh _).trans (h.harts j hj), by simp; omega, fun o => (frozen_block eh o).trans (h.hfz o), ints_move h.bytes (fun hne g hg' => ?_), fun hne g hg' => ?_, ?_, h.hcap⟩, ?_, fun g h1 h2 h3 => (hbk g h2).trans (hfar g h1 h3)⟩
  · have := h.mlt hne g hg'
    exact (hbk g (by omega)).trans (hfar g (ints_lt h.bytes hne hg') this.2.2)
  · have := h.mlt hne g hg'
    refine ⟨this.1, this.2.1, fun e2 => ?_⟩
    have hl := ints_lt h.bytes hne hg'
    rcases hf g e2 with e3 | e3
    · exact this.2.2 e3
    · omega
  · have := ownsRow_setCell_below hown (a := ⟨bp, 2, none⟩) (by show bp < bh + 1; omega) v'
    simpa using this
  · exact ((Below.refl bp w).grown hg (by omega) (fun g e => by have := h.own.lt g e; omega)).setCell (p := ⟨bp, 2, none⟩) (Nat.le_refl _) _
theorem PB.lost {hs : List Hart} (h : PB bp bh hc vm vo ty w s) (hl : hs.length = s.harts.length) (ha : At w' bh 0 (hs.flatMap hlist)) (hg : Chg (fun p => p.block = bh) w w') :
    PB bp bh hc vm vo ty w' { s with harts := hs } := by
  have b1 := h.b1
  have hlt := h.lt
  have hh := h.hlt
  have hsz := hg.size
  have hbk : ∀ j, j < w.heap.size → j ≠ bh → w'.heap[j]? = w.heap[j]? := fun j hj hn => hg.block j hj (fun o e => hn e)
  have e := hbk bp hlt (by omega)
  exact ⟨h.b1, (cell_block e _).trans h.c0, (cell_block e _).trans (by rw [h.c1, ← hl]), (cell_block e _).trans h.c2, (cell_block e _).trans h.c3, fun o => (frozen_block e o).trans (h.frz o), ha, by omega, fun o => (hg.frozen ⟨bh, o, none⟩ hh).trans (h.hfz o), ints_move h.bytes (fun hne g hg' => hbk g (ints_lt h.bytes hne hg') (h.mlt hne g hg').2.1), h.mlt, owns_block h.own (fun g hg' => hbk g (h.own.lt g hg').2 (by have := h.own.lt g hg'; omega)), by rw [show ({ s with harts := hs } : St).harts.length = s.harts.length from hl]; exact h.hcap⟩
end
end Go.Proofs.Ytlfnddmncbkjaab.Fb
namespace Go.Proofs.Ytlfnddmncbkjaab.Fb
open Go.RowKit
structure ShownAt (w : World) (vm vh vo : Value) (s : St) : Prop where
  mach : MachAt w vm vh s.mach
  out : Ints .u32 w vo s.out
theorem ShownAt.setCells {w : World} {vm vh vo : Value} {s : St} (h : ShownAt w vm vh vo s) {b : Nat} (h1 : ∀ k, vm.ownBlock = some k → b < k) (h2 : ∀ k, vh.ownBlock = some k → b < k) (h3 : ∀ k, vo.ownBlock = some k → b < k) (o : Nat) (vs : List Value) : ShownAt (w.setCells b o vs) vm vh vo s :=
  ⟨⟨sl_setCells (fun b' off n c e => by have := h1 b' (by rw [e]; rfl); omega) _ _ _ h.mach.1, sl_setCells (fun b' off n c e => by have := h2 b' (by rw [e]; rfl); omega) _ _ _ h.mach.2⟩, sl_setCells (fun b' off n c e => by have := h3 b' (by rw [e]; rfl); omega) _ _ _ h.out⟩
theorem there_blk {w : World} {b n : Nat} {cs : Array Value} {t : TypeId} (h : w.heap[b]? = some (.cells cs t (0, 0))) (hn : cs.size = n) : w.there b 0 n := fun j hj => by
  have hj2 : 0 + j < cs.size := by omega
  exact ⟨by unfold World.cell?; rw [h]; simp; omega, by unfold World.frozen?; rw [h]; simp⟩
section
variable {bp bh hc cp k : Nat} {vm vo : Value} {ty : TypeId} {o0 o : List Int} {fr tw : Int} {w w' : World} {s : St}
theorem Bd.shown (h : Bd bp bh hc vm vo ty w s) (hw : ∀ x ∈ s.harts, x.Wf) : ShownAt w vm (.slice (some ⟨bh, 0, none⟩) s.harts.length hc) vo s := by
  refine ⟨⟨h.bytes, ?_, _, hc, rfl, h.hcap.1, h.hcap.2, (by intro e; cases e), fun a ha _ => ?_⟩, owns_sl h.own⟩
  · show (s.harts.flatMap hlist).length = s.harts.length * 37
    have : ∀ l : List Hart, (∀ x ∈ l, x.Wf) → (l.flatMap hlist).length = l.length * 37 := fun l => by
      induction l with
      | nil => intro _; rfl
      | cons x r ih =>
        intro hx
        rw [List.flatMap_cons, List.length_append, ih (fun y hy => hx y (by simp [hy])), hlist_length (hx x (by simp)), List.length_cons]
        omega
    exact this _ hw
  · cases ha
    exact ⟨rfl, h.harts⟩
theorem Wk.any (h : Wk bp bh hc cp k vm vo ty o0 o fr tw w s) (x : List Int) : Wk bp bh hc cp k vm vo ty o0 o fr tw w { s with out := x } :=
  ⟨h.core, h.b1, h.b2, h.c0, h.c1, h.c2, h.c3, h.frz, h.harts, h.mlt, h.own, h.vlt, h.kl, h.hcap⟩
end
end Go.Proofs.Ytlfnddmncbkjaab.Fb
namespace Go.Proofs.Ytlfnddmncbkjaab.Fb
open Go.RowKit
theorem PB.begin {w : World} {B bp bh hc : Nat} {vm x : Value} {t ty : TypeId} {m : Mach} (b1 : bp < B) (b2 : bp < bh) (c0 : w.cell? ⟨bp, 0, none⟩ = some vm) (c1 : w.cell? ⟨bp, 1, none⟩ = some x) (c2 : w.cell? ⟨bp, 2, none⟩ = some (.slice none 0 0)) (c3 : w.cell? ⟨bp, 3, none⟩ = some (.int .i64 0))
    (frz : ∀ o, w.frozen? ⟨bp, o, none⟩ = false) (hm : w.ownsRow B t 1 vm m.mem.length (m.mem.map (Value.int .u8))) (hvm : ∀ k, vm.ownBlock = some k → k ≠ bh) (hat : At w bh 0 (m.harts.flatMap hlist)) (hlt : bh < w.heap.size) (hfz : ∀ o, w.frozen? ⟨bh, o, none⟩ = false) (hcap : m.harts.length ≤ hc ∧ hc ≤ maxLen) :
    PB bp bh hc vm (.slice none 0 0) ty (w.setCell ⟨bp, 1, none⟩ (.slice (some ⟨bh, 0, none⟩) m.harts.length hc)) (startM m) := by
  have hc : ∀ j, j ≠ 1 → (w.setCell ⟨bp, 1, none⟩ (.slice (some ⟨bh, 0, none⟩) m.harts.length hc)).cell? ⟨bp, j, none⟩ = w.cell? ⟨bp, j, none⟩ := fun j hj => World.cell?_setCell_other _ _ _ _ (by intro e; injection e with _ e2; omega)
  refine ⟨b2, (hc 0 (by omega)).trans c0, World.cell?_setCell_same _ _ _ c1, (hc 2 (by omega)).trans c2, (hc 3 (by omega)).trans c3, fun o => (World.frozen?_setCell _ _ _ _).trans (frz o), hat.set_other (by show bp ≠ bh; omega) _, by simpa using hlt, fun o => (World.frozen?_setCell _ _ _ _).trans (hfz o), ?_, fun _ k e => ⟨?_, hvm k e, by intro e2; cases e2⟩, World.ownsRow_nil _ _ _ _, hcap⟩
  · exact ints_move (by have := owns_sl hm; unfold Ints; exact this) (fun _ g hg => Below.heap_setCell _ _ _ _ (by show g ≠ bp; have := hm.lt g hg; omega))
  · have := hm.lt k e; omega
section
variable {bp bh hc : Nat} {vm vo : Value} {ty : TypeId} {w : World} {s : St}
theorem PB.shown (h : PB bp bh hc vm vo ty w s) (hw : ∀ x ∈ s.harts, x.Wf) : ShownAt w vm (.slice (some ⟨bh, 0, none⟩) s.harts.length hc) vo s := by
  refine ⟨⟨h.bytes, ?_, _, hc, rfl, h.hcap.1, h.hcap.2, (by intro e; cases e), fun a ha _ => ?_⟩, owns_sl h.own⟩
  · exact flatMap_length hlist 37 (fun x hx => hlist_length (hw x hx))
  · cases ha
    exact ⟨rfl, h.harts⟩
theorem PB.hart (h : PB bp bh hc vm vo ty w s) (wf : s.Wf) {k : Nat} (hk : k < s.harts.length) : At w bh (k * 37) (hlist (s.hart k)) := by
  rw [St.hart_at hk]
  exact at_hart h.harts (fun x hx => hlist_length (wf.harts x hx)) hk
end
theorem heap_setCells {b j : Nat} (hj : j ≠ b) : ∀ (vs : List Value) (o : Nat) (w : World), (w.setCells b o vs).heap[j]? = w.heap[j]?
  | [], _, _ => rfl
  | v :: r, o, w => by rw [World.setCells, heap_setCells hj r]; exact Below.heap_setCell _ _ _ _ (by show j ≠ b; exact hj)
theorem at_set_all {w : World} {b o : Nat} {vs : List Value} (h : w.there b o vs.length) : At (w.setCells b o vs) b o vs := fun j hj =>
  World.rangeAt_setCells_same w b o vs h j vs[j] (by simp [hj])
theorem PB.far {bp bh hc b : Nat} {vm vo : Value} {ty : TypeId} {w : World} {s : St} (h : PB bp bh hc vm vo ty w s) (hb : b < bp) (o : Nat) (vs : List Value) : PB bp bh hc vm vo ty (w.setCells b o vs) s := by
  have b1 := h.b1
  have hk : ∀ g, bp ≤ g → (w.setCells b o vs).heap[g]? = w.heap[g]? := fun g hg => heap_setCells (by omega) _ _ _
  exact ⟨h.b1, (cell_block (hk bp (Nat.le_refl _)) _).trans h.c0, (cell_block (hk bp (Nat.le_refl _)) _).trans h.c1, (cell_block (hk bp (Nat.le_refl _)) _).trans h.c2, (cell_block (hk bp (Nat.le_refl _)) _).trans h.c3, fun o => (frozen_block (hk bp (Nat.le_refl _)) o).trans (h.frz o), fun j hj => (cell_block (hk bh (by omega)) _).trans (h.harts j hj), by simpa [size_setCells] using h.hlt, fun o => (frozen_block (hk bh (by omega)) o).trans (h.hfz o), ints_move h.bytes (fun hne g hg => hk g (by have := (h.mlt hne g hg).1; omega)), h.mlt, owns_block h.own (fun g hg => hk g (by have := (h.own.lt g hg).1; omega)), h.hcap⟩
theorem DidOf.lay {w : World} {d : DidD} {c : CoreD} (h : DidOf w d c) (ok : d.Ok) {bd : Nat} (hm : c.m ≠ [] → ∀ g, d.vm.ownBlock = some g → g ≠ bd) (ho : c.out ≠ [] → ∀ g, d.vo.ownBlock = some g → g ≠ bd) (ht : w.there bd 0 41) :
    DidOf (w.setCells bd 0 (dlist d)) d c ∧ At (w.setCells bd 0 (dlist d)) bd 0 (dlist d) :=
  ⟨⟨h.h, ints_move h.m (fun hne g hg => heap_setCells (hm hne g hg) _ _ _), ints_move h.o (fun hne g hg => heap_setCells (ho hne g hg) _ _ _), h.fr, h.many⟩, at_set_all (by rw [dlist_len ok]; exact ht)⟩
end Go.Proofs.Ytlfnddmncbkjaab.Fb
